/-
  THE BLOCKS of a core's code, matched, in plain Lean.
-/
import Derived.Test.YtnkkcmdomlkdmaaGreatDoorXEplA
import Derived.Test.YtnkkcmdomlkdmaaGreatDoorXEFM
import Derived.Test.YtnkkcmdomlkdmaaGreatDoorXEFH
set_option linter.unusedVariables false
namespace M
open Go.V (inB cJ af bU)
def fX(op:Int):Bool:=(op==24||op==25)||op==26
abbrev BS :=List aX×List Int
def jU(s:BS):Nat:=(s.2.getD (s.2.length-1) 0).toNat
def bV(s:BS):aX:=s.1.getD (jU s) aX.zero
def opAt(c:List aE)(at_:Int):Int:=(c.getD at_.toNat aE.zero).Op
def db(e:Int)(c:List aE)(k:Nat)(i:aE)(s:BS):Int⊕BS:=
 if fX i.Op=true then
  if s.2.length=6 then .inl 4 else .inr (s.1++[aX.mk (k:Int) (-1) e 0 (i.A==1)],s.2++[(s.1.length:Int)])
 else if i.Op=27 then
  if s.2.length=0 then .inl 5
  else if opAt c (bV s).At≠26\/0<=(bV s).Else then .inl 5
  else .inr (s.1.set (jU s) (aX.mk (bV s).At (k:Int) (bV s).End (bV s).Height (bV s).Result),s.2)
 else if i.Op=28 then
  if s.2.length=0 then .inl 5
  else if(opAt c (bV s).At=26/\(bV s).Result=true)/\(bV s).Else<0 then .inl 7
  else .inr (s.1.set (jU s) (aX.mk (bV s).At (bV s).Else (k:Int) (bV s).Height (bV s).Result),s.2.take (s.2.length-1))
 else .inr s
def eO(e:Int)(c:List aE):Nat->Nat->BS->(Int×Int)⊕BS
 |0,k,s=>.inr s
 |n+1,k,s=>match db e c k (c.getD k aE.zero) s with
  |.inl x=>.inl ((k:Int),x)
  |.inr s'=>eO e c n (k+1) s'
def strip(b:aX):aX:=aX.mk b.At b.Else 0 b.Height b.Result
def iT(s:BS):BS:=(s.1.map strip,s.2)
def lM{E A B:Type}(f:A->B):E⊕A->E⊕B
 |.inl e=>.inl e
 |.inr a=>.inr (f a)
theorem ake(s:BS):jU (iT s)=jU s:=rfl
theorem aCh(s:BS):bV (iT s)=strip (bV s):=by
 unfold bV;rw[ake];simp only[iT,aH,fL];cases s.1[jU s]?<;>rfl
theorem akf(e e':Int)(c:List aE)(k:Nat)(i:aE)(s:BS):lM iT (db e c k i s)=lM iT (db e' c k i (iT s)):=by
 have ht:=aCh s;unfold db;rw[ake,ht];have h2:(iT s).2=s.2:=rfl;have hl:(iT s).1.length=s.1.length:=by simp[iT]
 rw[h2,hl];have ha:(strip (bV s)).At=(bV s).At:=rfl;have hb:(strip (bV s)).Else=(bV s).Else:=rfl;have hc:(strip (bV s)).Result=(bV s).Result:=rfl;have hd:(strip (bV s)).Height=(bV s).Height:=rfl;have he:(strip (bV s)).End=0:=rfl;rw[ha,hb,hc,hd,he];have hm:∀b:aX,strip (strip b)=strip b:=fun b=>rfl
 have hmm:∀l:List aX,(l.map strip).map strip=l.map strip:=fun l=>by rw[FR];rfl
 repeat' split
 all_goals first
  |rfl
  |(simp only[lM,iT,xx,List.map_set,hmm,fB,List.map_nil];try rfl)
theorem akg(e e':Int)(c:List aE):∀(n k:Nat)(s s':BS),iT s=iT s'->lM iT (eO e c n k s)=lM iT (eO e' c n k s')
 |0,k,s,s',h=>by simp only[eO,lM,h]
 |n+1,k,s,s',h=>by
  have h1:lM iT (db e c k (c.getD k aE.zero) s)=lM iT (db e' c k (c.getD k aE.zero) s'):=by
   rw[akf e e' c k _ s,h,<-akf e' e' c k _ s']
  simp only[eO];cases hx:db e c k (c.getD k aE.zero) s with
  |inl x=>
   cases hy:db e' c k (c.getD k aE.zero) s' with
   |inl y=>rw[hx,hy]at h1;injection h1 with h1;rw[h1]
   |inr y=>rw[hx,hy]at h1;cases h1
  |inr x=>
   cases hy:db e' c k (c.getD k aE.zero) s' with
   |inl y=>rw[hx,hy]at h1;cases h1
   |inr y=>
    rw[hx,hy]at h1;injection h1 with h1;exact akg e e' c n (k+1) x y h1
def pr(b:aX):Int×Bool:=(b.At,b.Result)
def gG(s:BS):List (Int×Bool):=s.1.map pr
structure BInv (k:Nat) (s:BS):Prop where
 lt:∀x∈gG s,0<=x.1/\x.1<k
 inc:(gG s).Pairwise fun a b=>a.1<b.1
 opn:∀x∈s.2,0<=x/\x<s.1.length
 six:s.2.length<=6
 cnt:s.1.length<=k
theorem FG{k:Nat}{s:BS}(h:BInv k s)(h0:s.2.length≠0):jU s<s.1.length/\((jU s:Nat):Int)=s.2.getD (s.2.length-1) 0:=by
 have hm:s.2.getD (s.2.length-1) 0∈s.2:=by rw[getD_lt (by omega)];exact bA _
 have:=h.opn _ hm;unfold jU;omega
theorem Qg(l:List aX)(i:Nat)(b:aX)(h:pr b=pr (l.getD i aX.zero)):(l.set i b).map pr=l.map pr:=by
 rw[List.map_set,h];apply qL;intro j;rw[km];split
 ·rename_i e;subst e;split
  ·rename_i hl;rw[dC]at hl;rw[fL,getD_lt hl,bG hl];rfl
  ·rename_i hl;rw[ve (by omega)]
 ·rfl
theorem zT{e:Int}{c:List aE}{k:Nat}{i:aE}{s s':BS}(h:db e c k i s=.inr s'):
 (fX i.Op=true/\s.2.length≠6/\gG s'=gG s++[((k:Int),i.A==1)]/\s'.2=s.2++[(s.1.length:Int)])\/
 (fX i.Op=false/\gG s'=gG s/\((i.Op=27/\s.2.length≠0/\s'.2=s.2)\/(i.Op=28/\s.2.length≠0/\s'.2=s.2.take (s.2.length-1))\/(i.Op≠27/\i.Op≠28/\s'.2=s.2))):=by
 unfold db at h;by_cases ho:fX i.Op=true
 ·rw[cz ho]at h;by_cases h6:s.2.length=6
  ·rw[cz h6]at h;cases h
  ·rw[aw h6]at h;injection h with h;subst h;refine .inl ⟨ho,h6,?_,rfl⟩;simp only[gG,xx,fB,List.map_nil];rfl
 ·rw[aw ho]at h;have ho':fX i.Op=false:=by simpa using ho
  refine .inr ⟨ho',?_⟩;by_cases h27:i.Op=27
  ·rw[cz h27]at h;by_cases h0:s.2.length=0
   ·rw[cz h0]at h;cases h
   ·rw[aw h0]at h;by_cases hc:opAt c (bV s).At≠26\/0<=(bV s).Else
    ·rw[cz hc]at h;cases h
    ·rw[aw hc]at h;injection h with h;subst h;exact⟨Qg _ _ _ rfl,.inl ⟨h27,h0,rfl⟩⟩
  ·rw[aw h27]at h;by_cases h28:i.Op=28
   ·rw[cz h28]at h;by_cases h0:s.2.length=0
    ·rw[cz h0]at h;cases h
    ·rw[aw h0]at h;by_cases hc:(opAt c (bV s).At=26/\(bV s).Result=true)/\(bV s).Else<0
     ·rw[cz hc]at h;cases h
     ·rw[aw hc]at h;injection h with h;subst h;exact⟨Qg _ _ _ rfl,.inr (.inl ⟨h28,h0,rfl⟩)⟩
   ·rw[aw h28]at h;injection h with h;subst h;exact⟨rfl,.inr (.inr ⟨h27,h28,rfl⟩)⟩
theorem zU{e:Int}{c:List aE}{k:Nat}{i:aE}{s s':BS}(hI:BInv k s)(h:db e c k i s=.inr s'):BInv (k+1) s':=by
 have hlen:∀t:BS,(gG t).length=t.1.length:=fun t=>by simp[gG]
 rcases zT h with⟨_,h6,hp,ho⟩|⟨_,hp,ho⟩
 ·have hl:s'.1.length=s.1.length+1:=by rw[<-hlen s',hp,bq,hlen s];rfl
  refine⟨?_,?_,?_,?_,by have:=hI.cnt;omega⟩
  ·intro x hx;rw[hp]at hx;rcases dB.1 hx with hx|hx
   ·have:=hI.lt x hx;omega
   ·simp only[gz,BX,G5]at hx;subst hx;simp only;omega
  ·rw[hp,List.pairwise_append];refine⟨hI.inc,List.pairwise_singleton _ _,?_⟩;intro a ha b hb;simp only[gz,BX,G5]at hb;subst hb;exact(hI.lt a ha).2
  ·rw[ho];intro x hx;rcases dB.1 hx with hx|hx
   ·have:=hI.opn x hx;omega
   ·simp only[gz,BX,G5]at hx;subst hx;omega
  ·rw[ho,bq,aZ,bS];have:=hI.six;omega
 ·have hl:s'.1.length=s.1.length:=by rw[<-hlen s',hp,hlen s]
  refine⟨?_,by rw[hp];exact hI.inc,?_,?_,by have:=hI.cnt;omega⟩
  ·rw[hp];intro x hx;have:=hI.lt x hx;omega
  ·rw[hl];rcases ho with⟨_,_,ho⟩|⟨_,_,ho⟩|⟨_,_,ho⟩<;>rw[ho]
   ·exact hI.opn
   ·exact fun x hx=>hI.opn x (List.mem_of_mem_take hx)
   ·exact hI.opn
  ·rcases ho with⟨_,_,ho⟩|⟨_,_,ho⟩|⟨_,_,ho⟩<;>rw[ho]
   ·exact hI.six
   ·rw[gZ];have:=hI.six;omega
   ·exact hI.six
theorem zV:BInv 0 ([],[]):=⟨fun x hx=>by simp[gG]at hx,by simp[gG],fun x hx=>by simp at hx,by simp,by simp⟩
theorem LL{e:Int}{c:List aE}:∀(n k:Nat)(s B:BS),BInv k s->eO e c n k s=.inr B->(∃r,gG B=gG s++r)/\BInv (k+n) B
 |0,k,s,B,hI,h=>by
  simp only[eO]at h;injection h with h;subst h;exact⟨⟨[],by simp⟩,hI⟩
 |n+1,k,s,B,hI,h=>by
  simp only[eO]at h;cases hx:db e c k (c.getD k aE.zero) s with
  |inl x=>rw[hx]at h;cases h
  |inr s'=>
   rw[hx]at h;obtain⟨⟨r,hr⟩,hp⟩:=LL n (k+1) s' B (zU hI hx) h;refine⟨?_,by rw[show k+(n+1)=k+1+n by omega];exact hp⟩;rcases zT hx with⟨_,_,hp',_⟩|⟨_,hp',_⟩
   ·exact⟨[((k:Int),(c.getD k aE.zero).A==1)]++r,by rw[hr,hp',ib]⟩
   ·exact⟨r,by rw[hr,hp']⟩
theorem aCi{L:List (Int×Bool)}(h:L.Pairwise fun a b=>a.1<b.1){j:Nat}(hj:j<L.length)(p:Int×Bool->Bool)(hp:∀x,p x=(x.1==(L[j]).1)):L.findIdx? p=some j:=by
 rw[List.findIdx?_eq_some_iff_getElem];refine⟨hj,by rw[hp];simp,?_⟩;intro i hi;have:=xz.1 h i j (by omega) hj hi;rw[hp];simp only[hU];omega
end M
namespace M
open Go.V (inB cJ af bU)
def d5(b:Bool):Int:=bif b then 1 else 0
theorem mL(b:Bool):0<=d5 b/\d5 b<=1:=by cases b<;>decide
structure dD where
 eI:Int
 op:List Int
 ba:List Int
 h:Int
 kn:Bool
def dJ(s:dD):Int:=if s.ba.length=0 then 0 else s.ba.getD (s.ba.length-1) 0
def fY(P:List (Int×Bool))(s:dD):Int×Bool:=P.getD (s.op.getD (s.op.length-1) 0).toNat (0,false)
def jm(m:aN)(c:av)(i:aE)(s:dD):Bool:=
 if i.Op=2\/i.Op=3\/i.Op=4 then decide (i.A<c.Params+c.cO)
 else if i.Op=32 then decide (i.A<(m.aB.length:Int))
 else if i.Op=33 then decide (i.A<(m.al.length:Int))
 else if i.Op=29\/i.Op=30 then decide (i.A<=(s.op.length:Int))else true
def cE(m:aN)(i:aE):Int×Int:=
 if i.Op=1\/i.Op=2 then(0,1)
 else if i.Op=3\/i.Op=5\/i.Op=26\/i.Op=30 then(1,0)
 else if i.Op=4\/i.Op=22\/i.Op=34\/i.Op=35\/i.Op=36 then(1,1)
 else if i.Op=23 then(3,1)
 else if i.Op=37\/i.Op=38\/i.Op=39 then(2,0)
 else if i.Op=32 then((m.aB.getD i.A.toNat av.zero).Params,d5 (m.aB.getD i.A.toNat av.zero).Result)
 else if i.Op=33 then((m.al.getD i.A.toNat aO.zero).Params,d5 (m.al.getD i.A.toNat aO.zero).Result)
 else if i.Op=24\/i.Op=25\/i.Op=29\/i.Op=31\/i.Op=40 then(0,0)else(2,1)
def iU(c:av)(P:List (Int×Bool))(i:aE)(s:dD):Int:=
 if i.Op=31 then d5 c.Result
 else if i.Op=29\/i.Op=30 then
  if(s.op.length:Int)-1-i.A<0 then d5 c.Result
  else d5 ((P.getD (s.op.getD ((s.op.length:Int)-1-i.A).toNat 0).toNat (0,false)).2&& !(opAt c.Code (P.getD (s.op.getD ((s.op.length:Int)-1-i.A).toNat 0).toNat (0,false)).1==25))
 else 0
def kr(m:aN)(c:av)(P:List (Int×Bool))(i:aE)(s:dD):Int⊕dD:=
 if i.Op=27\/i.Op=28 then
  if s.kn=true/\s.h≠dJ s+d5 (fY P s).2 then .inl 7
  else if i.Op=27 then .inr {s with kn:=true,h:=dJ s}
  else if 24<dJ s+d5 (fY P s).2 then .inl 4
  else .inr {s with kn:=true,h:=dJ s+d5 (fY P s).2,op:=s.op.take (s.op.length-1),ba:=s.ba.take (s.ba.length-1)}
 else if s.kn=false then .inl 5
 else if jm m c i s=false then .inl 2
 else if s.h-(cE m i).1<dJ s then .inl 7
 else if 24<s.h-(cE m i).1+(cE m i).2 then .inl 4
 else if s.h-(cE m i).1+(cE m i).2-iU c P i s<dJ s then .inl 7
 else .inr {
  eI:=if fX i.Op=true then s.eI+1 else s.eI
  op:=if fX i.Op=true then s.op++[s.eI]else s.op
  ba:=if fX i.Op=true then s.ba++[s.h-(cE m i).1+(cE m i).2]else s.ba
  h:=s.h-(cE m i).1+(cE m i).2
  kn:= !(i.Op==29||i.Op==31||i.Op==40)}
def nJ(s:dD):da:=if s.kn=true then da.mk true s.h s.op else da.mk false 0 []
def mf(m:aN)(c:av)(P:List (Int×Bool)):Nat->Nat->dD->List da->(Int×Int)⊕(dD×List da)
 |0,k,s,a=>.inr (s,a)
 |n+1,k,s,a=>match kr m c P (c.Code.getD k aE.zero) s with
  |.inl x=>.inl ((k:Int),x)
  |.inr s'=>mf m c P n (k+1) s' (a++[nJ s])
structure ru (m:aN):Prop where
 iw:m.aB.length<=8
 imports:m.al.length<=12
 imp:∀x∈m.al,0<=x.Params/\x.Params<=8
 core:∀x∈m.aB,(0<=x.Params/\x.Params<=8)/\(0<=x.cO/\x.cO<=8)/\x.Code.length<=120
 ins:∀x∈m.aB,∀i∈x.Code,(1<=i.Op/\i.Op<=40)/\(i.Op≠1->0<=i.A/\i.A<=16777216)
structure uB (B:BS) (s:dD):Prop where
 op:s.op=B.2
 eI:s.eI=(B.1.length:Int)
 len:s.ba.length=s.op.length
 ba:∀x∈s.ba,0<=x/\x<=24
 h:0<=s.h/\s.h<=24
theorem Qh{B:BS}{s:dD}(h:uB B s):0<=dJ s/\dJ s<=24:=by
 unfold dJ;by_cases h0:s.ba.length=0
 ·rw[cz h0];omega
 ·rw[aw h0,getD_lt (by omega)];exact h.ba _ (bA _)
theorem Qi{m:aN}(hm:ru m)(i:aE):(0<=(cE m i).1/\(cE m i).1<=8)/\(0<=(cE m i).2/\(cE m i).2<=1):=by
 have hc:0<=(m.aB.getD i.A.toNat av.zero).Params/\(m.aB.getD i.A.toNat av.zero).Params<=8:=by
  rw[aH];cases h:m.aB[i.A.toNat]? with
  |none=>simp[av.zero]
  |some x=>exact(hm.core x (jS h)).1
 have hi:0<=(m.al.getD i.A.toNat aO.zero).Params/\(m.al.getD i.A.toNat aO.zero).Params<=8:=by
  rw[aH];cases h:m.al[i.A.toNat]? with
  |none=>simp[aO.zero]
  |some x=>exact hm.imp x (jS h)
 have b1:=mL (m.aB.getD i.A.toNat av.zero).Result;have b2:=mL (m.al.getD i.A.toNat aO.zero).Result;unfold cE
 repeat' split
 all_goals simp only
 all_goals omega
def Qj(m:aN)(i:aE)(s:dD):dD:={
    eI:=if fX i.Op=true then s.eI+1 else s.eI
    op:=if fX i.Op=true then s.op++[s.eI]else s.op
    ba:=if fX i.Op=true then s.ba++[s.h-(cE m i).1+(cE m i).2]else s.ba
    h:=s.h-(cE m i).1+(cE m i).2
    kn:= !(i.Op==29||i.Op==31||i.Op==40)}
theorem akh{m:aN}{c:av}{P:List (Int×Bool)}{i:aE}{s s':dD}(hn:¬(i.Op=27\/i.Op=28))(hc:kr m c P i s=.inr s'):
 (s.kn=true/\jm m c i s=true/\dJ s<=s.h-(cE m i).1/\s.h-(cE m i).1+(cE m i).2<=24)/\s'=Qj m i s:=by
 unfold kr at hc;rw[aw hn]at hc;by_cases q1:s.kn=false
 ·rw[cz q1]at hc;cases hc
 rw[aw q1]at hc;by_cases q2:jm m c i s=false
 ·rw[cz q2]at hc;cases hc
 rw[aw q2]at hc;by_cases q3:s.h-(cE m i).1<dJ s
 ·rw[cz q3]at hc;cases hc
 rw[aw q3]at hc;by_cases q4:24<s.h-(cE m i).1+(cE m i).2
 ·rw[cz q4]at hc;cases hc
 rw[aw q4]at hc;by_cases q5:s.h-(cE m i).1+(cE m i).2-iU c P i s<dJ s
 ·rw[cz q5]at hc;cases hc
 rw[aw q5]at hc;injection hc with hc;exact⟨⟨by simpa using q1,by simpa using q2,by omega,by omega⟩,hc.symm⟩
theorem aki{m:aN}{c:av}{P:List (Int×Bool)}{i:aE}{e:Int}{code:List aE}{k:Nat}{B B':BS}{s s':dD}(hm:ru m)(hI:uB B s)(hb:db e code k i B=.inr B')(hc:kr m c P i s=.inr s'):uB B' s':=by
 have hbl:=Qh hI;have htk:=Qi hm i;have hbit:=mL (fY P s).2;have hlen:∀t:BS,(gG t).length=t.1.length:=fun t=>by simp[gG]
 rcases zT hb with⟨ho,h6,hp,hop⟩|⟨ho,hp,hop⟩
 ·have hn:¬(i.Op=27\/i.Op=28):=by
   unfold fX at ho;simp only[gq,hU]at ho;omega
  have hl:B'.1.length=B.1.length+1:=by rw[<-hlen B',hp,bq,hlen B];rfl
  obtain⟨⟨q1,q2,q3,q4⟩,rfl⟩:=akh hn hc;unfold Qj;refine⟨?_,?_,?_,?_,?_⟩
  ·rw[hop,<-hI.op,<-hI.eI];simp only[ho,fJ]
  ·simp only[ho,fJ,hI.eI];omega
  ·simp only[ho,fJ,bq,hI.len,aZ,bS]
  ·simp only[ho,fJ];intro x hx;rcases dB.1 hx with hx|hx
   ·exact hI.ba x hx
   ·simp only[gz,BX,G5]at hx;subst hx;omega
  ·simp only;omega
 ·have hl:B'.1.length=B.1.length:=by rw[<-hlen B',hp,hlen B]
  by_cases hn:i.Op=27\/i.Op=28
  ·unfold kr at hc;rw[cz hn]at hc;split at hc
   ·cases hc
   ·split at hc
    ·rename_i q1 q2;injection hc with hc;subst hc;have h2:B'.2=B.2:=by
      rcases hop with⟨_,_,h⟩|⟨h,_,_⟩|⟨h,_,_⟩
      ·exact h
      ·omega
      ·omega
     exact⟨by rw[h2];exact hI.op,by rw[hl];exact hI.eI,hI.len,hI.ba,hbl⟩
    ·split at hc
     ·cases hc
     ·rename_i q1 q2 q3;injection hc with hc;subst hc;have h2:B'.2=B.2.take (B.2.length-1):=by
       rcases hop with⟨h,_,_⟩|⟨_,_,h⟩|⟨_,h,_⟩
       ·omega
       ·exact h
       ·omega
      refine⟨by rw[h2,<-hI.op],by rw[hl];exact hI.eI,?_,?_,?_⟩
      ·simp only[gZ,hI.len]
      ·simp only;exact fun x hx=>hI.ba x (List.mem_of_mem_take hx)
      ·simp only;omega
  ·have h2:B'.2=B.2:=by
    rcases hop with⟨h,_,_⟩|⟨h,_,_⟩|⟨_,_,h⟩
    ·omega
    ·omega
    ·exact h
   obtain⟨⟨q1,q2,q3,q4⟩,rfl⟩:=akh hn hc;unfold Qj;have hof:¬(fX i.Op=true):=by rw[ho];simp
   refine⟨?_,?_,?_,?_,?_⟩
   ·rw[h2];simp only[ho,gU,eS];exact hI.op
   ·simp only[ho,gU,eS,hl];exact hI.eI
   ·simp only[ho,gU,eS,hI.len]
   ·simp only[ho,gU,eS];exact hI.ba
   ·simp only;omega
end M
set_option linter.unusedSimpArgs false
namespace M
open Go.V (inB cJ af bU)
theorem LM{k:Nat}{s:BS}(h:BInv k s)(h0:s.2.length≠0):0<=(bV s).At/\(bV s).At<k:=by
 have h1:=(FG h h0).1;have hm:pr (bV s)∈gG s:=by
  unfold bV gG;rw[getD_lt h1];exact qh.2 ⟨_,bA h1,rfl⟩
 exact h.lt _ hm
theorem uC{n:Nat}(h0:n≠0)(h:n<=6):Go.IntKind.wrap .i64 ((n:Int)-1)=((n-1:Nat):Int):=by rw[wrap_i64 (by omega) (by omega)];omega
theorem rx{x:Int}{n:Nat}(h:0<=x/\x<n):inB x n=true:=by
 obtain⟨a,rfl⟩:=nL h.1;rw[bn,bw];omega
theorem akj(c:av)(hn:c.Code.length<=120):∀(f k:Nat)(s:BS),k<=c.Code.length->c.Code.length-k<f->BInv k s->
 M.pM c f (k:Int) s.1 s.2=some (match eO (-1) c.Code (c.Code.length-k) k s with
   |.inl p=>.inl (p.1,p.2,[])
   |.inr s'=>.inr (c,s'.1,s'.2))
 |0,k,s,h1,h2,_=>by omega
 |f+1,k,s,h1,h2,hI=>by
  rw[M.pM];rcases cG k c.Code.length with hk|hk
  ·obtain⟨r,hr⟩:∃r,c.Code.length-k=r+1:=⟨c.Code.length-k-1,by omega⟩;have hr':c.Code.length-(k+1)=r:=by omega
   have ih:=fun s' h=>akj c hn f (k+1) s' (by omega) (by omega) h
   rw[hr']at ih;rw[hr];simp only[eO];have hinv:=fun s' h=>zU (e:= -1) (c:=c.Code) (i:=c.Code.getD k aE.zero) (s':=s') hI h
   have hw:Go.IntKind.wrap .i64 ((k:Int)+1)=((k+1:Nat):Int):=bo hk (by omega);have h6:=hI.six;have hcnt:=hI.cnt;simp only[bz,bn,bH,hk,bj,cr,aQ,hw];generalize hi:c.Code.getD k aE.zero=i at hinv⊢;rw[show(i.Op==24||i.Op==25||i.Op==26)=fX i.Op from rfl];by_cases ho:fX i.Op=true
   ·rw[ho,cr];by_cases hl:s.2.length=6
    ·have hb:db (-1) c.Code k i s=.inl 4:=by unfold db;rw[cz ho,cz hl]
     rw[hb,hl];rfl
    ·have hb:db (-1) c.Code k i s=.inr (s.1++[aX.mk (k:Int) (-1) (-1) 0 (i.A==1)],s.2++[(s.1.length:Int)]):=by unfold db;rw[cz ho,aw hl]
     have q:(((s.2.length:Nat):Int)==6)=false:=by rw[d6];omega
     have d1:decide (s.1.length+1<=1073741824)=true:=by rw[bw];omega
     have d2:decide (s.2.length+1<=1073741824)=true:=by rw[bw];omega
     have:=ih _ (hinv _ hb);simp only[q,ef,aZ,bS,gV,d1,d2,bJ,cr];rw[hb];exact this
   ·have ho':fX i.Op=false:=by simpa using ho
    rw[ho',ef];by_cases h27:i.Op=27
    ·have b27:(i.Op==27)=true:=by rw[h27];rfl
     rw[b27,cr];by_cases h0:s.2.length=0
     ·have hb:db (-1) c.Code k i s=.inl 5:=by unfold db;rw[aw ho,cz h27,cz h0]
      rw[hb];simp[h0]
     ·have ht:=FG hI h0;have hat:=LM hI h0;have q:(((s.2.length:Nat):Int)==0)=false:=by rw[d6];omega
      have e1:=ht.2.symm;have hA:inB (bV s).At c.Code.length=true:=rx ⟨hat.1,by omega⟩;have hS:s.2.length-1<s.2.length:=by omega
      simp only[q,nN,uC h0 h6,bz,e1,bn,ht.1,hS,bj];rw[show List.getD s.1 (jU s) aX.zero=bV s from rfl,show(List.getD c.Code (Int.toNat (bV s).At) aE.zero).Op=opAt c.Code (bV s).At from rfl,hA];by_cases hc:opAt c.Code (bV s).At≠26\/0<=(bV s).Else
      ·have hb:db (-1) c.Code k i s=.inl 5:=by unfold db;rw[aw ho,cz h27,aw h0,cz hc]
       have hq:((opAt c.Code (bV s).At !=26)||decide (0<=(bV s).Else))=true:=by rw[gq,qj,bw];exact hc
       rw[hb,hq];simp
      ·have hb:db (-1) c.Code k i s=.inr (s.1.set (jU s) (aX.mk (bV s).At (k:Int) (bV s).End (bV s).Height (bV s).Result),s.2):=by unfold db;rw[aw ho,cz h27,aw h0,aw hc]
       have hq:((opAt c.Code (bV s).At !=26)||decide (0<=(bV s).Else))=false:=by
        rw[kR,ne_eq,gq,qj,bw];exact hc
       have:=ih _ (hinv _ hb);rw[hb,hq];simp only[ef,cg,bJ,cr];exact this
    ·have b27:(i.Op==27)=false:=by rw[d6];exact h27
     rw[b27,ef];by_cases h28:i.Op=28
     ·have b28:(i.Op==28)=true:=by rw[h28];rfl
      rw[b28,cr];by_cases h0:s.2.length=0
      ·have hb:db (-1) c.Code k i s=.inl 5:=by unfold db;rw[aw ho,aw h27,cz h28,cz h0]
       rw[hb,h0];rfl
      ·have ht:=FG hI h0;have hat:=LM hI h0;have q:(((s.2.length:Nat):Int)==0)=false:=by rw[d6];omega
       have e1:=ht.2.symm;have hA:inB (bV s).At c.Code.length=true:=rx ⟨hat.1,by omega⟩;have hS:s.2.length-1<s.2.length:=by omega
       have hsl:cJ (0:Int) ((s.2.length-1:Nat):Int) s.2.length=true:=by unfold cJ;simp
       simp only[q,ef,uC h0 h6,bz,e1,bn,ht.1,hS,bj,hsl];rw[show List.getD s.1 (jU s) aX.zero=bV s from rfl,show(List.getD c.Code (Int.toNat (bV s).At) aE.zero).Op=opAt c.Code (bV s).At from rfl,hA];by_cases hc:(opAt c.Code (bV s).At=26/\(bV s).Result=true)/\(bV s).Else<0
       ·have hb:db (-1) c.Code k i s=.inl 7:=by unfold db;rw[aw ho,aw h27,cz h28,aw h0,cz hc]
        have hq:(((opAt c.Code (bV s).At==26)&&(bV s).Result)&&decide ((bV s).Else<0))=true:=by rw[bD,bD,hU,bw];exact hc
        rw[hb,hq];rfl
       ·have hb:db (-1) c.Code k i s=.inr (s.1.set (jU s) (aX.mk (bV s).At (bV s).Else (k:Int) (bV s).Height (bV s).Result),s.2.take (s.2.length-1)):=by unfold db;rw[aw ho,aw h27,cz h28,aw h0,aw hc]
        have hq:(((opAt c.Code (bV s).At==26)&&(bV s).Result)&&decide ((bV s).Else<0))=false:=by rw[kR,ne_eq,bD,bD,hU,bw];exact hc
        have:=ih _ (hinv _ hb);rw[hb,hq];simp only[ef,bJ,cr];exact this
     ·have b28:(i.Op==28)=false:=by rw[d6];exact h28
      have hb:db (-1) c.Code k i s=.inr s:=by unfold db;rw[aw ho,aw h27,aw h28]
      have:=ih _ (hinv _ hb);rw[b28,ef,hb];exact this
  ·have:k=c.Code.length:=by omega
   subst this;simp[eO]
def lN(e:Int)(c:av):(Int×Int)⊕List aX:=
 match eO e c.Code c.Code.length 0 ([],[])with
 |.inl p=>.inl p
 |.inr s=>if s.2.length=0 then .inr s.1 else .inl ((c.Code.length:Int),5)
theorem aCj(c:av)(hn:c.Code.length<=120):M.D4 c=some (match lN (-1) c with
 |.inl p=>(p.1,p.2,[])
 |.inr b=>(0,0,b)):=by
 unfold M.D4 lN;have e:=akj c hn af 0 ([],[]) (cZ _) (by have:=bU;omega) zV;have e':M.pM c af 0 [] []=_:=e;rw[e',Nat.sub_zero];cases h:eO (-1) c.Code c.Code.length 0 ([],[])with
 |inl p=>rfl
 |inr s=>
  simp only;by_cases h0:s.2.length=0
  ·rw[cz h0,h0];rfl
  ·rw[aw h0];have:decide ((0:Int)<((s.2.length:Nat):Int))=true:=by rw[bw];omega
   rw[this];rfl
end M
namespace M
open Go.V (inB cJ af bU)
theorem zW(b:Bool):M.lH b=some (d5 b):=by cases b<;>rfl
theorem LN(b:Bool):M.iD b=some (d5 b):=by cases b<;>rfl
theorem akk{b c:Bool}:(bif b then b else c)=(b||c):=by cases b<;>rfl
theorem LP{K:Int}(h:1<=K/\K<=40):K=1\/K=2\/K=3\/K=4\/K=5\/K=6\/K=7\/K=8\/K=9\/K=10\/K=11\/K=12\/K=13\/K=14\/K=15\/K=16\/K=17\/K=18\/K=19\/K=20\/K=21\/K=22\/K=23\/K=24\/K=25\/K=26\/K=27\/K=28\/K=29\/K=30\/K=31\/K=32\/K=33\/K=34\/K=35\/K=36\/K=37\/K=38\/K=39\/K=40:=by omega
theorem aCk(m:aN)(c:av)(i:aE)(s:dD)(h1:0<=c.Params/\c.Params<=8)(h2:0<=c.cO/\c.cO<=8)(hi:1<=i.Op/\i.Op<=40):M.D8 m c i (s.op.length:Int)=some (jm m c i s):=by
 obtain⟨K,A⟩:=i;have hw:Go.IntKind.wrap .i64 (c.Params+c.cO)=c.Params+c.cO:=wrap_i64 (by omega) (by omega);unfold M.D8;rw[hw];simp only at hi;rcases LP hi with rfl|rfl|rfl|rfl|rfl|rfl|rfl|rfl|rfl|rfl|rfl|rfl|rfl|rfl|rfl|rfl|rfl|rfl|rfl|rfl|rfl|rfl|rfl|rfl|rfl|rfl|rfl|rfl|rfl|rfl|rfl|rfl|rfl|rfl|rfl|rfl|rfl|rfl|rfl|rfl<;>rfl
theorem aCl(m:aN)(c:av)(bl:List aX)(i:aE)(s:dD)(h1:0<=c.Params/\c.Params<=8)(h2:0<=c.cO/\c.cO<=8)(hi:1<=i.Op/\i.Op<=40):
 M.Ef (M.ek.mk m c bl s.eI s.op s.ba s.h s.kn) i=some (jm m c i s):=by
 obtain⟨K,A⟩:=i;have hw:Go.IntKind.wrap .i64 (c.Params+c.cO)=c.Params+c.cO:=wrap_i64 (by omega) (by omega);unfold M.Ef;simp only[hw];simp only at hi;rcases LP hi with rfl|rfl|rfl|rfl|rfl|rfl|rfl|rfl|rfl|rfl|rfl|rfl|rfl|rfl|rfl|rfl|rfl|rfl|rfl|rfl|rfl|rfl|rfl|rfl|rfl|rfl|rfl|rfl|rfl|rfl|rfl|rfl|rfl|rfl|rfl|rfl|rfl|rfl|rfl|rfl<;>rfl
theorem aCm(m:aN)(c:av)(i:aE)(s:dD)(hi:1<=i.Op/\i.Op<=40)(hA:i.Op≠1->0<=i.A)(hn:i.Op≠27/\i.Op≠28)(ht:jm m c i s=true):M.D9 m i=some (cE m i):=by
 obtain⟨K,A⟩:=i;simp only at hi hA hn;unfold M.D9;simp only[zW];rcases LP hi with rfl|rfl|rfl|rfl|rfl|rfl|rfl|rfl|rfl|rfl|rfl|rfl|rfl|rfl|rfl|rfl|rfl|rfl|rfl|rfl|rfl|rfl|rfl|rfl|rfl|rfl|rfl|rfl|rfl|rfl|rfl|h32|Ql|rfl|rfl|rfl|rfl|rfl|rfl|rfl
 case inr.inr.inr.inr.inr.inr.inr.inr.inr.inr.inr.inr.inr.inr.inr.inr.inr.inr.inr.inr.inr.inr.inr.inr.inr.inr.inr.inr.inr.inr.inr.inl=>
  subst h32;have hl:A<(m.aB.length:Int):=by
   have:jm m c ⟨32,A⟩ s=decide (A<(m.aB.length:Int)):=rfl;rw[this,bw]at ht;exact ht
  have hb:inB A m.aB.length=true:=rx ⟨hA (by omega),hl⟩;simp only[hb,aT,aR];rfl
 case inr.inr.inr.inr.inr.inr.inr.inr.inr.inr.inr.inr.inr.inr.inr.inr.inr.inr.inr.inr.inr.inr.inr.inr.inr.inr.inr.inr.inr.inr.inr.inr.inl=>
  subst Ql;have hl:A<(m.al.length:Int):=by
   have:jm m c ⟨33,A⟩ s=decide (A<(m.al.length:Int)):=rfl;rw[this,bw]at ht;exact ht
  have hb:inB A m.al.length=true:=rx ⟨hA (by omega),hl⟩;simp only[hb,aT,aR];rfl
 all_goals first|rfl|(exfalso;omega)
theorem aCn(m:aN)(c:av)(bl:List aX)(i:aE)(s:dD)(hi:1<=i.Op/\i.Op<=40)(hA:i.Op≠1->0<=i.A)(hn:i.Op≠27/\i.Op≠28)(ht:jm m c i s=true):
 M.Eg (M.ek.mk m c bl s.eI s.op s.ba s.h s.kn) i=some (cE m i):=by
 obtain⟨K,A⟩:=i;simp only at hi hA hn;unfold M.Eg;simp only[LN];rcases LP hi with rfl|rfl|rfl|rfl|rfl|rfl|rfl|rfl|rfl|rfl|rfl|rfl|rfl|rfl|rfl|rfl|rfl|rfl|rfl|rfl|rfl|rfl|rfl|rfl|rfl|rfl|rfl|rfl|rfl|rfl|rfl|h32|Ql|rfl|rfl|rfl|rfl|rfl|rfl|rfl
 case inr.inr.inr.inr.inr.inr.inr.inr.inr.inr.inr.inr.inr.inr.inr.inr.inr.inr.inr.inr.inr.inr.inr.inr.inr.inr.inr.inr.inr.inr.inr.inl=>
  subst h32;have hl:A<(m.aB.length:Int):=by
   have:jm m c ⟨32,A⟩ s=decide (A<(m.aB.length:Int)):=rfl;rw[this,bw]at ht;exact ht
  have hb:inB A m.aB.length=true:=rx ⟨hA (by omega),hl⟩;simp only[hb,aT,aR];rfl
 case inr.inr.inr.inr.inr.inr.inr.inr.inr.inr.inr.inr.inr.inr.inr.inr.inr.inr.inr.inr.inr.inr.inr.inr.inr.inr.inr.inr.inr.inr.inr.inr.inl=>
  subst Ql;have hl:A<(m.al.length:Int):=by
   have:jm m c ⟨33,A⟩ s=decide (A<(m.al.length:Int)):=rfl;rw[this,bw]at ht;exact ht
  have hb:inB A m.al.length=true:=rx ⟨hA (by omega),hl⟩;simp only[hb,aT,aR];rfl
 all_goals first|rfl|(exfalso;omega)
end M
namespace M
open Go.V (inB cJ af bU)
theorem LQ(l:List aX)(j:Nat):(l.map pr).getD j (0,false)=pr (l.getD j aX.zero):=by
 rw[aH,aH,fL];cases l[j]?<;>rfl
def LR(c:av)(P:List (Int×Bool)):Prop:=∀x∈P,0<=x.1/\x.1<(c.Code.length:Int)
theorem at_in{c:av}{P:List (Int×Bool)}(hP:LR c P){o:List aX}(ho:o.map pr=P){j:Nat}(hj:j<o.length):inB (o.getD j aX.zero).At c.Code.length=true:=by
 refine rx (hP (pr (o.getD j aX.zero)) ?_);rw[<-ho,getD_lt hj];exact qh.2 ⟨_,bA hj,rfl⟩
structure xA (P:List (Int×Bool)) (s:dD) (o1:List aX):Prop where
 pr:o1.map pr=P
 ht:∀j,j<s.op.length->(o1.getD (s.op.getD j 0).toNat aX.zero).Height=s.ba.getD j 0
structure ry (P:List (Int×Bool)) (s:dD):Prop where
 op:∀x∈s.op,0<=x/\x<(P.length:Int)
 six:s.op.length<=6
 len:s.ba.length=s.op.length
theorem ry.at_{P:List (Int×Bool)}{s:dD}(h:ry P s){j:Nat}(hj:j<s.op.length):(s.op.getD j 0).toNat<P.length/\(((s.op.getD j 0).toNat:Nat):Int)=s.op.getD j 0:=by
 have:=h.op (s.op.getD j 0) (by rw[getD_lt hj];exact bA hj);omega
theorem aCo{P:List (Int×Bool)}{s:dD}{o1:List aX}(hr:xA P s o1)(hi:ry P s)(m:aN)(c:av)(h:Int)(d:Bool):M.zr (M.eE.mk m c o1 s.op h d)=some (dJ s):=by
 unfold M.zr dJ;simp only;by_cases h0:s.op.length=0
 ·rw[h0,cz (by rw[hi.len];exact h0)];rfl
 ·have hp:decide ((0:Int)<((s.op.length:Nat):Int))=true:=by rw[bw];omega
  have hj:s.op.length-1<s.op.length:=by omega
  obtain⟨h1,h2⟩:=hi.at_ hj;have hl:o1.length=P.length:=by rw[<-hr.pr,dC]
  have e:=hr.ht _ hj;rw[aw (by rw[hi.len];exact h0),hp,cr,uC h0 hi.six,bz,hi.len];rw[<-e,<-h2];simp only[bn,bz,hl,h1,hj,bj,bJ,cr]
theorem akl(s:dD)(h6:s.ba.length<=6)(m:aN)(c:av)(bl:List aX):M.wC (M.ek.mk m c bl s.eI s.op s.ba s.h s.kn)=some (dJ s):=by
 unfold M.wC dJ;simp only;by_cases h0:s.ba.length=0
 ·rw[cz h0,h0];rfl
 ·have q:(((s.ba.length:Nat):Int)==0)=false:=by rw[d6];omega
  rw[aw h0,q,ef,uC h0 h6,bz,bn,du (by omega:s.ba.length-1<s.ba.length)];rfl
theorem aCp{m:aN}{c:av}{P:List (Int×Bool)}(hP:LR c P){bl:List aX}(hb:bl.map pr=P){s:dD}(hi:ry P s)(i:aE)(hA:i.Op≠1->0<=i.A)(ht:jm m c i s=true):
 M.Eh (M.ek.mk m c bl s.eI s.op s.ba s.h s.kn) i=some (iU c P i s):=by
 unfold M.Eh iU;simp only[LN,aT,aR,aQ,az,cr];by_cases h31:i.Op=31
 ·rw[cz h31,h31];rfl
 ·have zR:(i.Op==31)=false:=by rw[d6];exact h31
  rw[aw h31,zR,ef,akk];by_cases hbr:i.Op=29\/i.Op=30
  ·have xB:(i.Op==29||i.Op==30)=true:=by rw[gq,hU,hU];exact hbr
   rw[cz hbr,xB,cr];have hA0:0<=i.A:=hA (by omega);have hle:i.A<=(s.op.length:Int):=by
    unfold jm at ht;rw[aw (by omega),aw (by omega),aw (by omega),cz hbr,bw]at ht;exact ht
   have h6:=hi.six;have hw:Go.IntKind.wrap .i64 (Go.IntKind.wrap .i64 ((s.op.length:Int)-1)-i.A)=(s.op.length:Int)-1-i.A:=by
    rw[wrap_i64 (n:=(s.op.length:Int)-1) (by omega) (by omega),wrap_i64 (by omega) (by omega)]
   rw[hw];by_cases hd:(s.op.length:Int)-1-i.A<0
   ·rw[cz hd,du hd,cr]
   ·rw[aw hd,eD hd,ef];obtain⟨j,hj⟩:=nL (by omega:0<=(s.op.length:Int)-1-i.A);rw[hj];have hjl:j<s.op.length:=by omega
    obtain⟨h1,h2⟩:=hi.at_ hjl;have hl:bl.length=P.length:=by rw[<-hb,dC]
    have hat:=at_in hP hb (j:=(s.op.getD j 0).toNat) (by rw[hl];exact h1);have hin:inB (s.op.getD j 0) bl.length=true:=by rw[<-h2,bn,bw,hl];exact h1
    simp only[bz,hat,hin,bn,hjl,bj,cg,bJ,cr];rw[<-hb,LQ];rfl
  ·have xB:(i.Op==29||i.Op==30)=false:=by rw[kR,ne_eq,gq,hU,hU];exact hbr
   rw[aw hbr,xB,ef]
theorem aCq{m:aN}{c:av}{P:List (Int×Bool)}(hP:LR c P){o1:List aX}(hb:o1.map pr=P){s:dD}(hi:ry P s)(i:aE)(hA:0<=i.A)(hbr:i.Op=29\/i.Op=30)(ht:jm m c i s=true)(h:Int)(d:Bool):
 M.tI (M.eE.mk m c o1 s.op h d) i.A=some (iU c P i s):=by
 unfold M.tI iU;simp only[zW,aT,aR,aQ,az,cr];rw[aw (by omega),cz hbr];have hle:i.A<=(s.op.length:Int):=by
  unfold jm at ht;rw[aw (by omega),aw (by omega),aw (by omega),cz hbr,bw]at ht;exact ht
 have h6:=hi.six;by_cases hd:i.A=(s.op.length:Int)
 ·rw[cz (by omega),hd,mA,cr]
 ·have q:(i.A==(s.op.length:Int))=false:=by rw[d6];exact hd
  rw[aw (by omega),q,ef];have hw:Go.IntKind.wrap .i64 (Go.IntKind.wrap .i64 ((s.op.length:Int)-1)-i.A)=(s.op.length:Int)-1-i.A:=by
   rw[wrap_i64 (n:=(s.op.length:Int)-1) (by omega) (by omega),wrap_i64 (by omega) (by omega)]
  rw[hw];obtain⟨j,hj⟩:=nL (by omega:0<=(s.op.length:Int)-1-i.A);rw[hj];have hjl:j<s.op.length:=by omega
  obtain⟨h1,h2⟩:=hi.at_ hjl;have hl:o1.length=P.length:=by rw[<-hb,dC]
  have hat:=at_in hP hb (j:=(s.op.getD j 0).toNat) (by rw[hl];exact h1);have hin:inB (s.op.getD j 0) o1.length=true:=by rw[<-h2,bn,bw,hl];exact h1
  simp only[bz,hat,hin,bn,hjl,bj,bJ,cr];rw[<-hb,LQ]
  show _=some (d5 ((pr (o1.getD (s.op.getD j 0).toNat aX.zero)).2&& !(opAt c.Code (pr (o1.getD (s.op.getD j 0).toNat aX.zero)).1==25)))
  have e1:(pr (o1.getD (s.op.getD j 0).toNat aX.zero)).1=(o1.getD (s.op.getD j 0).toNat aX.zero).At:=rfl;have e2:(pr (o1.getD (s.op.getD j 0).toNat aX.zero)).2=(o1.getD (s.op.getD j 0).toNat aX.zero).Result:=rfl;rw[e1,e2];show(bif(opAt c.Code (o1.getD (s.op.getD j 0).toNat aX.zero).At==25)then some (0:Int)else some (d5 (o1.getD (s.op.getD j 0).toNat aX.zero).Result))=_
  cases (opAt c.Code (o1.getD (s.op.getD j 0).toNat aX.zero).At==25)<;>cases (o1.getD (s.op.getD j 0).toNat aX.zero).Result<;>rfl
theorem aCr{P:List (Int×Bool)}{o1:List aX}(hb:o1.map pr=P)(Fz:P.Pairwise fun a b=>a.1<b.1)(hlen:P.length<2^62){j k:Nat}(hj:j<P.length)(hk:(P[j]).1=(k:Int))(m:aN)(c:av)(op:List Int)(h:Int)(d:Bool):
 M.Ea (M.eE.mk m c o1 op h d) (k:Int)=some (j:Int):=by
 have hl:o1.length=P.length:=by rw[<-hb,dC]
 have e:=f5 (p:=fun b:aX=>b.At==(k:Int)) (F:=M.wB (M.eE.mk m c o1 op h d) (k:Int)) (e:=()) (fun k=>k) o1 (by omega) (fun f q hq=>by
  rw[M.wB];simp only[getD_lt hq,bz,bn,bH,hq,bj,cr,aQ,bo hq (by omega:o1.length<2^62)]) (fun f=>by
  rw[M.wB];simp)
 have e2:o1.findIdx? (fun b:aX=>b.At==(k:Int))=some j:=by
  have h1:=aCi Fz hj (fun x=>x.1==(k:Int)) (fun x=>by rw[hk]);rw[<-hb,List.findIdx?_map]at h1;exact h1
 unfold M.Ea;rw[e,e2]
end M
namespace M
open Go.V (inB cJ af bU)
abbrev RS :=Int×List aO×List av×List UInt8×Int×Int×Bool×List aE×Int×Bool×List aX×List Int
def kS(m:aN)(c:av)(s:dD)(o1:List aX):RS:=(m.cU,m.al,m.aB,c.Name,c.Params,c.cO,c.Result,c.Code,s.h, !s.kn,o1,s.op)
theorem Qm(m:aN):M.aN.mk m.cU m.al m.aB=m:=rfl
theorem Qn(c:av):M.av.mk c.Name c.Params c.cO c.Result c.Code=c:=rfl
structure nK (m:aN) (c:av) (P:List (Int×Bool)) (e:Int) (k:Nat) (i:aE) (B B':BS) (s:dD):Prop where
 mg:ru m
 core:c∈m.aB
 pin:LR c P
 inc:P.Pairwise fun a b=>a.1<b.1
 pl:P.length<=120
 hk:k<c.Code.length
 hi:c.Code.getD k aE.zero=i
 mh:uB B s
 FH:BInv k B
 step:db e c.Code k i B=.inr B'
 pre:∃r,P=gG B'++r
theorem nK.sin{m:aN}{c:av}{P:List (Int×Bool)}{e:Int}{k:Nat}{i:aE}{B B':BS}{s:dD}(h:nK m c P e k i B B' s):ry P s/\B.1.length<=P.length:=by
 obtain⟨r,hr⟩:=h.pre;have hl:∀t:BS,(gG t).length=t.1.length:=fun t=>by simp[gG]
 have hle:B.1.length<=P.length:=by
  rw[hr,bq,<-hl B];rcases zT h.step with⟨_,_,hp,_⟩|⟨_,hp,_⟩<;>rw[hp]
  ·rw[bq];omega
  ·omega
 refine⟨⟨?_,by rw[h.mh.op];exact h.FH.six,h.mh.len⟩,hle⟩;rw[h.mh.op];intro x hx;have:=h.FH.opn x hx;omega
theorem nK.op{m:aN}{c:av}{P:List (Int×Bool)}{e:Int}{k:Nat}{i:aE}{B B':BS}{s:dD}(h:nK m c P e k i B B' s):(1<=i.Op/\i.Op<=40)/\(i.Op≠1->0<=i.A):=by
 have:=h.mg.ins c h.core i (by rw[<-h.hi,getD_lt h.hk];exact bA h.hk);exact⟨this.1,fun h1=>(this.2 h1).1⟩
theorem nK.open_{m:aN}{c:av}{P:List (Int×Bool)}{e:Int}{k:Nat}{i:aE}{B B':BS}{s:dD}(h:nK m c P e k i B B' s)(hi:i.Op=27\/i.Op=28):s.op.length≠0:=by
 rw[h.mh.op];rcases zT h.step with⟨ho,_,_,_⟩|⟨_,_,hop⟩
 ·unfold fX at ho;simp only[gq,hU]at ho;omega
 ·rcases hop with⟨_,h,_⟩|⟨_,h,_⟩|⟨h1,h2,_⟩
  ·exact h
  ·exact h
  ·omega
theorem nK.new{m:aN}{c:av}{P:List (Int×Bool)}{e:Int}{k:Nat}{i:aE}{B B':BS}{s:dD}(h:nK m c P e k i B B' s)(ho:fX i.Op=true):∃hj:B.1.length<P.length,(P[B.1.length]).1=(k:Int):=by
 obtain⟨r,hr⟩:=h.pre;have hl:(gG B).length=B.1.length:=by simp[gG]
 rcases zT h.step with⟨_,_,hp,_⟩|⟨ho',_,_⟩
 ·have hP:P=gG B++((k:Int),i.A==1)::r:=by rw[hr,hp,ib];rfl
  have hj:B.1.length<P.length:=by rw[hP,bq,hl,aZ];omega
  refine⟨hj,?_⟩;have:P[B.1.length]?=some ((k:Int),i.A==1):=by
   rw[hP,eA (by rw[hl];exact eL _),hl,uo];rfl
  rw[bG hj]at this;rw[jl this]
 ·rw[ho]at ho';cases ho'
theorem aCs{m:aN}{c:av}{P:List (Int×Bool)}{s:dD}{o1:List aX}(hr:xA P s o1)(hi:ry P s)(h0:s.op.length≠0)(hb:0<=dJ s/\dJ s<=24)(e28:Bool):
 M.D7 e28 m.cU m.al m.aB c.Name c.Params c.cO c.Result c.Code s.h (!s.kn) o1 s.op=some (if s.kn=true/\s.h≠dJ s+d5 (fY P s).2 then(false,kS m c s o1)
   else if e28=true then(true,kS m c {s with kn:=true,h:=dJ s+d5 (fY P s).2,op:=s.op.take (s.op.length-1),ba:=s.ba.take (s.ba.length-1)} o1)
   else(true,kS m c {s with kn:=true,h:=dJ s} o1)):=by
 have hj:s.op.length-1<s.op.length:=by omega
 obtain⟨h1,h2⟩:=hi.at_ hj;have hl:o1.length=P.length:=by rw[<-hr.pr,dC]
 have eh:(o1.getD (s.op.getD (s.op.length-1) 0).toNat aX.zero).Height=dJ s:=by
  rw[hr.ht _ hj];unfold dJ;rw[aw (by rw[hi.len];exact h0),hi.len]
 have er:(o1.getD (s.op.getD (s.op.length-1) 0).toNat aX.zero).Result=(fY P s).2:=by
  unfold fY;rw[<-hr.pr,LQ];rfl
 have hin:inB (s.op.getD (s.op.length-1) 0) o1.length=true:=by rw[<-h2,bn,bw,hl];exact h1
 have hbit:=mL (fY P s).2;have hsl:cJ (0:Int) ((s.op.length-1:Nat):Int) s.op.length=true:=by unfold cJ;simp
 have hw:Go.IntKind.wrap .i64 (dJ s+d5 (fY P s).2)=dJ s+d5 (fY P s).2:=wrap_i64 (by omega) (by omega);unfold M.D7;simp only[uC h0 hi.six,bz,eh,er,zW,aR,aT,hw,hin,bn,hj,bj,cg,bJ,aQ,cr,Aj,hsl];by_cases hc:s.kn=true/\s.h≠dJ s+d5 (fY P s).2
 ·have q:(s.kn&&(s.h !=dJ s+d5 (fY P s).2))=true:=by rw[bD,qj];exact hc
  rw[cz hc,q];rfl
 ·have q:(s.kn&&(s.h !=dJ s+d5 (fY P s).2))=false:=by rw[kR,ne_eq,bD,qj];exact hc
  rw[aw hc,q];cases e28<;>rfl
theorem aCt{P:List (Int×Bool)}{s:dD}{o1:List aX}(hr:xA P s o1)(hi:ry P s)(h:Int):xA P {s with kn:=true,h:=h,op:=s.op.take (s.op.length-1),ba:=s.ba.take (s.ba.length-1)} o1:=by
 refine⟨hr.pr,fun j hj=>?_⟩;simp only[gZ]at hj;have e1:(s.op.take (s.op.length-1)).getD j 0=s.op.getD j 0:=by
  rw[aH,aH,dW,cz (by omega)]
 have e2:(s.ba.take (s.ba.length-1)).getD j 0=s.ba.getD j 0:=by
  rw[aH,aH,dW,cz (by rw[hi.len];omega)]
 simp only[e1,e2];exact hr.ht j (by omega)
theorem aCu{m:aN}{c:av}{P:List (Int×Bool)}{e:Int}{k:Nat}{i:aE}{B B':BS}{s:dD}{o1:List aX}(h:nK m c P e k i B B' s)(hr:xA P s o1):
 ∃y:Int×RS,M.Eb (k:Int) m.cU m.al m.aB c.Name c.Params c.cO c.Result c.Code s.h (!s.kn) o1 s.op=some y/\(match kr m c P i s with
  |.inl x=>y.1=x
  |.inr s'=>∃xE,y=(0,kS m c s' xE)/\xA P s' xE):=by
 obtain⟨hi,hle⟩:=h.sin;obtain⟨hop,hA⟩:=h.op;have hbl:=Qh h.mh;have hbit:=mL (fY P s).2;have hk:=h.hk;unfold M.Eb kr;simp only[bz,h.hi,bn,hk,bj,aQ,Qm,Qn];by_cases ht:i.Op=27\/i.Op=28
 ·have h0:=h.open_ ht;have qt:(i.Op==27||i.Op==28)=true:=by rw[gq,hU,hU];exact ht
  rw[cz ht,qt,cr,aCs (m:=m) (c:=c) hr hi h0 hbl (i.Op==28)];by_cases hc:s.kn=true/\s.h≠dJ s+d5 (fY P s).2
  ·rw[cz hc,cz hc];exact⟨_,rfl,rfl⟩
  ·rw[aw hc,aw hc];by_cases h27:i.Op=27
   ·have rm:(i.Op==28)=false:=by rw[d6];omega
    rw[cz h27,rm,aw (by decide)];have:decide ((24:Int)<dJ s)=false:=by rw[cm];omega
    refine⟨(0,kS m c {s with kn:=true,h:=dJ s} o1),?_,o1,rfl,⟨hr.pr,hr.ht⟩⟩;simp only[kS,aR,this,eH,ef,aT,cr]
   ·have h28:i.Op=28:=by omega
    have rm:(i.Op==28)=true:=by rw[hU];exact h28
    rw[aw h27,rm,cz rfl];by_cases hZ:24<dJ s+d5 (fY P s).2
    ·rw[cz hZ];simp only[kS,aR,du hZ,eH,ef,aT,cr];exact⟨_,rfl,rfl⟩
    ·rw[aw hZ];refine⟨(0,kS m c {s with kn:=true,h:=dJ s+d5 (fY P s).2,op:=s.op.take (s.op.length-1),ba:=s.ba.take (s.ba.length-1)} o1),?_,o1,rfl,aCt hr hi _⟩;simp only[kS,aR,eD hZ,eH,ef,aT,cr]
 ·have qt:(i.Op==27||i.Op==28)=false:=by rw[kR,ne_eq,gq,hU,hU];exact ht
  have hcore:=h.mg.core c h.core;rw[aw ht,qt,ef];by_cases hkn:s.kn=false
  ·rw[cz hkn,hkn];exact⟨_,rfl,rfl⟩
  ·have hkn':s.kn=true:=by simpa using hkn
   rw[aw hkn,hkn'];simp only[eH,ef,aCk m c i s hcore.1 hcore.2.1 hop,aR,aT,bJ,az,cr];by_cases hth:jm m c i s=false
   ·rw[cz hth,hth];exact⟨_,rfl,rfl⟩
   ·have xF:jm m c i s=true:=by simpa using hth
    rw[aw hth,xF];have htk:=Qi h.mg i;have hst:=h.mh.h;simp only[eH,ef,aCm m c i s hop hA ⟨fun q=>ht (.inl q),fun q=>ht (.inr q)⟩ xF,aCo hr hi m c,aR,aT,bJ,az,cr];have w1:Go.IntKind.wrap .i64 (s.h-(cE m i).1)=s.h-(cE m i).1:=wrap_i64 (by omega) (by omega);have w2:Go.IntKind.wrap .i64 (s.h+Go.IntKind.wrap .i64 ((cE m i).2-(cE m i).1))=s.h-(cE m i).1+(cE m i).2:=by
     rw[wrap_i64 (n:=(cE m i).2-(cE m i).1) (by omega) (by omega),wrap_i64 (by omega) (by omega)];omega
    rw[w1,w2];by_cases hb:s.h-(cE m i).1<dJ s
    ·rw[cz hb,du hb];exact⟨_,rfl,rfl⟩
    ·rw[aw hb,eD hb,ef];by_cases hZ:24<s.h-(cE m i).1+(cE m i).2
     ·rw[cz hZ,du hZ];exact⟨_,rfl,rfl⟩
     ·rw[aw hZ,eD hZ,ef];have hnb:0<=iU c P i s/\iU c P i s<=1:=by
       unfold iU
       repeat' split
       ·exact mL _
       ·exact mL _
       ·exact mL _
       ·omega
      have Qo:(bif(bif i.Op==29 then i.Op==29 else i.Op==30)then(M.tI (M.eE.mk m c o1 s.op (s.h-(cE m i).1+(cE m i).2) false) i.A).getD Inhabited.default else(bif i.Op==31 then(M.lH c.Result).getD Inhabited.default else(0:Int)))=iU c P i s/\((bif i.Op==29 then i.Op==29 else i.Op==30)=true->(M.tI (M.eE.mk m c o1 s.op (s.h-(cE m i).1+(cE m i).2) false) i.A).isSome=true):=by
       rw[akk];by_cases hbr:i.Op=29\/i.Op=30
       ·have xB:(i.Op==29||i.Op==30)=true:=by rw[gq,hU,hU];exact hbr
        rw[xB,cr,aCq h.pin hr.pr hi i (hA (by omega)) hbr xF];exact⟨rfl,fun _=>rfl⟩
       ·have xB:(i.Op==29||i.Op==30)=false:=by rw[kR,ne_eq,gq,hU,hU];exact hbr
        rw[xB,ef,zW];refine⟨?_,fun q=>by cases q⟩;unfold iU;by_cases h31:i.Op=31
        ·rw[cz h31,h31];rfl
        ·have zR:(i.Op==31)=false:=by rw[d6];exact h31
         rw[aw h31,aw hbr,zR];rfl
      obtain⟨Qo,hsome⟩:=Qo;rw[Qo];have w3:Go.IntKind.wrap .i64 (s.h-(cE m i).1+(cE m i).2-iU c P i s)=s.h-(cE m i).1+(cE m i).2-iU c P i s:=wrap_i64 (by omega) (by omega);rw[w3,zW];generalize hq8:(bif i.Op==29 then i.Op==29 else i.Op==30)=q8 at hsome;generalize (M.tI (M.eE.mk m c o1 s.op (s.h-(cE m i).1+(cE m i).2) false) i.A).isSome=cs at hsome;have hg:((((cs&&((true|| !(i.Op==29))&&(true||(i.Op==29))))|| !q8)&&(((((true:Bool)&&((true|| !(i.Op==29))&&(true||(i.Op==29))))|| !(i.Op==31))&&(((true|| !(i.Op==29))&&(true||(i.Op==29)))||(i.Op==31)))||q8)))=true:=by
       cases q8
       ·simp
       ·rw[hsome rfl];simp
      simp only[aT,cg,bJ,az,aQ]at hg⊢;by_cases hnd:s.h-(cE m i).1+(cE m i).2-iU c P i s<dJ s
      ·rw[cz hnd,du hnd,cr];simp only[hg,cr];exact⟨_,rfl,rfl⟩
      ·rw[aw hnd,eD hnd,ef];rw[show(i.Op==24||i.Op==25||i.Op==26)=fX i.Op from rfl];by_cases ho:fX i.Op=true
       ·obtain⟨hj,hat⟩:=h.new ho;have hl:o1.length=P.length:=by rw[<-hr.pr,dC]
        have hown:M.qT s.op=some s.op:=by
         unfold M.qT;have:=hi.six;rw[show decide (0+s.op.length<=1073741824)=true by rw[bw];omega];rfl
        have hd:decide (s.op.length+1<=1073741824)=true:=by have:=hi.six;rw[bw];omega
        have hjl:B.1.length<o1.length:=by rw[hl];exact hj
        simp only[ho,cr,hown,aCr hr.pr h.inc (by have:=h.pl;omega) hj hat,aR,aT,bz,bn,hjl,bj,hg,bJ,aZ,bS,gV,hd,fJ];refine⟨_,rfl,o1.set B.1.length (aX.mk (o1.getD B.1.length aX.zero).At (o1.getD B.1.length aX.zero).Else (o1.getD B.1.length aX.zero).End (s.h-(cE m i).1+(cE m i).2) (o1.getD B.1.length aX.zero).Result),?_,⟨?_,?_⟩⟩
        ·simp only[kS,h.mh.eI,Aj]
        ·refine Eq.trans (Qg o1 B.1.length _ ?_) hr.pr;rfl
        ·intro j hj';simp only[bq,aZ,bS]at hj'⊢;rcases cG j s.op.length with h1|h1
         ·have e1:(s.op++[s.eI]).getD j 0=s.op.getD j 0:=by
           rw[aH,aH,dL h1]
          have e2:(s.ba++[s.h-(cE m i).1+(cE m i).2]).getD j 0=s.ba.getD j 0:=by
           rw[aH,aH,dL (by rw[hi.len];exact h1)]
          rw[e1,e2,<-hr.ht j h1];have hlt:(s.op.getD j 0).toNat≠B.1.length:=by
           have:=h.FH.opn (s.op.getD j 0) (by rw[<-h.mh.op,getD_lt h1];exact bA h1);omega
          rw[aH,km,aw (By hlt),<-aH]
         ·have:j=s.op.length:=by omega
          subst this;have e1:(s.op++[s.eI]).getD s.op.length 0=s.eI:=by
           rw[aH,eA (eL _),uo];rfl
          have e2:(s.ba++[s.h-(cE m i).1+(cE m i).2]).getD s.op.length 0=s.h-(cE m i).1+(cE m i).2:=by
           rw[<-hi.len,aH,eA (eL _),uo];rfl
          rw[e1,e2,h.mh.eI,bz,aH,km,cz rfl,cz hjl];rfl
       ·have ho':fX i.Op=false:=by simpa using ho
        simp only[ho',ef,hg,cr,eS,gU];refine⟨_,rfl,o1,?_,⟨hr.pr,hr.ht⟩⟩;simp only[kS,Aj]
end M
namespace M
open Go.V (inB cJ af bU)
theorem akm{m:aN}{c:av}{P:List (Int×Bool)}{i:aE}{s:dD}{x:Int}(h:kr m c P i s=.inl x):x≠0:=by
 unfold kr at h
 repeat' split at h
 all_goals cases h
 all_goals decide
theorem aCv{e:Int}{c:List aE}{k:Nat}{i:aE}{s:BS}{x:Int}(h:db e c k i s=.inl x):x≠0:=by
 unfold db at h
 repeat' split at h
 all_goals cases h
 all_goals decide
theorem Qp{e:Int}{c:List aE}:∀(n k:Nat)(s:BS)(p:Int×Int),eO e c n k s=.inl p->p.2≠0
 |0,k,s,p,h=>by simp only[eO]at h;cases h
 |n+1,k,s,p,h=>by
  simp only[eO]at h;cases hx:db e c k (c.getD k aE.zero) s with
  |inl x=>rw[hx]at h;injection h with h;subst h;exact aCv hx
  |inr s'=>rw[hx]at h;exact Qp n (k+1) s' p h
theorem aCw(m:aN)(c:av)(s:dD)(o1:List aX)(h6:s.op.length<=6):M.D5 m.cU m.al m.aB c.Name c.Params c.cO c.Result c.Code s.h (!s.kn) o1 s.op=some (nJ s,kS m c s o1):=by
 have hown:M.qT s.op=some s.op:=by
  unfold M.qT;rw[show decide (0+s.op.length<=1073741824)=true by rw[bw];omega];rfl
 unfold M.D5 nJ kS;rw[hown];cases s.kn<;>rfl
structure zX (m:aN) (c:av) (P:List (Int×Bool)) (Bf:BS):Prop where
 mg:ru m
 core:c∈m.aB
 P:P=gG Bf
 inv:BInv c.Code.length Bf
theorem zX.at_{m:aN}{c:av}{P:List (Int×Bool)}{Bf:BS}(h:zX m c P Bf){e:Int}{k r:Nat}{B B':BS}{s:dD}(hk:k<c.Code.length)(hB:BInv k B)(hs:uB B s)(hb:db e c.Code k (c.Code.getD k aE.zero) B=.inr B')(hr:eO e c.Code r (k+1) B'=.inr Bf):nK m c P e k (c.Code.getD k aE.zero) B B' s:=by
 have hl:P.length=Bf.1.length:=by rw[h.P];simp[gG]
 exact{mg:=h.mg,core:=h.core,pin:=by rw[h.P];exact h.inv.lt,inc:=by rw[h.P];exact h.inv.inc,pl:=by rw[hl];have:=h.inv.cnt;have:=(h.mg.core c h.core).2.2;omega,hk:=hk,hi:=rfl,mh:=hs,FH:=hB,step:=hb,
        pre:=by rw[h.P];exact(LL r (k+1) B' Bf (zU hB hb) hr).1}
theorem akn{m:aN}{c:av}{P:List (Int×Bool)}{Bf:BS}{e:Int}(hf:zX m c P Bf):∀(f k:Nat)(B:BS)(s:dD)(o1:List aX)(out:List da),k<=c.Code.length->c.Code.length-k<f->BInv k B->uB B s->eO e c.Code (c.Code.length-k) k B=.inr Bf->xA P s o1->out.length=k->
 ∃xE,M.tJ c f (k:Int) m.cU m.al m.aB c.Name c.Params c.cO c.Result c.Code s.h (!s.kn) out o1 s.op=some (match mf m c P (c.Code.length-k) k s out with
  |.inl p=>.inl (p.1,p.2,[])
  |.inr p=>.inr (c,m.cU,m.al,m.aB,c.Name,c.Params,c.cO,c.Result,c.Code,p.1.h, !p.1.kn,p.2,xE,p.1.op))
 |0,k,B,s,o1,out,h1,h2,_,_,_,_,_=>by omega
 |f+1,k,B,s,o1,out,h1,h2,hB,hs,hb,hr,hl=>by
  have hn:=(hf.mg.core c hf.core).2.2;rcases cG k c.Code.length with hk|hk
  ·obtain⟨r,hrn⟩:∃r,c.Code.length-k=r+1:=⟨c.Code.length-k-1,by omega⟩;have hr':c.Code.length-(k+1)=r:=by omega
   rw[hrn]at hb⊢;simp only[eO]at hb;cases hx:db e c.Code k (c.Code.getD k aE.zero) B with
   |inl x=>rw[hx]at hb;cases hb
   |inr B'=>
    rw[hx]at hb;simp only at hb;have hat:=hf.at_ hk hB hs hx hb;obtain⟨y,hy,hc⟩:=aCu hat hr;have h6:s.op.length<=6:=by rw[hs.op];exact hB.six
    rw[M.tJ];have hw:Go.IntKind.wrap .i64 ((k:Int)+1)=((k+1:Nat):Int):=bo hk (by omega);have hd:decide (out.length+([nJ s]:List da).length<=1073741824)=true:=by rw[bw,hl,aZ,bS];omega
    simp only[bH,hk,bj,cr,aCw m c s o1 h6,aR,kS,hy,aT,aQ,bJ,hd,hw,mf];cases hcs:kr m c P (c.Code.getD k aE.zero) s with
    |inl x=>
     rw[hcs]at hc;simp only at hc;have:(y.1 !=0)=true:=by rw[qj,hc];exact akm hcs
     exact⟨[],by rw[this,hc];rfl⟩
    |inr s'=>
     rw[hcs]at hc;obtain⟨xE,rfl,hr2⟩:=hc;have hz:(((0:Int) !=0))=false:=by decide
     obtain⟨o2,ho2⟩:=akn hf f (k+1) B' s' xE (out++[nJ s]) (by omega) (by omega) (zU hB hx) (aki hf.mg hs hx hcs) (by rw[hr'];exact hb) hr2 (by rw[bq,hl];rfl);rw[hr']at ho2;refine⟨o2,?_⟩;simp only[hz,ef,kS];exact ho2
  ·have:k=c.Code.length:=by omega
   subst this;refine⟨o1,?_⟩;rw[M.tJ];simp[mf]
def s0:dD:=⟨0,[],[],0,true⟩
def zY(e:Int)(c:av):(Int×Int)⊕List (Int×Bool):=lM (List.map pr) (lN e c)
theorem aCx(e e':Int)(c:av):zY e c=zY e' c:=by
 have h:=akg e e' c.Code c.Code.length 0 ([],[]) ([],[]) rfl;unfold zY lN;cases h1:eO e c.Code c.Code.length 0 ([],[])with
 |inl p=>
  cases h2:eO e' c.Code c.Code.length 0 ([],[])with
  |inl q=>rw[h1,h2]at h;injection h with h;rw[h]
  |inr q=>rw[h1,h2]at h;cases h
 |inr p=>
  cases h2:eO e' c.Code c.Code.length 0 ([],[])with
  |inl q=>rw[h1,h2]at h;cases h
  |inr q=>
   rw[h1,h2]at h;injection h with h;have e1:p.1.map strip=q.1.map strip:=(xw Prod.fst h:(iT p).1=(iT q).1);have e2:p.2=q.2:=(xw Prod.snd h:(iT p).2=(iT q).2);have e3:p.1.map pr=q.1.map pr:=by
    have:=xw (List.map pr) e1;rw[FR,FR]at this;exact this
   simp only[e2];by_cases h0:q.2.length=0
   ·rw[cz h0,cz h0];simp only[lM,e3]
   ·rw[aw h0,aw h0]
def ku(m:aN)(c:av):List da×Int×Int:=
 match zY 0 c with
 |.inl p=>([],p.1,p.2)
 |.inr P=>match mf m c P c.Code.length 0 s0 []with
   |.inl p=>([],p.1,p.2)
   |.inr p=>if p.1.kn=true/\p.1.h≠d5 c.Result then([],(c.Code.length:Int),7)else(p.2++[da.mk true (d5 c.Result) []],0,0)
theorem ako:uB ([],[]) s0:=⟨rfl,rfl,rfl,fun x hx=>by simp[s0]at hx,by simp[s0]⟩
theorem Qq{m:aN}{c:av}{P:List (Int×Bool)}:∀(n k:Nat)(s:dD)(a:List da)(q:dD×List da),mf m c P n k s a=.inr q->q.2.length=a.length+n
 |0,k,s,a,q,h=>by simp only[mf]at h;injection h with h;subst h;rfl
 |n+1,k,s,a,q,h=>by
  simp only[mf]at h;cases hx:kr m c P (c.Code.getD k aE.zero) s with
  |inl x=>rw[hx]at h;cases h
  |inr s'=>
   rw[hx]at h;have:=Qq n (k+1) s' _ q h;rw[bq,aZ,bS]at this;omega
theorem aCy{m:aN}(hm:ru m){k:Nat}(hk:k<m.aB.length):M.CU m (k:Int)=some (ku m m.aB[k]):=by
 have hmem:=bA hk;have hn:=(hm.core _ hmem).2.2;unfold M.CU ku;rw[aCx 0 (-1)];unfold zY;simp only[bz,getD_lt hk,bn,hk,bj,aQ,bJ];generalize hc:m.aB[k]=c at hn hmem⊢;rw[aCj c hn];have hb:∀p,lN (-1) c=.inl p->p.2≠0:=fun p h=>by
  unfold lN at h;cases hx:eO (-1) c.Code c.Code.length 0 ([],[])with
  |inl q=>rw[hx]at h;injection h with h;subst h;exact Qp _ _ _ _ hx
  |inr q=>
   rw[hx]at h;simp only at h;split at h
   ·cases h
   ·injection h with h;subst h;show(5:Int)≠0
    decide
 cases hbl:lN (-1) c with
 |inl p=>
  have:(p.2 !=0)=true:=by rw[qj];exact hb p hbl
  simp only[aR,aT,lM,this,cr]
 |inr b=>
  obtain⟨Bf,hrun,hbf⟩:∃Bf:BS,eO (-1) c.Code c.Code.length 0 ([],[])=.inr Bf/\Bf.1=b:=by
   unfold lN at hbl;cases hx:eO (-1) c.Code c.Code.length 0 ([],[])with
   |inl q=>rw[hx]at hbl;cases hbl
   |inr q=>
    rw[hx]at hbl;simp only at hbl;split at hbl
    ·injection hbl with hbl;exact⟨q,rfl,hbl⟩
    ·cases hbl
  have hinv:=(LL c.Code.length 0 ([],[]) Bf zV hrun).2;rw[gV]at hinv;have hf:zX m c (b.map pr) Bf:=⟨hm,hmem,by rw[<-hbf];rfl,hinv⟩;obtain⟨xE,ho⟩:=akn (e:= -1) hf af 0 ([],[]) s0 b [] (cZ _) (by have:=bU;omega) zV ako (by rw[Nat.sub_zero];exact hrun) ⟨rfl,fun j hj=>by simp[s0]at hj⟩ rfl;have ho':M.tJ c af 0 m.cU m.al m.aB c.Name c.Params c.cO c.Result c.Code 0 false [] b []=_:=ho;rw[Nat.sub_zero]at ho';have hz:((0:Int) !=0)=false:=by decide
  simp only[aR,aT,lM,hz,ef,ho'];cases hcr:mf m c (b.map pr) c.Code.length 0 s0 []with
  |inl p=>rfl
  |inr p=>
   have hlen:=Qq _ _ _ _ _ hcr;simp only[zW,aR,aT,Aj,cg,bJ,aQ,cr];have hd:decide (p.2.length+([da.mk true (d5 c.Result) []]:List da).length<=1073741824)=true:=by
    rw[bw,hlen];simp only[aZ,bS];omega
   by_cases hq:p.1.kn=true/\p.1.h≠d5 c.Result
   ·have q:(p.1.kn&&(p.1.h !=d5 c.Result))=true:=by rw[bD,qj];exact hq
    rw[cz hq,q];rfl
   ·have q:(p.1.kn&&(p.1.h !=d5 c.Result))=false:=by rw[kR,ne_eq,bD,qj];exact hq
    rw[aw hq,q,hd];rfl
end M
namespace M
open Go.V (inB cJ af bU)
abbrev RI :=Int×List aO×List av×List UInt8×Int×Int×Bool×List aE×List aX×Int×Int×Bool×List Int×List Int
def FI(m:aN)(c:av)(bl:List aX)(s:dD):RI:=(m.cU,m.al,m.aB,c.Name,c.Params,c.cO,c.Result,c.Code,bl,s.eI,s.h,s.kn,s.op,s.ba)
theorem aCz{m:aN}{c:av}{P:List (Int×Bool)}{s:dD}{bl:List aX}(hb:bl.map pr=P)(hi:ry P s)(h0:s.op.length≠0)(hbl:0<=dJ s/\dJ s<=24)(i:aE)(ht:i.Op=27\/i.Op=28):
 ∃y:Int×RI,M.Ee i m.cU m.al m.aB c.Name c.Params c.cO c.Result c.Code bl s.eI s.h s.kn s.op s.ba=some y/\(match kr m c P i s with
  |.inl x=>y.1=x
  |.inr s'=>y=(0,FI m c bl s')):=by
 have hj:s.op.length-1<s.op.length:=by omega
 obtain⟨h1,h2⟩:=hi.at_ hj;have hl:bl.length=P.length:=by rw[<-hb,dC]
 have er:(bl.getD (s.op.getD (s.op.length-1) 0).toNat aX.zero).Result=(fY P s).2:=by
  unfold fY;rw[<-hb,LQ];rfl
 have hin:inB (s.op.getD (s.op.length-1) 0) bl.length=true:=by rw[<-h2,bn,bw,hl];exact h1
 have hbit:=mL (fY P s).2;have hsl:cJ (0:Int) ((s.op.length-1:Nat):Int) s.op.length=true:=by unfold cJ;simp
 have hsl2:cJ (0:Int) ((s.op.length-1:Nat):Int) s.ba.length=true:=by rw[hi.len];exact hsl
 have hw:Go.IntKind.wrap .i64 (dJ s+d5 (fY P s).2)=dJ s+d5 (fY P s).2:=wrap_i64 (by omega) (by omega);have hbase:=akl s (by rw[hi.len];exact hi.six) m c bl;unfold kr;rw[cz ht];unfold M.Ee;simp only[Qm,Qn,hbase,uC h0 hi.six,bz,er,LN,aR,aT,hw,hin,bn,hj,bj,cg,bJ,aQ,cr,hsl,hsl2];by_cases hc:s.kn=true/\s.h≠dJ s+d5 (fY P s).2
 ·have q:(s.kn&&(s.h !=dJ s+d5 (fY P s).2))=true:=by rw[bD,qj];exact hc
  rw[cz hc,q];exact⟨_,rfl,rfl⟩
 ·have q:(s.kn&&(s.h !=dJ s+d5 (fY P s).2))=false:=by rw[kR,ne_eq,bD,qj];exact hc
  rw[aw hc,q,ef];by_cases h27:i.Op=27
  ·have rl:(i.Op==27)=true:=by rw[hU];exact h27
   rw[cz h27,rl,cr];exact⟨_,rfl,rfl⟩
  ·have rl:(i.Op==27)=false:=by rw[d6];exact h27
   rw[aw h27,rl,ef];by_cases hZ:24<dJ s+d5 (fY P s).2
   ·rw[cz hZ];simp only[du hZ,cr];exact⟨_,rfl,rfl⟩
   ·rw[aw hZ];simp only[eD hZ,ef];exact⟨_,rfl,by simp only[FI,hi.len]⟩
theorem aCA{m:aN}{c:av}{P:List (Int×Bool)}{e:Int}{k:Nat}{i:aE}{B B':BS}{s:dD}{bl:List aX}(h:nK m c P e k i B B' s)(hb:bl.map pr=P):
 ∃y:Int×RI,M.Ei i m.cU m.al m.aB c.Name c.Params c.cO c.Result c.Code bl s.eI s.h s.kn s.op s.ba=some y/\(match kr m c P i s with
  |.inl x=>y.1=x
  |.inr s'=>y=(0,FI m c bl s')):=by
 obtain⟨hi,hle⟩:=h.sin;obtain⟨hop,hA⟩:=h.op;have hbl:=Qh h.mh;unfold M.Ei;simp only[Qm,Qn];by_cases ht:i.Op=27\/i.Op=28
 ·have h0:=h.open_ ht;have qt:(i.Op==27||i.Op==28)=true:=by rw[gq,hU,hU];exact ht
  obtain⟨y,hy,hc⟩:=aCz (m:=m) (c:=c) hb hi h0 hbl i ht;rw[qt,cr,hy];exact⟨y,rfl,hc⟩
 ·have qt:(i.Op==27||i.Op==28)=false:=by rw[kR,ne_eq,gq,hU,hU];exact ht
  have hcore:=h.mg.core c h.core;unfold kr;rw[aw ht,qt,ef];by_cases hkn:s.kn=false
  ·rw[cz hkn,hkn];exact⟨_,rfl,rfl⟩
  ·have hkn':s.kn=true:=by simpa using hkn
   rw[aw hkn];simp only[aCl m c bl i s hcore.1 hcore.2.1 hop,aR,aT,bJ,az,cr];rw[show(!s.kn)=false by rw[hkn'];rfl,ef];by_cases hth:jm m c i s=false
   ·rw[cz hth,hth];exact⟨_,rfl,rfl⟩
   ·have xF:jm m c i s=true:=by simpa using hth
    rw[aw hth,xF];have htk:=Qi h.mg i;have hst:=h.mh.h;simp only[eH,ef,aCn m c bl i s hop hA ⟨fun q=>ht (.inl q),fun q=>ht (.inr q)⟩ xF,akl s (by rw[hi.len];exact hi.six) m c bl,aCp h.pin hb hi i hA xF,aR,aT,bJ,az,cr];have w1:Go.IntKind.wrap .i64 (s.h-(cE m i).1)=s.h-(cE m i).1:=wrap_i64 (by omega) (by omega);have w2:Go.IntKind.wrap .i64 (s.h-(cE m i).1+(cE m i).2)=s.h-(cE m i).1+(cE m i).2:=wrap_i64 (by omega) (by omega);rw[w1,w2];by_cases hbs:s.h-(cE m i).1<dJ s
    ·rw[cz hbs,du hbs];exact⟨_,rfl,rfl⟩
    ·rw[aw hbs,eD hbs,ef];by_cases hZ:24<s.h-(cE m i).1+(cE m i).2
     ·rw[cz hZ,du hZ];exact⟨_,rfl,rfl⟩
     ·rw[aw hZ,eD hZ,ef];have hnb:0<=iU c P i s/\iU c P i s<=1:=by
       unfold iU
       repeat' split
       ·exact mL _
       ·exact mL _
       ·exact mL _
       ·omega
      have w3:Go.IntKind.wrap .i64 (s.h-(cE m i).1+(cE m i).2-iU c P i s)=s.h-(cE m i).1+(cE m i).2-iU c P i s:=wrap_i64 (by omega) (by omega);rw[w3];by_cases hnd:s.h-(cE m i).1+(cE m i).2-iU c P i s<dJ s
      ·rw[cz hnd,du hnd];exact⟨_,rfl,rfl⟩
      ·rw[aw hnd,eD hnd,ef];rw[show(i.Op==24||i.Op==25||i.Op==26)=fX i.Op from rfl];have hk3:((i.Op !=29&&i.Op !=31)&&i.Op !=40)= !(i.Op==29||i.Op==31||i.Op==40):=by
        rw[lx,lx,lx];cases (i.Op==29)<;>cases (i.Op==31)<;>cases (i.Op==40)<;>rfl
       have h6:=hi.six;by_cases ho:fX i.Op=true
       ·have hcnt:=h.FH.cnt;have hnx:Go.IntKind.wrap .i64 (s.eI+1)=s.eI+1:=by
         rw[h.mh.eI];have:=h.hk;have:=hcore.2.2;exact wrap_i64 (by omega) (by omega)
        have d1:decide (s.ba.length+1<=1073741824)=true:=by rw[bw,hi.len];omega
        have d2:decide (s.op.length+1<=1073741824)=true:=by rw[bw];omega
        simp only[ho,cr,hnx,hk3,aZ,bS,gV,d1,d2,bJ,fJ];exact⟨_,rfl,rfl⟩
       ·have ho':fX i.Op=false:=by simpa using ho
        simp only[ho',ef,hk3,eS,gU];exact⟨_,rfl,rfl⟩
end M
namespace M
open Go.V (inB cJ af bU)
theorem wz:Go.IntKind.wrap .i64 (((0:Nat):Int)-1)= -1:=by rw[wrap_i64 (by omega) (by omega)];rfl
theorem wz2:Go.IntKind.wrap .i64 (-1)= -1:=wrap_i64 (by omega) (by omega)
theorem akp(c:av)(hn:c.Code.length<=120):∀(f k:Nat)(s:BS),k<=c.Code.length->c.Code.length-k<f->BInv k s->
 M.pN c.Code (c.Code.length:Int) c f (k:Int) s.1 s.2=some (match eO 0 c.Code (c.Code.length-k) k s with
   |.inl p=>.inl (p.1,p.2,[])
   |.inr s'=>.inr (c,s'.1,s'.2))
 |0,k,s,h1,h2,_=>by omega
 |f+1,k,s,h1,h2,hI=>by
  rw[M.pN];rcases cG k c.Code.length with hk|hk
  ·obtain⟨r,hr⟩:∃r,c.Code.length-k=r+1:=⟨c.Code.length-k-1,by omega⟩;have hr':c.Code.length-(k+1)=r:=by omega
   have ih:=fun s' h=>akp c hn f (k+1) s' (by omega) (by omega) h
   rw[hr']at ih;rw[hr];simp only[eO];have hinv:=fun s' h=>zU (e:=0) (c:=c.Code) (i:=c.Code.getD k aE.zero) (s':=s') hI h
   have hw:Go.IntKind.wrap .i64 ((k:Int)+1)=((k+1:Nat):Int):=bo hk (by omega);have h6:=hI.six;have hcnt:=hI.cnt;simp only[bz,bn,bH,hk,bj,cr,aQ,hw];generalize hi:c.Code.getD k aE.zero=i at hinv⊢;rw[show(i.Op==24||i.Op==25||i.Op==26)=fX i.Op from rfl];by_cases ho:fX i.Op=true
   ·rw[ho,cr];by_cases hl:s.2.length=6
    ·have hb:db 0 c.Code k i s=.inl 4:=by unfold db;rw[cz ho,cz hl]
     rw[hb,hl];rfl
    ·have hb:db 0 c.Code k i s=.inr (s.1++[aX.mk (k:Int) (-1) 0 0 (i.A==1)],s.2++[(s.1.length:Int)]):=by unfold db;rw[cz ho,aw hl]
     have q:(((s.2.length:Nat):Int)==6)=false:=by rw[d6];omega
     have d1:decide (s.1.length+1<=1073741824)=true:=by rw[bw];omega
     have d2:decide (s.2.length+1<=1073741824)=true:=by rw[bw];omega
     have:=ih _ (hinv _ hb);simp only[q,ef,aZ,bS,gV,d1,d2,bJ,cr];rw[hb];exact this
   ·have ho':fX i.Op=false:=by simpa using ho
    rw[ho',ef];by_cases h27:i.Op=27
    ·have b27:(i.Op==27)=true:=by rw[h27];rfl
     rw[b27,cr];by_cases h0:s.2.length=0
     ·have hb:db 0 c.Code k i s=.inl 5:=by unfold db;rw[aw ho,cz h27,cz h0]
      rw[hb,h0];simp[wz2]
     ·have ht:=FG hI h0;have hat:=LM hI h0;have q:decide (((s.2.length-1:Nat):Int)<0)=false:=by rw[cm];omega
      have e1:=ht.2.symm;have hA:inB (bV s).At c.Code.length=true:=rx ⟨hat.1,by omega⟩;have hS:s.2.length-1<s.2.length:=by omega
      simp only[uC h0 h6,q,nN,bz,e1,bn,ht.1,hS,bj];rw[show List.getD s.1 (jU s) aX.zero=bV s from rfl,show(List.getD c.Code (Int.toNat (bV s).At) aE.zero).Op=opAt c.Code (bV s).At from rfl,hA];by_cases hc:opAt c.Code (bV s).At≠26\/0<=(bV s).Else
      ·have hb:db 0 c.Code k i s=.inl 5:=by unfold db;rw[aw ho,cz h27,aw h0,cz hc]
       have hq:((opAt c.Code (bV s).At !=26)||decide (0<=(bV s).Else))=true:=by rw[gq,qj,bw];exact hc
       rw[hb,hq];simp
      ·have hb:db 0 c.Code k i s=.inr (s.1.set (jU s) (aX.mk (bV s).At (k:Int) (bV s).End (bV s).Height (bV s).Result),s.2):=by unfold db;rw[aw ho,cz h27,aw h0,aw hc]
       have hq:((opAt c.Code (bV s).At !=26)||decide (0<=(bV s).Else))=false:=by
        rw[kR,ne_eq,gq,qj,bw];exact hc
       have:=ih _ (hinv _ hb);rw[hb,hq];simp only[ef,cg,bJ,cr];exact this
    ·have b27:(i.Op==27)=false:=by rw[d6];exact h27
     rw[b27,ef];by_cases h28:i.Op=28
     ·have b28:(i.Op==28)=true:=by rw[h28];rfl
      rw[b28,cr];by_cases h0:s.2.length=0
      ·have hb:db 0 c.Code k i s=.inl 5:=by unfold db;rw[aw ho,aw h27,cz h28,cz h0]
       rw[hb,h0,wz];rfl
      ·have ht:=FG hI h0;have hat:=LM hI h0;have q:decide (((s.2.length-1:Nat):Int)<0)=false:=by rw[cm];omega
       have e1:=ht.2.symm;have hA:inB (bV s).At c.Code.length=true:=rx ⟨hat.1,by omega⟩;have hS:s.2.length-1<s.2.length:=by omega
       have hsl:cJ (0:Int) ((s.2.length-1:Nat):Int) s.2.length=true:=by unfold cJ;simp
       simp only[uC h0 h6,q,ef,bz,e1,bn,ht.1,hS,bj,hsl];rw[show List.getD s.1 (jU s) aX.zero=bV s from rfl,show(List.getD c.Code (Int.toNat (bV s).At) aE.zero).Op=opAt c.Code (bV s).At from rfl,hA];by_cases hc:(opAt c.Code (bV s).At=26/\(bV s).Result=true)/\(bV s).Else<0
       ·have hb:db 0 c.Code k i s=.inl 7:=by unfold db;rw[aw ho,aw h27,cz h28,aw h0,cz hc]
        have hq:(((opAt c.Code (bV s).At==26)&&(bV s).Result)&&decide ((bV s).Else<0))=true:=by rw[bD,bD,hU,bw];exact hc
        rw[hb,hq];rfl
       ·have hb:db 0 c.Code k i s=.inr (s.1.set (jU s) (aX.mk (bV s).At (bV s).Else (k:Int) (bV s).Height (bV s).Result),s.2.take (s.2.length-1)):=by unfold db;rw[aw ho,aw h27,cz h28,aw h0,aw hc]
        have hq:(((opAt c.Code (bV s).At==26)&&(bV s).Result)&&decide ((bV s).Else<0))=false:=by rw[kR,ne_eq,bD,bD,hU,bw];exact hc
        have:=ih _ (hinv _ hb);rw[hb,hq];simp only[ef,bJ,cr];exact this
     ·have b28:(i.Op==28)=false:=by rw[d6];exact h28
      have hb:db 0 c.Code k i s=.inr s:=by unfold db;rw[aw ho,aw h27,aw h28]
      have:=ih _ (hinv _ hb);rw[b28,ef,hb];exact this
  ·have:k=c.Code.length:=by omega
   subst this;simp[eO]
theorem aCB(c:av)(hn:c.Code.length<=120):M.Ec c=some (match lN 0 c with
 |.inl p=>([],p.1,p.2)
 |.inr b=>(b,0,0)):=by
 unfold M.Ec lN;have e:=akp c hn af 0 ([],[]) (cZ _) (by have:=bU;omega) zV;have e':M.pN c.Code (c.Code.length:Int) c af 0 [] []=_:=e;rw[e',Nat.sub_zero];cases h:eO 0 c.Code c.Code.length 0 ([],[])with
 |inl p=>rfl
 |inr s=>
  simp only;by_cases h0:s.2.length=0
  ·rw[cz h0,h0];rfl
  ·rw[aw h0];have:decide ((0:Int)<((s.2.length:Nat):Int))=true:=by rw[bw];omega
   rw[this];rfl
end M
namespace M
open Go.V (inB cJ af bU)
theorem aCC(m:aN)(c:av)(s:dD)(bl:List aX)(h6:s.op.length<=6):M.Ed m.cU m.al m.aB c.Name c.Params c.cO c.Result c.Code bl s.eI s.h s.kn s.op s.ba=some ((nJ s).Qr,(nJ s).Height,m.cU,m.al,m.aB,c.Name,c.Params,c.cO,c.Result,c.Code,bl,s.eI,s.h,s.kn,(nJ s).Qs,s.op,s.ba):=by
 have hown:M.tK s.op=some s.op:=by
  unfold M.tK;rw[show decide (s.op.length<=1099511627776)=true by rw[bw];omega];rfl
 unfold M.Ed nJ;rw[hown];obtain⟨eI,op,ba,ht,kn⟩:=s;cases kn<;>rfl
theorem aCD(p:da):da.mk p.Qr p.Height p.Qs=p:=rfl
theorem akq{m:aN}{c:av}{P:List (Int×Bool)}{Bf:BS}{e:Int}(hf:zX m c P Bf){bl:List aX}(hbl:bl.map pr=P):∀(f k:Nat)(B:BS)(s:dD)(out:List da),k<=c.Code.length->c.Code.length-k<f->BInv k B->uB B s->eO e c.Code (c.Code.length-k) k B=.inr Bf->out.length=k->
 M.tL bl c.Code (c.Code.length:Int) c f (k:Int) m.cU m.al m.aB c.Name c.Params c.cO c.Result c.Code bl s.eI s.h s.kn out s.op s.ba=some (match mf m c P (c.Code.length-k) k s out with
   |.inl p=>.inl (p.1,p.2,[],[])
   |.inr p=>.inr (bl,c,m.cU,m.al,m.aB,c.Name,c.Params,c.cO,c.Result,c.Code,bl,p.1.eI,p.1.h,p.1.kn,p.2,p.1.op,p.1.ba))
 |0,k,B,s,out,h1,h2,_,_,_,_=>by omega
 |f+1,k,B,s,out,h1,h2,hB,hs,hb,hl=>by
  have hn:=(hf.mg.core c hf.core).2.2;rcases cG k c.Code.length with hk|hk
  ·obtain⟨r,hrn⟩:∃r,c.Code.length-k=r+1:=⟨c.Code.length-k-1,by omega⟩;have hr':c.Code.length-(k+1)=r:=by omega
   rw[hrn]at hb⊢;simp only[eO]at hb;cases hx:db e c.Code k (c.Code.getD k aE.zero) B with
   |inl x=>rw[hx]at hb;cases hb
   |inr B'=>
    rw[hx]at hb;simp only at hb;have hat:=hf.at_ hk hB hs hx hb;obtain⟨y,hy,hc⟩:=aCA hat hbl;have h6:s.op.length<=6:=by rw[hs.op];exact hB.six
    rw[M.tL];have hw:Go.IntKind.wrap .i64 ((k:Int)+1)=((k+1:Nat):Int):=bo hk (by omega);have hd:decide (out.length+([nJ s]:List da).length<=1073741824)=true:=by rw[bw,hl,aZ,bS];omega
    simp only[bH,hk,bj,cr,aCC m c s bl h6,aR,aCD,FI,bz,hy,bn,aT,aQ,bJ,hd,hw,mf];cases hcs:kr m c P (c.Code.getD k aE.zero) s with
    |inl x=>
     rw[hcs]at hc;simp only at hc;have:(y.1 !=0)=true:=by rw[qj,hc];exact akm hcs
     rw[this,hc];rfl
    |inr s'=>
     rw[hcs]at hc;simp only at hc;subst hc;have hz:(((0:Int) !=0))=false:=by decide
     have ho2:=akq hf hbl f (k+1) B' s' (out++[nJ s]) (by omega) (by omega) (zU hB hx) (aki hf.mg hs hx hcs) (by rw[hr'];exact hb) (by rw[bq,hl];rfl);rw[hr']at ho2;simp only[hz,ef,FI];exact ho2
  ·have:k=c.Code.length:=by omega
   subst this;rw[M.tL];simp[mf]
theorem aCE{m:aN}(hm:ru m){k:Nat}(hk:k<m.aB.length):M.Ds m (k:Int)=some ((ku m m.aB[k]).2.1,(ku m m.aB[k]).2.2,(ku m m.aB[k]).1):=by
 have hmem:=bA hk;have hn:=(hm.core _ hmem).2.2;unfold M.Ds ku zY;simp only[bz,getD_lt hk,bn,hk,bj,aQ,bJ];generalize hc:m.aB[k]=c at hn hmem⊢;rw[aCB c hn];have hb:∀p,lN 0 c=.inl p->p.2≠0:=fun p h=>by
  unfold lN at h;cases hx:eO 0 c.Code c.Code.length 0 ([],[])with
  |inl q=>rw[hx]at h;injection h with h;subst h;exact Qp _ _ _ _ hx
  |inr q=>
   rw[hx]at h;simp only at h;split at h
   ·cases h
   ·injection h with h;subst h;show(5:Int)≠0
    decide
 cases hbl:lN 0 c with
 |inl p=>
  have:(p.2 !=0)=true:=by rw[qj];exact hb p hbl
  simp only[aR,aT,lM,this,cr]
  first|done|rfl
 |inr b=>
  obtain⟨Bf,hrun,hbf⟩:∃Bf:BS,eO 0 c.Code c.Code.length 0 ([],[])=.inr Bf/\Bf.1=b:=by
   unfold lN at hbl;cases hx:eO 0 c.Code c.Code.length 0 ([],[])with
   |inl q=>rw[hx]at hbl;cases hbl
   |inr q=>
    rw[hx]at hbl;simp only at hbl;split at hbl
    ·injection hbl with hbl;exact⟨q,rfl,hbl⟩
    ·cases hbl
  have hinv:=(LL c.Code.length 0 ([],[]) Bf zV hrun).2;rw[gV]at hinv;have hf:zX m c (b.map pr) Bf:=⟨hm,hmem,by rw[<-hbf];rfl,hinv⟩;have ho:=akq (e:=0) hf (bl:=b) rfl af 0 ([],[]) s0 [] (cZ _) (by have:=bU;omega) zV ako (by rw[Nat.sub_zero];exact hrun) rfl;have ho':M.tL b c.Code (c.Code.length:Int) c af 0 m.cU m.al m.aB c.Name c.Params c.cO c.Result c.Code b 0 0 true [] [] []=_:=ho;rw[Nat.sub_zero]at ho';have hz:((0:Int) !=0)=false:=by decide
  simp only[aR,aT,lM,hz,ef,ho'];cases hcr:mf m c (b.map pr) c.Code.length 0 s0 []with
  |inl p=>rfl
  |inr p=>
   have hlen:=Qq _ _ _ _ _ hcr;simp only[LN,aR,aT,cg,bJ,aQ,cr];have hd:decide (p.2.length+([da.mk true (d5 c.Result) []]:List da).length<=1073741824)=true:=by
    rw[bw,hlen];simp only[aZ,bS];omega
   by_cases hq:p.1.kn=true/\p.1.h≠d5 c.Result
   ·have q:(p.1.kn&&(p.1.h !=d5 c.Result))=true:=by rw[bD,qj];exact hq
    rw[cz hq,q];rfl
   ·have q:(p.1.kn&&(p.1.h !=d5 c.Result))=false:=by rw[kR,ne_eq,bD,qj];exact hq
    rw[aw hq,q,hd];rfl
end M
namespace M
open Go.V (inB cJ af bU)
def xG(c:UInt8):Bool:=((((decide ((97:Int)<=((c.toNat:Nat):Int))&&decide (((c.toNat:Nat):Int)<=122))||(decide ((48:Int)<=((c.toNat:Nat):Int))&&decide (((c.toNat:Nat):Int)<=57)))||(((c.toNat:Nat):Int)==45))||(((c.toNat:Nat):Int)==46))||(((c.toNat:Nat):Int)==47)
def gw(s:List UInt8):Bool:=s.all xG&&(decide (1<=s.length)&&decide (s.length<=40))
theorem aCF(c:UInt8):decide (M.FB [(45:UInt8),(46:UInt8),(47:UInt8)] ((c.toNat:Nat):Int)<0)= !(((((c.toNat:Nat):Int)==45)||(((c.toNat:Nat):Int)==46))||(((c.toNat:Nat):Int)==47)):=by
 have e:((c.toNat:Nat):Int).toNat.toUInt8=c:=by rw[bz];exact UInt8.ofNat_toNat
 unfold M.FB;rw[e];have h:∀(n:UInt8),(n==c)=(((c.toNat:Nat):Int)==((n.toNat:Nat):Int)):=fun n=>by
  rw[gv,hU,hU];constructor
  ·rintro rfl;rfl
  ·intro h;exact UInt8.toNat_inj.1 (by omega)
 unfold Go.Lib.indexByte Go.Lib.indexByte Go.Lib.indexByte Go.Lib.indexByte;rw[h 45,h 46,h 47];have n1:(((45:UInt8).toNat:Nat):Int)=45:=rfl;have n2:(((46:UInt8).toNat:Nat):Int)=46:=rfl;have n3:(((47:UInt8).toNat:Nat):Int)=47:=rfl;rw[n1,n2,n3];cases (((c.toNat:Nat):Int)==45)<;>cases (((c.toNat:Nat):Int)==46)<;>cases (((c.toNat:Nat):Int)==47)<;>rfl
theorem akr(s:List UInt8):(decide ((1:Int)<=((s.length:Nat):Int))&&decide (((s.length:Nat):Int)<=40))=(decide (1<=s.length)&&decide (s.length<=40)):=by
 congr 1<;>simp only[ka]<;>omega
theorem aks(s:List UInt8)(h:s.length<=1048576):M.vQ s=some (gw s):=by
 have e:=ng (p:=xG) (F:=M.wx s) (e:=s) (b:=false) s (by omega) (fun f k hk=>by
  rw[M.wx];simp only[getD_lt hk,bz,bn,bH,hk,bj,cr,aQ,bo hk (by omega:s.length<2^62)];rw[show xG s[k]=(((((decide ((97:Int)<=((s[k].toNat:Nat):Int))&&decide (((s[k].toNat:Nat):Int)<=122))||(decide ((48:Int)<=((s[k].toNat:Nat):Int))&&decide (((s[k].toNat:Nat):Int)<=57)))||(((s[k].toNat:Nat):Int)==45))||(((s[k].toNat:Nat):Int)==46))||(((s[k].toNat:Nat):Int)==47))from rfl];generalize (((((decide ((97:Int)<=((s[k].toNat:Nat):Int))&&decide (((s[k].toNat:Nat):Int)<=122))||(decide ((48:Int)<=((s[k].toNat:Nat):Int))&&decide (((s[k].toNat:Nat):Int)<=57)))||(((s[k].toNat:Nat):Int)==45))||(((s[k].toNat:Nat):Int)==46))||(((s[k].toNat:Nat):Int)==47))=b;cases b<;>rfl) (fun f=>by rw[M.wx];simp)
 unfold M.vQ gw;rw[e];cases s.all xG
 ·rfl
 ·rw[cz rfl];simp only[akr,az]
theorem aCG(s:List UInt8)(h:s.length<=1048576):M.Dm s=some (gw s):=by
 have e:=ng (p:=xG) (F:=M.vZ s (s.length:Int)) (e:=s) (b:=false) s (by omega) (fun f k hk=>by
  rw[M.vZ];simp only[getD_lt hk,bz,bn,bH,hk,bj,cr,aQ,cg,bo hk (by omega:s.length<2^62),aCF];unfold xG;generalize (decide ((97:Int)<=((s[k].toNat:Nat):Int))&&decide (((s[k].toNat:Nat):Int)<=122))=b1;generalize (decide ((48:Int)<=((s[k].toNat:Nat):Int))&&decide (((s[k].toNat:Nat):Int)<=57))=b2;cases b1<;>cases b2<;>cases (((s[k].toNat:Nat):Int)==45)<;>cases (((s[k].toNat:Nat):Int)==46)<;>cases (((s[k].toNat:Nat):Int)==47)<;>rfl) (fun f=>by rw[M.vZ];simp)
 unfold M.Dm gw;rw[e];cases s.all xG
 ·rfl
 ·rw[cz rfl];simp only[akr,az]
theorem aCH{b c:Bool}:(bif b then b else c)=(b||c):=by cases b<;>rfl
theorem GU(op:Int):∃y,M.m3 op=some y/\(op≠1->0<=y.1/\y.2.1<=4096):=by
 unfold M.m3;simp only[aCH];simp only[aCI];by_cases h1:(op==1)=true
 ·rw[cz h1];exact⟨_,rfl,fun h=>absurd (by simpa using h1) h⟩
 rw[aw h1]
 repeat' split
 all_goals
  refine⟨_,rfl,fun _=>?_⟩;constructor<;>simp
noncomputable def fM(i:aE):Bool:=(M.oG i).getD false
theorem GV(i:aE):M.oG i=some (fM i)/\M.yN i=some (fM i):=by
 obtain⟨y,hy,-⟩:=GU i.Op;have e:M.oG i=some (fM i):=by
  unfold fM M.oG;rw[hy];rfl
 exact⟨e,e⟩
theorem Ul{i:aE}(h:fM i=true):(1<=i.Op/\i.Op<=40)/\(i.Op≠1->0<=i.A/\i.A<=16777216):=by
 obtain⟨y,hy,hb⟩:=GU i.Op;unfold fM M.oG at h;rw[hy]at h;simp only[aT,aR,bJ,cr,bD,bw]at h;refine⟨h.1,fun h1=>?_⟩;have:=hb h1;omega
noncomputable def lq(c:av):Bool:=(((decide ((0:Int)<=c.Params)&&decide (c.Params<=8))&&(decide ((0:Int)<=c.cO)&&decide (c.cO<=8)))&&decide (c.Code.length<=120))&&c.Code.all fM
theorem aCJ(c:av)(h:c.Code.length<=1048576):M.Da c=some (lq c):=by
 have e:=f5 (p:=fun i=> !fM i) (F:=M.vV c.Code (c.Code.length:Int)) (e:=()) (fun k=>k) c.Code (by omega) (fun f k hk=>by
  rw[M.vV];have ec:M.C7 c.Code[k]=some (!fM c.Code[k]):=by unfold M.C7;rw[(GV _).1];rfl
  simp only[getD_lt hk,ec,bz,bn,bH,hk,bj,cr,az,aQ,bo hk (by omega:c.Code.length<2^62),aR,aT]) (fun f=>by
  rw[M.vV];simp)
 have e2:M.C9 c.Code=some (!c.Code.all fM):=by
  unfold M.C9 M.Ib;rw[e,iE,jN];cases c.Code.findIdx? (fun i=> !fM i)<;>simp
 have e3:decide (((c.Code.length:Nat):Int)<=120)=decide (c.Code.length<=120):=by simp only[ka];omega
 unfold M.Da lq;rw[e2,e3];simp only[aT,aR,cg,bJ,cr,Aj]
theorem aCK(c:av)(h:c.Code.length<=1048576)(hn:c.Name.length<=1048576):M.CP c=some (gw c.Name&&lq c):=by
 have e:=ng (p:=fM) (F:=M.vP c) (e:=()) (b:=false) c.Code (by omega) (fun f k hk=>by
  rw[M.vP];simp only[getD_lt hk,(GV _).2,bz,bn,bH,hk,bj,cr,az,aQ,bo hk (by omega:c.Code.length<2^62),aR,aT];cases fM c.Code[k]<;>rfl) (fun f=>by rw[M.vP];simp)
 have e3:decide ((120:Int)<((c.Code.length:Nat):Int))= !decide (c.Code.length<=120):=by rw[<-pj];simp only[ka];omega
 unfold M.CP lq;rw[aks c.Name hn,e,e3];simp only[aT,aR,bJ,cr];generalize (decide ((0:Int)<=c.Params)&&decide (c.Params<=8))=b1;generalize (decide ((0:Int)<=c.cO)&&decide (c.cO<=8))=b2;generalize decide (c.Code.length<=120)=b3;cases gw c.Name<;>cases b1<;>cases b2<;>cases b3<;>cases c.Code.all fM<;>rfl
def oJ(x:aO):Bool:=decide ((0:Int)<=x.Params)&&decide (x.Params<=8)
def vo(l:List (List UInt8)):Bool:=nodupB l&&l.all gw
noncomputable def gQ(m:aN):Bool:=(((decide ((1:Int)<=m.cU)&&decide (m.cU<=16))&&decide (m.al.length<=12))&&decide (m.aB.length<=8))&&((m.al.all oJ&&m.aB.all lq)&&(vo (m.al.map aO.Name)&&vo (m.aB.map av.Name)))
theorem akt(n:Nat):decide ((12:Int)<((n:Nat):Int))= !decide (n<=12):=by rw[<-pj];simp only[ka];omega
theorem len8(n:Nat):decide ((8:Int)<((n:Nat):Int))= !decide (n<=8):=by rw[<-pj];simp only[ka];omega
theorem aCL(l:List aO)(name:List UInt8)(h:l.length<=1048576):∃y,M.CQ l name=some y/\decide ((0:Int)<=y)=l.any fun x=>x.Name==name:=by
 have e:=f5 (p:=fun x:aO=>x.Name==name) (F:=M.wy l name) (e:=()) (fun k=>k) l (by omega) (fun f k hk=>by
  rw[M.wy];simp only[getD_lt hk,bz,bn,bH,hk,bj,cr,aQ,bo hk (by omega:l.length<2^62)]) (fun f=>by rw[M.wy];simp)
 unfold M.CQ;rw[e,jN];cases l.findIdx? (fun x:aO=>x.Name==name)with
 |none=>exact⟨_,rfl,rfl⟩
 |some k=>exact⟨_,rfl,by simp⟩
theorem aCM(l:List av)(name:List UInt8)(h:l.length<=1048576):∃y,M.CS l name=some y/\decide ((0:Int)<=y)=l.any fun x=>x.Name==name:=by
 have e:=f5 (p:=fun x:av=>x.Name==name) (F:=M.wA l name) (e:=()) (fun k=>k) l (by omega) (fun f k hk=>by
  rw[M.wA];simp only[getD_lt hk,bz,bn,bH,hk,bj,cr,aQ,bo hk (by omega:l.length<2^62)]) (fun f=>by rw[M.wA];simp)
 unfold M.CS;rw[e,jN];cases l.findIdx? (fun x:av=>x.Name==name)with
 |none=>exact⟨_,rfl,rfl⟩
 |some k=>exact⟨_,rfl,by simp⟩
theorem aku{i n:Nat}(h:i<=n):cJ (0:Int) (i:Int) n=true:=by unfold cJ;simp;omega
theorem Uw(m:aN)(h:m.sz<=1048576):M.vS m=some (gQ m):=by
 rw[aN.bI]at h;have hi:m.al.length<=1048576:=cq (bW aO.sz _) (by omega);have hc:m.aB.length<=1048576:=cq (bW av.sz _) (by omega);have e0:=l7 (p:=fun i=>(gw (m.al.getD i aO.zero).Name&&oJ (m.al.getD i aO.zero))&& !((m.al.take i).any fun x=>x.Name==(m.al.getD i aO.zero).Name)) (F:=M.vO m) (e:=m) (b:=false) m.al.length (by omega) (fun f k hk=>by
  rw[M.vO];have hsz:=aC aO.sz _ _ (bA hk);have hn:m.al[k].Name.length<=1048576:=by rw[aO.bI]at hsz;omega
  obtain⟨y,hy,hy2⟩:=aCL (m.al.take k) m.al[k].Name (by rw[gZ];omega);have hd:∀l:List aO,List.drop (Int.toNat (0:Int)) l=l:=fun l=>rfl
  simp only[getD_lt hk,bz,bn,bH,hk,bj,cr,aQ,az,hd,hy,hy2,aks _ hn,aR,aT,cg,aku (sd hk),bo hk (by omega:m.al.length<2^62)];rw[show oJ m.al[k]=(decide ((0:Int)<=m.al[k].Params)&&decide (m.al[k].Params<=8))from rfl];generalize (decide ((0:Int)<=m.al[k].Params)&&decide (m.al[k].Params<=8))=b1;generalize ((m.al.take k).any fun x=>x.Name==m.al[k].Name)=b2;cases gw m.al[k].Name<;>cases b1<;>cases b2<;>rfl) (fun f=>by rw[M.vO];simp)
 have e1:=l7 (p:=fun i=>(gw (m.aB.getD i av.zero).Name&&lq (m.aB.getD i av.zero))&& !((m.aB.take i).any fun x=>x.Name==(m.aB.getD i av.zero).Name)) (F:=M.vR m) (e:=()) (b:=false) m.aB.length (by omega) (fun f k hk=>by
  rw[M.vR];have hsz:=aC av.sz _ _ (bA hk);have hn:m.aB[k].Name.length<=1048576/\m.aB[k].Code.length<=1048576:=by
   rw[av.bI]at hsz;have:=bW aE.sz m.aB[k].Code;omega
  obtain⟨y,hy,hy2⟩:=aCM (m.aB.take k) m.aB[k].Name (by rw[gZ];omega);have hd:∀l:List av,List.drop (Int.toNat (0:Int)) l=l:=fun l=>rfl
  simp only[getD_lt hk,bz,bn,bH,hk,bj,cr,aQ,az,hd,hy,hy2,aCK _ hn.2 hn.1,aR,aT,cg,aku (sd hk),bo hk (by omega:m.aB.length<2^62)];generalize ((m.aB.take k).any fun x=>x.Name==m.aB[k].Name)=b2;cases gw m.aB[k].Name<;>cases lq m.aB[k]<;>cases b2<;>rfl) (fun f=>by rw[M.vR];simp)
 rw[LS,akv aO.Name,akw (fun x:aO=>gw x.Name&&oJ x),LS]at e0;rw[LS,akv av.Name,akw (fun x:av=>gw x.Name&&lq x),LS]at e1;have w1:(m.al.map aO.Name).all gw=m.al.all fun x=>gw x.Name:=by rw[xq];rfl
 have w2:(m.aB.map av.Name).all gw=m.aB.all fun x=>gw x.Name:=by rw[xq];rfl
 unfold M.vS gQ vo;rw[akt,len8,e0,w1,w2];generalize (decide ((1:Int)<=m.cU)&&decide (m.cU<=16))=b0;generalize decide (m.al.length<=12)=b1;generalize decide (m.aB.length<=8)=b2;generalize (m.al.all fun x=>gw x.Name)=b3;generalize m.al.all oJ=b4;generalize nodupB (m.al.map aO.Name)=b5;generalize (m.aB.all fun x=>gw x.Name)=b6 at e1⊢;generalize m.aB.all lq=b7 at e1⊢;generalize nodupB (m.aB.map av.Name)=b8 at e1⊢;cases b0
 ·rfl
 cases b1
 ·rfl
 cases b2
 ·rfl
 cases b3<;>cases b4<;>cases b5
 all_goals first
  |(cases b6<;>cases b7<;>cases b8<;>rfl)
  |(simp only[bJ,fJ,eH,uA,ef,az,e1]
    cases b6<;>cases b7<;>cases b8<;>rfl)
end M
namespace M
open Go.V (inB cJ af bU)
theorem akx(l:List (List UInt8))(hl:l.length<=1048576)(h:∀x∈l,x.length<=1048576):M.y8 l=some (vo l):=by
 have e:=f5 (p:=fun s=> !gw s) (F:=M.v7 l (l.length:Int)) (e:=()) (fun k=>k) l (by omega) (fun f k hk=>by
  rw[M.v7];have ec:M.Dn l[k]=some (!gw l[k]):=by unfold M.Dn;rw[aCG _ (h _ (bA hk))];rfl
  simp only[getD_lt hk,ec,bz,bn,bH,hk,bj,cr,az,aQ,bo hk (by omega:l.length<2^62),aR,aT]) (fun f=>by
  rw[M.v7];simp)
 have e2:M.Dp l=some (!l.all gw):=by
  unfold M.Dp M.Ik;rw[e,iE,jN];cases l.findIdx? (fun i=> !gw i)<;>simp
 unfold M.y8 vo;rw[e2,Hh l hl];simp only[aT,aR,cg,bJ,cr,Aj]
theorem aky{α:Type}(nm:α->List UInt8)(l:List α)(k:Nat)(hk:k<l.length):(l.take k).map nm++[nm l[k]]=(l.take (k+1)).map nm:=by
 rw[l6,xx,bG hk];rfl
theorem GZ(m:aN)(h:m.sz<=1048576):M.nt m=some (gQ m):=by
 rw[aN.bI]at h;have hi:m.al.length<=1048576:=cq (bW aO.sz _) (by omega);have hc:m.aB.length<=1048576:=cq (bW av.sz _) (by omega);have k0:∀g k,k<=m.al.length->m.al.length-k<g->M.sU m.al (m.al.length:Int) m [] g (k:Int) ((m.al.take k).map aO.Name)=some (if(m.al.drop k).all oJ then .inr (m,m.al.map aO.Name,[])else .inl false):=by
  intro g
  induction g with
  |zero=>intro k h1 h2;omega
  |succ g ih=>
   intro k h1 h2;rcases cG k m.al.length with hk|hk
   ·rw[M.sU];have hd:decide ((((m.al.take k).map aO.Name).length+([m.al[k].Name]:List (List UInt8)).length)<=1073741824)=true:=by
     simp only[bw,dC,gZ,aZ,bS];omega
    simp only[getD_lt hk,bz,bn,bH,hk,bj,cr,az,aQ,bo hk (by omega:m.al.length<2^62),hd,aky aO.Name _ k hk];rw[ih (k+1) (by omega) (by omega),fa hk,xC];rw[show oJ m.al[k]=(decide ((0:Int)<=m.al[k].Params)&&decide (m.al[k].Params<=8))from rfl];cases (decide ((0:Int)<=m.al[k].Params)&&decide (m.al[k].Params<=8))<;>simp
   ·have:k=m.al.length:=by omega
    subst this;rw[M.sU];simp
 have k1:∀g k,k<=m.aB.length->m.aB.length-k<g->M.sV m.aB (m.aB.length:Int) (m.al.map aO.Name) g (k:Int) ((m.aB.take k).map av.Name)=some (if(m.aB.drop k).all lq then .inr (m.al.map aO.Name,m.aB.map av.Name)else .inl false):=by
  intro g
  induction g with
  |zero=>intro k h1 h2;omega
  |succ g ih=>
   intro k h1 h2;rcases cG k m.aB.length with hk|hk
   ·rw[M.sV];have hsz:=aC av.sz _ _ (bA hk);have hn:m.aB[k].Code.length<=1048576:=by
     rw[av.bI]at hsz;have:=bW aE.sz m.aB[k].Code;omega
    have hd:decide ((((m.aB.take k).map av.Name).length+([m.aB[k].Name]:List (List UInt8)).length)<=1073741824)=true:=by
     simp only[bw,dC,gZ,aZ,bS];omega
    simp only[getD_lt hk,aCJ _ hn,aR,aT,bz,bn,bH,hk,bj,cr,az,aQ,bo hk (by omega:m.aB.length<2^62),hd,aky av.Name _ k hk];rw[ih (k+1) (by omega) (by omega),fa hk,xC];cases lq m.aB[k]<;>simp
   ·have:k=m.aB.length:=by omega
    subst this;rw[M.sV];simp
 have e0:=k0 af 0 (cZ _) (by have:=bU;omega);have e0':M.sU m.al (m.al.length:Int) m [] af 0 []=_:=e0;have e1:=k1 af 0 (cZ _) (by have:=bU;omega);have e1':M.sV m.aB (m.aB.length:Int) (m.al.map aO.Name) af 0 []=_:=e1;rw[gP]at e0' e1';have n0:∀x∈m.al.map aO.Name,x.length<=1048576:=fun x hx=>by
  obtain⟨y,hy,rfl⟩:=qh.1 hx;have:=aC aO.sz _ _ hy;rw[aO.bI]at this;omega
 have n1:∀x∈m.aB.map av.Name,x.length<=1048576:=fun x hx=>by
  obtain⟨y,hy,rfl⟩:=qh.1 hx;have:=aC av.sz _ _ hy;rw[av.bI]at this;omega
 unfold M.nt gQ;rw[akt,len8,e0'];generalize (decide ((1:Int)<=m.cU)&&decide (m.cU<=16))=b0;generalize decide (m.al.length<=12)=b1;generalize decide (m.aB.length<=8)=b2;cases b0
 ·rfl
 cases b1
 ·rfl
 cases b2
 ·rfl
 cases m.al.all oJ
 ·rfl
 ·simp only[fJ,eH,uA,ef,e1'];cases m.aB.all lq
  ·rfl
  ·simp only[fJ,akx _ (by rw[dC];exact hi) n0,akx _ (by rw[dC];exact hc) n1,aR,aT,cg,bJ,cr,az]
theorem akz{m:aN}(h:gQ m=true):ru m:=by
 unfold gQ at h;simp only[bD,bw,dr]at h;obtain⟨⟨⟨-,hi⟩,hc⟩,⟨h1,h2⟩,-⟩:=h;have hcore:∀x∈m.aB,((0<=x.Params/\x.Params<=8)/\(0<=x.cO/\x.cO<=8)/\x.Code.length<=120)/\∀i∈x.Code,fM i=true:=fun x hx=>by
  have:=h2 x hx;unfold lq at this;simp only[bD,bw,dr]at this;exact⟨⟨this.1.1.1,this.1.1.2,this.1.2⟩,this.2⟩
 refine⟨hc,hi,fun x hx=>?_,fun x hx=>(hcore x hx).1,fun x hx i hi'=>Ul ((hcore x hx).2 i hi')⟩;have:=h1 x hx;unfold oJ at this;simpa using this
end M
namespace M
open Go.V (inB cJ af bU)
def LU(m:aN):Int×Int×Int:=
 match m.aB.findIdx? (fun c=>(ku m c).2.2 !=0)with
 |some k=>((k:Int),(ku m (m.aB.getD k av.zero)).2)
 |none=>(0,0,0)
def zZ(m:aN)(x:Int):Int×Int×Int:=(x,(ku m (m.aB.getD x.toNat av.zero)).2)
theorem LV(m:aN)(k:Nat):zZ m (k:Int)=((k:Int),(ku m (m.aB.getD k av.zero)).2):=by
 unfold zZ;rw[bz]
theorem aCN{m:aN}(hm:ru m):M.sD m af 0=some (match m.aB.findIdx? (fun c=>(ku m c).2.2 !=0)with
 |some k=>.inl (zZ m (k:Int))
 |none=>.inr ()):=
 f5 (p:=fun c=>(ku m c).2.2 !=0) (F:=M.sD m) (e:=()) (zZ m) m.aB (by have:=hm.iw;omega) (fun f k hk=>by
  rw[M.sD,LV];have:=hm.iw;simp only[aCy hm hk,getD_lt hk,bH,hk,bj,cr,aR,aT,bJ,bo hk (by omega:m.aB.length<2^62)]) (fun f=>by rw[M.sD];simp)
theorem aCO{m:aN}(hm:ru m):M.sW (m.aB.length:Int) m af 0=some (match m.aB.findIdx? (fun c=>(ku m c).2.2 !=0)with
 |some k=>.inl (zZ m (k:Int))
 |none=>.inr ()):=
 f5 (p:=fun c=>(ku m c).2.2 !=0) (F:=M.sW (m.aB.length:Int) m) (e:=()) (zZ m) m.aB (by have:=hm.iw;omega) (fun f k hk=>by
  rw[M.sW,LV];have:=hm.iw;have hb:=aCE hm hk;simp only[hb,getD_lt hk,bH,hk,bj,cr,aR,aT,bJ,bo hk (by omega:m.aB.length<2^62)]) (fun f=>by rw[M.sW];simp)
noncomputable def sr(m:aN):Int×Int×Int:=if gQ m=true then LU m else(0,0,1)
theorem aCP(m:aN)(h:m.sz<=1048576):M.CV m=some (sr m):=by
 unfold M.CV sr;rw[Uw m h];simp only[aR,aT,bJ,cr];cases hb:gQ m
 ·rfl
 ·rw[cz rfl,aCN (akz hb)];unfold LU;cases m.aB.findIdx? (fun c=>(ku m c).2.2 !=0)with
  |none=>rfl
  |some k=>simp only[eH,ef,LV]
theorem aCQ(m:aN)(h:m.sz<=1048576):M.Du m=some (sr m):=by
 unfold M.Du sr;rw[GZ m h];simp only[aR,aT,bJ,cr,aQ];cases hb:gQ m
 ·rfl
 ·have e:M.Dt m=some (LU m):=by
   unfold M.Dt LU;rw[aCO (akz hb)];cases m.aB.findIdx? (fun c=>(ku m c).2.2 !=0)with
   |none=>rfl
   |some k=>simp only[LV]
  rw[cz rfl,e];rfl
theorem apr(m:aN)(h:m.sz<=1048576):M.CW m=some ((sr m).2.2==0):=by
 unfold M.CW M.Hy;rw[aCP m h];rfl
theorem apt(m:aN)(h:m.sz<=1048576):M.Dv m=some ((sr m).2.2==0):=by
 unfold M.Dv;rw[aCQ m h];rfl
end M
