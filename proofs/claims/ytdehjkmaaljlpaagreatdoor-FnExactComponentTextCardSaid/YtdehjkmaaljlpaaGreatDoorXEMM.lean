/-
  THE BLOCKS of a core's code, matched, in plain Lean.
-/
import Derived.Test.YtdehjkmaaljlpaaGreatDoorXEplA
import Derived.Test.YtdehjkmaaljlpaaGreatDoorXEFM
import Derived.Test.YtdehjkmaaljlpaaGreatDoorXEFH
set_option linter.unusedVariables false
namespace M
open Go.V (inB cF af bV)
def fF(op:Int):Bool:=(op==24||op==25)||op==26
abbrev BS :=List bf×List Int
def jx(s:BS):Nat:=(s.2.getD (s.2.length-1) 0).toNat
def bX(s:BS):bf:=s.1.getD (jx s) bf.zero
def opAt(c:List aG)(at_:Int):Int:=(c.getD at_.toNat aG.zero).Op
def da(e:Int)(c:List aG)(k:Nat)(i:aG)(s:BS):Int⊕BS:=
 if fF i.Op=true then
  if s.2.length=6 then .inl 4 else .inr (s.1++[bf.mk (k:Int) (-1) e 0 (i.A==1)],s.2++[(s.1.length:Int)])
 else if i.Op=27 then
  if s.2.length=0 then .inl 5
  else if opAt c (bX s).At≠26\/0<=(bX s).Else then .inl 5
  else .inr (s.1.set (jx s) (bf.mk (bX s).At (k:Int) (bX s).End (bX s).Height (bX s).Result),s.2)
 else if i.Op=28 then
  if s.2.length=0 then .inl 5
  else if(opAt c (bX s).At=26/\(bX s).Result=true)/\(bX s).Else<0 then .inl 7
  else .inr (s.1.set (jx s) (bf.mk (bX s).At (bX s).Else (k:Int) (bX s).Height (bX s).Result),s.2.take (s.2.length-1))
 else .inr s
def eJ(e:Int)(c:List aG):Nat->Nat->BS->(Int×Int)⊕BS
 |0,k,s=>.inr s
 |n+1,k,s=>match da e c k (c.getD k aG.zero) s with
  |.inl x=>.inl ((k:Int),x)
  |.inr s'=>eJ e c n (k+1) s'
def strip(b:bf):bf:=bf.mk b.At b.Else 0 b.Height b.Result
def ix(s:BS):BS:=(s.1.map strip,s.2)
def ln{E A B:Type}(f:A->B):E⊕A->E⊕B
 |.inl e=>.inl e
 |.inr a=>.inr (f a)
theorem ah6(s:BS):jx (ix s)=jx s:=rfl
theorem aAb(s:BS):bX (ix s)=strip (bX s):=by
 unfold bX;rw[ah6];simp only[ix,dG,f5];cases s.1[jx s]?<;>rfl
theorem ah7(e e':Int)(c:List aG)(k:Nat)(i:aG)(s:BS):ln ix (da e c k i s)=ln ix (da e' c k i (ix s)):=by
 have ht:=aAb s;unfold da;rw[ah6,ht];have h2:(ix s).2=s.2:=rfl;have hl:(ix s).1.length=s.1.length:=by simp[ix]
 rw[h2,hl];have ha:(strip (bX s)).At=(bX s).At:=rfl;have hb:(strip (bX s)).Else=(bX s).Else:=rfl;have hc:(strip (bX s)).Result=(bX s).Result:=rfl;have hd:(strip (bX s)).Height=(bX s).Height:=rfl;have he:(strip (bX s)).End=0:=rfl;rw[ha,hb,hc,hd,he];have hm:∀b:bf,strip (strip b)=strip b:=fun b=>rfl
 have hmm:∀l:List bf,(l.map strip).map strip=l.map strip:=fun l=>by rw[zz];rfl
 repeat' split
 all_goals first
  |rfl
  |(simp only[ln,ix,wQ,List.map_set,hmm,eu,List.map_nil];try rfl)
theorem ah8(e e':Int)(c:List aG):∀(n k:Nat)(s s':BS),ix s=ix s'->ln ix (eJ e c n k s)=ln ix (eJ e' c n k s')
 |0,k,s,s',h=>by simp only[eJ,ln,h]
 |n+1,k,s,s',h=>by
  have h1:ln ix (da e c k (c.getD k aG.zero) s)=ln ix (da e' c k (c.getD k aG.zero) s'):=by
   rw[ah7 e e' c k _ s,h,<-ah7 e' e' c k _ s']
  simp only[eJ];cases hx:da e c k (c.getD k aG.zero) s with
  |inl x=>
   cases hy:da e' c k (c.getD k aG.zero) s' with
   |inl y=>rw[hx,hy]at h1;injection h1 with h1;rw[h1]
   |inr y=>rw[hx,hy]at h1;cases h1
  |inr x=>
   cases hy:da e' c k (c.getD k aG.zero) s' with
   |inl y=>rw[hx,hy]at h1;cases h1
   |inr y=>
    rw[hx,hy]at h1;injection h1 with h1;exact ah8 e e' c n (k+1) x y h1
def pr(b:bf):Int×Bool:=(b.At,b.Result)
def gd(s:BS):List (Int×Bool):=s.1.map pr
structure BInv (k:Nat) (s:BS):Prop where
 lt:∀x∈gd s,0<=x.1/\x.1<k
 inc:(gd s).Pairwise fun a b=>a.1<b.1
 opn:∀x∈s.2,0<=x/\x<s.1.length
 six:s.2.length<=6
 cnt:s.1.length<=k
theorem EU{k:Nat}{s:BS}(h:BInv k s)(h0:s.2.length≠0):jx s<s.1.length/\((jx s:Nat):Int)=s.2.getD (s.2.length-1) 0:=by
 have hm:s.2.getD (s.2.length-1) 0∈s.2:=by rw[getD_lt (by omega)];exact bG _
 have:=h.opn _ hm;unfold jx;omega
theorem OT(l:List bf)(i:Nat)(b:bf)(h:pr b=pr (l.getD i bf.zero)):(l.set i b).map pr=l.map pr:=by
 rw[List.map_set,h];apply qg;intro j;rw[jy];split
 ·rename_i e;subst e;split
  ·rename_i hl;rw[cr]at hl;rw[f5,getD_lt hl,ct hl];rfl
  ·rename_i hl;rw[m9 (by omega)]
 ·rfl
theorem zA{e:Int}{c:List aG}{k:Nat}{i:aG}{s s':BS}(h:da e c k i s=.inr s'):
 (fF i.Op=true/\s.2.length≠6/\gd s'=gd s++[((k:Int),i.A==1)]/\s'.2=s.2++[(s.1.length:Int)])\/
 (fF i.Op=false/\gd s'=gd s/\((i.Op=27/\s.2.length≠0/\s'.2=s.2)\/(i.Op=28/\s.2.length≠0/\s'.2=s.2.take (s.2.length-1))\/(i.Op≠27/\i.Op≠28/\s'.2=s.2))):=by
 unfold da at h;by_cases ho:fF i.Op=true
 ·rw[aE ho]at h;by_cases h6:s.2.length=6
  ·rw[aE h6]at h;cases h
  ·rw[av h6]at h;injection h with h;subst h;refine .inl ⟨ho,h6,?_,rfl⟩;simp only[gd,wQ,eu,List.map_nil];rfl
 ·rw[av ho]at h;have ho':fF i.Op=false:=by simpa using ho
  refine .inr ⟨ho',?_⟩;by_cases h27:i.Op=27
  ·rw[aE h27]at h;by_cases h0:s.2.length=0
   ·rw[aE h0]at h;cases h
   ·rw[av h0]at h;by_cases hc:opAt c (bX s).At≠26\/0<=(bX s).Else
    ·rw[aE hc]at h;cases h
    ·rw[av hc]at h;injection h with h;subst h;exact⟨OT _ _ _ rfl,.inl ⟨h27,h0,rfl⟩⟩
  ·rw[av h27]at h;by_cases h28:i.Op=28
   ·rw[aE h28]at h;by_cases h0:s.2.length=0
    ·rw[aE h0]at h;cases h
    ·rw[av h0]at h;by_cases hc:(opAt c (bX s).At=26/\(bX s).Result=true)/\(bX s).Else<0
     ·rw[aE hc]at h;cases h
     ·rw[av hc]at h;injection h with h;subst h;exact⟨OT _ _ _ rfl,.inr (.inl ⟨h28,h0,rfl⟩)⟩
   ·rw[av h28]at h;injection h with h;subst h;exact⟨rfl,.inr (.inr ⟨h27,h28,rfl⟩)⟩
theorem zB{e:Int}{c:List aG}{k:Nat}{i:aG}{s s':BS}(hI:BInv k s)(h:da e c k i s=.inr s'):BInv (k+1) s':=by
 have hlen:∀t:BS,(gd t).length=t.1.length:=fun t=>by simp[gd]
 rcases zA h with⟨_,h6,hp,ho⟩|⟨_,hp,ho⟩
 ·have hl:s'.1.length=s.1.length+1:=by rw[<-hlen s',hp,bA,hlen s];rfl
  refine⟨?_,?_,?_,?_,by have:=hI.cnt;omega⟩
  ·intro x hx;rw[hp]at hx;rcases dx.1 hx with hx|hx
   ·have:=hI.lt x hx;omega
   ·simp only[fi,KD,EM]at hx;subst hx;simp only;omega
  ·rw[hp,List.pairwise_append];refine⟨hI.inc,List.pairwise_singleton _ _,?_⟩;intro a ha b hb;simp only[fi,KD,EM]at hb;subst hb;exact(hI.lt a ha).2
  ·rw[ho];intro x hx;rcases dx.1 hx with hx|hx
   ·have:=hI.opn x hx;omega
   ·simp only[fi,KD,EM]at hx;subst hx;omega
  ·rw[ho,bA,aO,aU];have:=hI.six;omega
 ·have hl:s'.1.length=s.1.length:=by rw[<-hlen s',hp,hlen s]
  refine⟨?_,by rw[hp];exact hI.inc,?_,?_,by have:=hI.cnt;omega⟩
  ·rw[hp];intro x hx;have:=hI.lt x hx;omega
  ·rw[hl];rcases ho with⟨_,_,ho⟩|⟨_,_,ho⟩|⟨_,_,ho⟩<;>rw[ho]
   ·exact hI.opn
   ·exact fun x hx=>hI.opn x (List.mem_of_mem_take hx)
   ·exact hI.opn
  ·rcases ho with⟨_,_,ho⟩|⟨_,_,ho⟩|⟨_,_,ho⟩<;>rw[ho]
   ·exact hI.six
   ·rw[ib];have:=hI.six;omega
   ·exact hI.six
theorem zC:BInv 0 ([],[]):=⟨fun x hx=>by simp[gd]at hx,by simp[gd],fun x hx=>by simp at hx,by simp,by simp⟩
theorem KE{e:Int}{c:List aG}:∀(n k:Nat)(s B:BS),BInv k s->eJ e c n k s=.inr B->(∃r,gd B=gd s++r)/\BInv (k+n) B
 |0,k,s,B,hI,h=>by
  simp only[eJ]at h;injection h with h;subst h;exact⟨⟨[],by simp⟩,hI⟩
 |n+1,k,s,B,hI,h=>by
  simp only[eJ]at h;cases hx:da e c k (c.getD k aG.zero) s with
  |inl x=>rw[hx]at h;cases h
  |inr s'=>
   rw[hx]at h;obtain⟨⟨r,hr⟩,hp⟩:=KE n (k+1) s' B (zB hI hx) h;refine⟨?_,by rw[show k+(n+1)=k+1+n by omega];exact hp⟩;rcases zA hx with⟨_,_,hp',_⟩|⟨_,hp',_⟩
   ·exact⟨[((k:Int),(c.getD k aG.zero).A==1)]++r,by rw[hr,hp',iR]⟩
   ·exact⟨r,by rw[hr,hp']⟩
theorem aAc{L:List (Int×Bool)}(h:L.Pairwise fun a b=>a.1<b.1){j:Nat}(hj:j<L.length)(p:Int×Bool->Bool)(hp:∀x,p x=(x.1==(L[j]).1)):L.findIdx? p=some j:=by
 rw[List.findIdx?_eq_some_iff_getElem];refine⟨hj,by rw[hp];simp,?_⟩;intro i hi;have:=wU.1 h i j (by omega) hj hi;rw[hp];simp only[de];omega
end M
namespace M
open Go.V (inB cF af bV)
def dV(b:Bool):Int:=bif b then 1 else 0
theorem mi(b:Bool):0<=dV b/\dV b<=1:=by cases b<;>decide
structure dA where
 eD:Int
 op:List Int
 ba:List Int
 h:Int
 kn:Bool
def dC(s:dA):Int:=if s.ba.length=0 then 0 else s.ba.getD (s.ba.length-1) 0
def fG(P:List (Int×Bool))(s:dA):Int×Bool:=P.getD (s.op.getD (s.op.length-1) 0).toNat (0,false)
def iL(m:aM)(c:an)(i:aG)(s:dA):Bool:=
 if i.Op=2\/i.Op=3\/i.Op=4 then decide (i.A<c.Params+c.cX)
 else if i.Op=32 then decide (i.A<(m.aI.length:Int))
 else if i.Op=33 then decide (i.A<(m.al.length:Int))
 else if i.Op=29\/i.Op=30 then decide (i.A<=(s.op.length:Int))else true
def cE(m:aM)(i:aG):Int×Int:=
 if i.Op=1\/i.Op=2 then(0,1)
 else if i.Op=3\/i.Op=5\/i.Op=26\/i.Op=30 then(1,0)
 else if i.Op=4\/i.Op=22\/i.Op=34\/i.Op=35\/i.Op=36 then(1,1)
 else if i.Op=23 then(3,1)
 else if i.Op=37\/i.Op=38\/i.Op=39 then(2,0)
 else if i.Op=32 then((m.aI.getD i.A.toNat an.zero).Params,dV (m.aI.getD i.A.toNat an.zero).Result)
 else if i.Op=33 then((m.al.getD i.A.toNat aN.zero).Params,dV (m.al.getD i.A.toNat aN.zero).Result)
 else if i.Op=24\/i.Op=25\/i.Op=29\/i.Op=31\/i.Op=40 then(0,0)else(2,1)
def iy(c:an)(P:List (Int×Bool))(i:aG)(s:dA):Int:=
 if i.Op=31 then dV c.Result
 else if i.Op=29\/i.Op=30 then
  if(s.op.length:Int)-1-i.A<0 then dV c.Result
  else dV ((P.getD (s.op.getD ((s.op.length:Int)-1-i.A).toNat 0).toNat (0,false)).2&& !(opAt c.Code (P.getD (s.op.getD ((s.op.length:Int)-1-i.A).toNat 0).toNat (0,false)).1==25))
 else 0
def jM(m:aM)(c:an)(P:List (Int×Bool))(i:aG)(s:dA):Int⊕dA:=
 if i.Op=27\/i.Op=28 then
  if s.kn=true/\s.h≠dC s+dV (fG P s).2 then .inl 7
  else if i.Op=27 then .inr {s with kn:=true,h:=dC s}
  else if 24<dC s+dV (fG P s).2 then .inl 4
  else .inr {s with kn:=true,h:=dC s+dV (fG P s).2,op:=s.op.take (s.op.length-1),ba:=s.ba.take (s.ba.length-1)}
 else if s.kn=false then .inl 5
 else if iL m c i s=false then .inl 2
 else if s.h-(cE m i).1<dC s then .inl 7
 else if 24<s.h-(cE m i).1+(cE m i).2 then .inl 4
 else if s.h-(cE m i).1+(cE m i).2-iy c P i s<dC s then .inl 7
 else .inr {
  eD:=if fF i.Op=true then s.eD+1 else s.eD
  op:=if fF i.Op=true then s.op++[s.eD]else s.op
  ba:=if fF i.Op=true then s.ba++[s.h-(cE m i).1+(cE m i).2]else s.ba
  h:=s.h-(cE m i).1+(cE m i).2
  kn:= !(i.Op==29||i.Op==31||i.Op==40)}
def ng(s:dA):cZ:=if s.kn=true then cZ.mk true s.h s.op else cZ.mk false 0 []
def lT(m:aM)(c:an)(P:List (Int×Bool)):Nat->Nat->dA->List cZ->(Int×Int)⊕(dA×List cZ)
 |0,k,s,a=>.inr (s,a)
 |n+1,k,s,a=>match jM m c P (c.Code.getD k aG.zero) s with
  |.inl x=>.inl ((k:Int),x)
  |.inr s'=>lT m c P n (k+1) s' (a++[ng s])
structure qP (m:aM):Prop where
 m7:m.aI.length<=8
 imports:m.al.length<=12
 imp:∀x∈m.al,0<=x.Params/\x.Params<=8
 core:∀x∈m.aI,(0<=x.Params/\x.Params<=8)/\(0<=x.cX/\x.cX<=8)/\x.Code.length<=120
 ins:∀x∈m.aI,∀i∈x.Code,(1<=i.Op/\i.Op<=40)/\(i.Op≠1->0<=i.A/\i.A<=16777216)
structure tX (B:BS) (s:dA):Prop where
 op:s.op=B.2
 eD:s.eD=(B.1.length:Int)
 len:s.ba.length=s.op.length
 ba:∀x∈s.ba,0<=x/\x<=24
 h:0<=s.h/\s.h<=24
theorem OU{B:BS}{s:dA}(h:tX B s):0<=dC s/\dC s<=24:=by
 unfold dC;by_cases h0:s.ba.length=0
 ·rw[aE h0];omega
 ·rw[av h0,getD_lt (by omega)];exact h.ba _ (bG _)
theorem OV{m:aM}(hm:qP m)(i:aG):(0<=(cE m i).1/\(cE m i).1<=8)/\(0<=(cE m i).2/\(cE m i).2<=1):=by
 have hc:0<=(m.aI.getD i.A.toNat an.zero).Params/\(m.aI.getD i.A.toNat an.zero).Params<=8:=by
  rw[dG];cases h:m.aI[i.A.toNat]? with
  |none=>simp[an.zero]
  |some x=>exact(hm.core x (gG h)).1
 have hi:0<=(m.al.getD i.A.toNat aN.zero).Params/\(m.al.getD i.A.toNat aN.zero).Params<=8:=by
  rw[dG];cases h:m.al[i.A.toNat]? with
  |none=>simp[aN.zero]
  |some x=>exact hm.imp x (gG h)
 have b1:=mi (m.aI.getD i.A.toNat an.zero).Result;have b2:=mi (m.al.getD i.A.toNat aN.zero).Result;unfold cE
 repeat' split
 all_goals simp only
 all_goals omega
def OW(m:aM)(i:aG)(s:dA):dA:={
    eD:=if fF i.Op=true then s.eD+1 else s.eD
    op:=if fF i.Op=true then s.op++[s.eD]else s.op
    ba:=if fF i.Op=true then s.ba++[s.h-(cE m i).1+(cE m i).2]else s.ba
    h:=s.h-(cE m i).1+(cE m i).2
    kn:= !(i.Op==29||i.Op==31||i.Op==40)}
theorem ah9{m:aM}{c:an}{P:List (Int×Bool)}{i:aG}{s s':dA}(hn:¬(i.Op=27\/i.Op=28))(hc:jM m c P i s=.inr s'):
 (s.kn=true/\iL m c i s=true/\dC s<=s.h-(cE m i).1/\s.h-(cE m i).1+(cE m i).2<=24)/\s'=OW m i s:=by
 unfold jM at hc;rw[av hn]at hc;by_cases q1:s.kn=false
 ·rw[aE q1]at hc;cases hc
 rw[av q1]at hc;by_cases q2:iL m c i s=false
 ·rw[aE q2]at hc;cases hc
 rw[av q2]at hc;by_cases q3:s.h-(cE m i).1<dC s
 ·rw[aE q3]at hc;cases hc
 rw[av q3]at hc;by_cases q4:24<s.h-(cE m i).1+(cE m i).2
 ·rw[aE q4]at hc;cases hc
 rw[av q4]at hc;by_cases q5:s.h-(cE m i).1+(cE m i).2-iy c P i s<dC s
 ·rw[aE q5]at hc;cases hc
 rw[av q5]at hc;injection hc with hc;exact⟨⟨by simpa using q1,by simpa using q2,by omega,by omega⟩,hc.symm⟩
theorem aia{m:aM}{c:an}{P:List (Int×Bool)}{i:aG}{e:Int}{code:List aG}{k:Nat}{B B':BS}{s s':dA}(hm:qP m)(hI:tX B s)(hb:da e code k i B=.inr B')(hc:jM m c P i s=.inr s'):tX B' s':=by
 have hbl:=OU hI;have htk:=OV hm i;have hbit:=mi (fG P s).2;have hlen:∀t:BS,(gd t).length=t.1.length:=fun t=>by simp[gd]
 rcases zA hb with⟨ho,h6,hp,hop⟩|⟨ho,hp,hop⟩
 ·have hn:¬(i.Op=27\/i.Op=28):=by
   unfold fF at ho;simp only[eC,de]at ho;omega
  have hl:B'.1.length=B.1.length+1:=by rw[<-hlen B',hp,bA,hlen B];rfl
  obtain⟨⟨q1,q2,q3,q4⟩,rfl⟩:=ah9 hn hc;unfold OW;refine⟨?_,?_,?_,?_,?_⟩
  ·rw[hop,<-hI.op,<-hI.eD];simp only[ho,eY]
  ·simp only[ho,eY,hI.eD];omega
  ·simp only[ho,eY,bA,hI.len,aO,aU]
  ·simp only[ho,eY];intro x hx;rcases dx.1 hx with hx|hx
   ·exact hI.ba x hx
   ·simp only[fi,KD,EM]at hx;subst hx;omega
  ·simp only;omega
 ·have hl:B'.1.length=B.1.length:=by rw[<-hlen B',hp,hlen B]
  by_cases hn:i.Op=27\/i.Op=28
  ·unfold jM at hc;rw[aE hn]at hc;split at hc
   ·cases hc
   ·split at hc
    ·rename_i q1 q2;injection hc with hc;subst hc;have h2:B'.2=B.2:=by
      rcases hop with⟨_,_,h⟩|⟨h,_,_⟩|⟨h,_,_⟩
      ·exact h
      ·omega
      ·omega
     exact⟨by rw[h2];exact hI.op,by rw[hl];exact hI.eD,hI.len,hI.ba,hbl⟩
    ·split at hc
     ·cases hc
     ·rename_i q1 q2 q3;injection hc with hc;subst hc;have h2:B'.2=B.2.take (B.2.length-1):=by
       rcases hop with⟨h,_,_⟩|⟨_,_,h⟩|⟨_,h,_⟩
       ·omega
       ·exact h
       ·omega
      refine⟨by rw[h2,<-hI.op],by rw[hl];exact hI.eD,?_,?_,?_⟩
      ·simp only[ib,hI.len]
      ·simp only;exact fun x hx=>hI.ba x (List.mem_of_mem_take hx)
      ·simp only;omega
  ·have h2:B'.2=B.2:=by
    rcases hop with⟨h,_,_⟩|⟨h,_,_⟩|⟨_,_,h⟩
    ·omega
    ·omega
    ·exact h
   obtain⟨⟨q1,q2,q3,q4⟩,rfl⟩:=ah9 hn hc;unfold OW;have hof:¬(fF i.Op=true):=by rw[ho];simp
   refine⟨?_,?_,?_,?_,?_⟩
   ·rw[h2];simp only[ho,fZ,gz];exact hI.op
   ·simp only[ho,fZ,gz,hl];exact hI.eD
   ·simp only[ho,fZ,gz,hI.len]
   ·simp only[ho,fZ,gz];exact hI.ba
   ·simp only;omega
end M
set_option linter.unusedSimpArgs false
namespace M
open Go.V (inB cF af bV)
theorem KF{k:Nat}{s:BS}(h:BInv k s)(h0:s.2.length≠0):0<=(bX s).At/\(bX s).At<k:=by
 have h1:=(EU h h0).1;have hm:pr (bX s)∈gd s:=by
  unfold bX gd;rw[getD_lt h1];exact jB.2 ⟨_,bG h1,rfl⟩
 exact h.lt _ hm
theorem tY{n:Nat}(h0:n≠0)(h:n<=6):Go.IntKind.wrap .i64 ((n:Int)-1)=((n-1:Nat):Int):=by rw[wrap_i64 (by omega) (by omega)];omega
theorem qQ{x:Int}{n:Nat}(h:0<=x/\x<n):inB x n=true:=by
 obtain⟨a,rfl⟩:=KG h.1;rw[bp,bq];omega
theorem aib(c:an)(hn:c.Code.length<=120):∀(f k:Nat)(s:BS),k<=c.Code.length->c.Code.length-k<f->BInv k s->
 M.oZ c f (k:Int) s.1 s.2=some (match eJ (-1) c.Code (c.Code.length-k) k s with
   |.inl p=>.inl (p.1,p.2,[])
   |.inr s'=>.inr (c,s'.1,s'.2))
 |0,k,s,h1,h2,_=>by omega
 |f+1,k,s,h1,h2,hI=>by
  rw[M.oZ];rcases cA k c.Code.length with hk|hk
  ·obtain⟨r,hr⟩:∃r,c.Code.length-k=r+1:=⟨c.Code.length-k-1,by omega⟩;have hr':c.Code.length-(k+1)=r:=by omega
   have ih:=fun s' h=>aib c hn f (k+1) s' (by omega) (by omega) h
   rw[hr']at ih;rw[hr];simp only[eJ];have hinv:=fun s' h=>zB (e:= -1) (c:=c.Code) (i:=c.Code.getD k aG.zero) (s':=s') hI h
   have hw:Go.IntKind.wrap .i64 ((k:Int)+1)=((k+1:Nat):Int):=bw hk (by omega);have h6:=hI.six;have hcnt:=hI.cnt;simp only[bz,bp,bJ,hk,bg,aA,aR,hw];generalize hi:c.Code.getD k aG.zero=i at hinv⊢;rw[show(i.Op==24||i.Op==25||i.Op==26)=fF i.Op from rfl];by_cases ho:fF i.Op=true
   ·rw[ho,aA];by_cases hl:s.2.length=6
    ·have hb:da (-1) c.Code k i s=.inl 4:=by unfold da;rw[aE ho,aE hl]
     rw[hb,hl];rfl
    ·have hb:da (-1) c.Code k i s=.inr (s.1++[bf.mk (k:Int) (-1) (-1) 0 (i.A==1)],s.2++[(s.1.length:Int)]):=by unfold da;rw[aE ho,av hl]
     have q:(((s.2.length:Nat):Int)==6)=false:=by rw[dS];omega
     have d1:decide (s.1.length+1<=1073741824)=true:=by rw[bq];omega
     have d2:decide (s.2.length+1<=1073741824)=true:=by rw[bq];omega
     have:=ih _ (hinv _ hb);simp only[q,bN,aO,aU,dI,d1,d2,cK,aA];rw[hb];exact this
   ·have ho':fF i.Op=false:=by simpa using ho
    rw[ho',bN];by_cases h27:i.Op=27
    ·have b27:(i.Op==27)=true:=by rw[h27];rfl
     rw[b27,aA];by_cases h0:s.2.length=0
     ·have hb:da (-1) c.Code k i s=.inl 5:=by unfold da;rw[av ho,aE h27,aE h0]
      rw[hb];simp[h0]
     ·have ht:=EU hI h0;have hat:=KF hI h0;have q:(((s.2.length:Nat):Int)==0)=false:=by rw[dS];omega
      have e1:=ht.2.symm;have hA:inB (bX s).At c.Code.length=true:=qQ ⟨hat.1,by omega⟩;have hS:s.2.length-1<s.2.length:=by omega
      simp only[q,gq,tY h0 h6,bz,e1,bp,ht.1,hS,bg];rw[show List.getD s.1 (jx s) bf.zero=bX s from rfl,show(List.getD c.Code (Int.toNat (bX s).At) aG.zero).Op=opAt c.Code (bX s).At from rfl,hA];by_cases hc:opAt c.Code (bX s).At≠26\/0<=(bX s).Else
      ·have hb:da (-1) c.Code k i s=.inl 5:=by unfold da;rw[av ho,aE h27,av h0,aE hc]
       have hq:((opAt c.Code (bX s).At !=26)||decide (0<=(bX s).Else))=true:=by rw[eC,iq,bq];exact hc
       rw[hb,hq];simp
      ·have hb:da (-1) c.Code k i s=.inr (s.1.set (jx s) (bf.mk (bX s).At (k:Int) (bX s).End (bX s).Height (bX s).Result),s.2):=by unfold da;rw[av ho,aE h27,av h0,av hc]
       have hq:((opAt c.Code (bX s).At !=26)||decide (0<=(bX s).Else))=false:=by
        rw[kq,ne_eq,eC,iq,bq];exact hc
       have:=ih _ (hinv _ hb);rw[hb,hq];simp only[bN,bZ,cK,aA];exact this
    ·have b27:(i.Op==27)=false:=by rw[dS];exact h27
     rw[b27,bN];by_cases h28:i.Op=28
     ·have b28:(i.Op==28)=true:=by rw[h28];rfl
      rw[b28,aA];by_cases h0:s.2.length=0
      ·have hb:da (-1) c.Code k i s=.inl 5:=by unfold da;rw[av ho,av h27,aE h28,aE h0]
       rw[hb,h0];rfl
      ·have ht:=EU hI h0;have hat:=KF hI h0;have q:(((s.2.length:Nat):Int)==0)=false:=by rw[dS];omega
       have e1:=ht.2.symm;have hA:inB (bX s).At c.Code.length=true:=qQ ⟨hat.1,by omega⟩;have hS:s.2.length-1<s.2.length:=by omega
       have hsl:cF (0:Int) ((s.2.length-1:Nat):Int) s.2.length=true:=by unfold cF;simp
       simp only[q,bN,tY h0 h6,bz,e1,bp,ht.1,hS,bg,hsl];rw[show List.getD s.1 (jx s) bf.zero=bX s from rfl,show(List.getD c.Code (Int.toNat (bX s).At) aG.zero).Op=opAt c.Code (bX s).At from rfl,hA];by_cases hc:(opAt c.Code (bX s).At=26/\(bX s).Result=true)/\(bX s).Else<0
       ·have hb:da (-1) c.Code k i s=.inl 7:=by unfold da;rw[av ho,av h27,aE h28,av h0,aE hc]
        have hq:(((opAt c.Code (bX s).At==26)&&(bX s).Result)&&decide ((bX s).Else<0))=true:=by rw[bC,bC,de,bq];exact hc
        rw[hb,hq];rfl
       ·have hb:da (-1) c.Code k i s=.inr (s.1.set (jx s) (bf.mk (bX s).At (bX s).Else (k:Int) (bX s).Height (bX s).Result),s.2.take (s.2.length-1)):=by unfold da;rw[av ho,av h27,aE h28,av h0,av hc]
        have hq:(((opAt c.Code (bX s).At==26)&&(bX s).Result)&&decide ((bX s).Else<0))=false:=by rw[kq,ne_eq,bC,bC,de,bq];exact hc
        have:=ih _ (hinv _ hb);rw[hb,hq];simp only[bN,cK,aA];exact this
     ·have b28:(i.Op==28)=false:=by rw[dS];exact h28
      have hb:da (-1) c.Code k i s=.inr s:=by unfold da;rw[av ho,av h27,av h28]
      have:=ih _ (hinv _ hb);rw[b28,bN,hb];exact this
  ·have:k=c.Code.length:=by omega
   subst this;simp[eJ]
def lp(e:Int)(c:an):(Int×Int)⊕List bf:=
 match eJ e c.Code c.Code.length 0 ([],[])with
 |.inl p=>.inl p
 |.inr s=>if s.2.length=0 then .inr s.1 else .inl ((c.Code.length:Int),5)
theorem aAd(c:an)(hn:c.Code.length<=120):M.Dt c=some (match lp (-1) c with
 |.inl p=>(p.1,p.2,[])
 |.inr b=>(0,0,b)):=by
 unfold M.Dt lp;have e:=aib c hn af 0 ([],[]) (abo _) (by have:=bV;omega) zC;have e':M.oZ c af 0 [] []=_:=e;rw[e',Nat.sub_zero];cases h:eJ (-1) c.Code c.Code.length 0 ([],[])with
 |inl p=>rfl
 |inr s=>
  simp only;by_cases h0:s.2.length=0
  ·rw[aE h0,h0];rfl
  ·rw[av h0];have:decide ((0:Int)<((s.2.length:Nat):Int))=true:=by rw[bq];omega
   rw[this];rfl
end M
namespace M
open Go.V (inB cF af bV)
theorem zD(b:Bool):M.kY b=some (dV b):=by cases b<;>rfl
theorem KH(b:Bool):M.jt b=some (dV b):=by cases b<;>rfl
theorem aic{b c:Bool}:(bif b then b else c)=(b||c):=by cases b<;>rfl
theorem KI{K:Int}(h:1<=K/\K<=40):K=1\/K=2\/K=3\/K=4\/K=5\/K=6\/K=7\/K=8\/K=9\/K=10\/K=11\/K=12\/K=13\/K=14\/K=15\/K=16\/K=17\/K=18\/K=19\/K=20\/K=21\/K=22\/K=23\/K=24\/K=25\/K=26\/K=27\/K=28\/K=29\/K=30\/K=31\/K=32\/K=33\/K=34\/K=35\/K=36\/K=37\/K=38\/K=39\/K=40:=by omega
theorem aAe(m:aM)(c:an)(i:aG)(s:dA)(h1:0<=c.Params/\c.Params<=8)(h2:0<=c.cX/\c.cX<=8)(hi:1<=i.Op/\i.Op<=40):M.Dx m c i (s.op.length:Int)=some (iL m c i s):=by
 obtain⟨K,A⟩:=i;have hw:Go.IntKind.wrap .i64 (c.Params+c.cX)=c.Params+c.cX:=wrap_i64 (by omega) (by omega);unfold M.Dx;rw[hw];simp only at hi;rcases KI hi with rfl|rfl|rfl|rfl|rfl|rfl|rfl|rfl|rfl|rfl|rfl|rfl|rfl|rfl|rfl|rfl|rfl|rfl|rfl|rfl|rfl|rfl|rfl|rfl|rfl|rfl|rfl|rfl|rfl|rfl|rfl|rfl|rfl|rfl|rfl|rfl|rfl|rfl|rfl|rfl<;>rfl
theorem aAf(m:aM)(c:an)(bl:List bf)(i:aG)(s:dA)(h1:0<=c.Params/\c.Params<=8)(h2:0<=c.cX/\c.cX<=8)(hi:1<=i.Op/\i.Op<=40):
 M.DI (M.eg.mk m c bl s.eD s.op s.ba s.h s.kn) i=some (iL m c i s):=by
 obtain⟨K,A⟩:=i;have hw:Go.IntKind.wrap .i64 (c.Params+c.cX)=c.Params+c.cX:=wrap_i64 (by omega) (by omega);unfold M.DI;simp only[hw];simp only at hi;rcases KI hi with rfl|rfl|rfl|rfl|rfl|rfl|rfl|rfl|rfl|rfl|rfl|rfl|rfl|rfl|rfl|rfl|rfl|rfl|rfl|rfl|rfl|rfl|rfl|rfl|rfl|rfl|rfl|rfl|rfl|rfl|rfl|rfl|rfl|rfl|rfl|rfl|rfl|rfl|rfl|rfl<;>rfl
theorem aAg(m:aM)(c:an)(i:aG)(s:dA)(hi:1<=i.Op/\i.Op<=40)(hA:i.Op≠1->0<=i.A)(hn:i.Op≠27/\i.Op≠28)(ht:iL m c i s=true):M.Dy m i=some (cE m i):=by
 obtain⟨K,A⟩:=i;simp only at hi hA hn;unfold M.Dy;simp only[zD];rcases KI hi with rfl|rfl|rfl|rfl|rfl|rfl|rfl|rfl|rfl|rfl|rfl|rfl|rfl|rfl|rfl|rfl|rfl|rfl|rfl|rfl|rfl|rfl|rfl|rfl|rfl|rfl|rfl|rfl|rfl|rfl|rfl|h32|OX|rfl|rfl|rfl|rfl|rfl|rfl|rfl
 case inr.inr.inr.inr.inr.inr.inr.inr.inr.inr.inr.inr.inr.inr.inr.inr.inr.inr.inr.inr.inr.inr.inr.inr.inr.inr.inr.inr.inr.inr.inr.inl=>
  subst h32;have hl:A<(m.aI.length:Int):=by
   have:iL m c ⟨32,A⟩ s=decide (A<(m.aI.length:Int)):=rfl;rw[this,bq]at ht;exact ht
  have hb:inB A m.aI.length=true:=qQ ⟨hA (by omega),hl⟩;simp only[hb,aX,aV];rfl
 case inr.inr.inr.inr.inr.inr.inr.inr.inr.inr.inr.inr.inr.inr.inr.inr.inr.inr.inr.inr.inr.inr.inr.inr.inr.inr.inr.inr.inr.inr.inr.inr.inl=>
  subst OX;have hl:A<(m.al.length:Int):=by
   have:iL m c ⟨33,A⟩ s=decide (A<(m.al.length:Int)):=rfl;rw[this,bq]at ht;exact ht
  have hb:inB A m.al.length=true:=qQ ⟨hA (by omega),hl⟩;simp only[hb,aX,aV];rfl
 all_goals first|rfl|(exfalso;omega)
theorem aAh(m:aM)(c:an)(bl:List bf)(i:aG)(s:dA)(hi:1<=i.Op/\i.Op<=40)(hA:i.Op≠1->0<=i.A)(hn:i.Op≠27/\i.Op≠28)(ht:iL m c i s=true):
 M.DJ (M.eg.mk m c bl s.eD s.op s.ba s.h s.kn) i=some (cE m i):=by
 obtain⟨K,A⟩:=i;simp only at hi hA hn;unfold M.DJ;simp only[KH];rcases KI hi with rfl|rfl|rfl|rfl|rfl|rfl|rfl|rfl|rfl|rfl|rfl|rfl|rfl|rfl|rfl|rfl|rfl|rfl|rfl|rfl|rfl|rfl|rfl|rfl|rfl|rfl|rfl|rfl|rfl|rfl|rfl|h32|OX|rfl|rfl|rfl|rfl|rfl|rfl|rfl
 case inr.inr.inr.inr.inr.inr.inr.inr.inr.inr.inr.inr.inr.inr.inr.inr.inr.inr.inr.inr.inr.inr.inr.inr.inr.inr.inr.inr.inr.inr.inr.inl=>
  subst h32;have hl:A<(m.aI.length:Int):=by
   have:iL m c ⟨32,A⟩ s=decide (A<(m.aI.length:Int)):=rfl;rw[this,bq]at ht;exact ht
  have hb:inB A m.aI.length=true:=qQ ⟨hA (by omega),hl⟩;simp only[hb,aX,aV];rfl
 case inr.inr.inr.inr.inr.inr.inr.inr.inr.inr.inr.inr.inr.inr.inr.inr.inr.inr.inr.inr.inr.inr.inr.inr.inr.inr.inr.inr.inr.inr.inr.inr.inl=>
  subst OX;have hl:A<(m.al.length:Int):=by
   have:iL m c ⟨33,A⟩ s=decide (A<(m.al.length:Int)):=rfl;rw[this,bq]at ht;exact ht
  have hb:inB A m.al.length=true:=qQ ⟨hA (by omega),hl⟩;simp only[hb,aX,aV];rfl
 all_goals first|rfl|(exfalso;omega)
end M
namespace M
open Go.V (inB cF af bV)
theorem KJ(l:List bf)(j:Nat):(l.map pr).getD j (0,false)=pr (l.getD j bf.zero):=by
 rw[dG,dG,f5];cases l[j]?<;>rfl
def KL(c:an)(P:List (Int×Bool)):Prop:=∀x∈P,0<=x.1/\x.1<(c.Code.length:Int)
theorem at_in{c:an}{P:List (Int×Bool)}(hP:KL c P){o:List bf}(ho:o.map pr=P){j:Nat}(hj:j<o.length):inB (o.getD j bf.zero).At c.Code.length=true:=by
 refine qQ (hP (pr (o.getD j bf.zero)) ?_);rw[<-ho,getD_lt hj];exact jB.2 ⟨_,bG hj,rfl⟩
structure wV (P:List (Int×Bool)) (s:dA) (o1:List bf):Prop where
 pr:o1.map pr=P
 ht:∀j,j<s.op.length->(o1.getD (s.op.getD j 0).toNat bf.zero).Height=s.ba.getD j 0
structure qR (P:List (Int×Bool)) (s:dA):Prop where
 op:∀x∈s.op,0<=x/\x<(P.length:Int)
 six:s.op.length<=6
 len:s.ba.length=s.op.length
theorem qR.at_{P:List (Int×Bool)}{s:dA}(h:qR P s){j:Nat}(hj:j<s.op.length):(s.op.getD j 0).toNat<P.length/\(((s.op.getD j 0).toNat:Nat):Int)=s.op.getD j 0:=by
 have:=h.op (s.op.getD j 0) (by rw[getD_lt hj];exact bG hj);omega
theorem aAi{P:List (Int×Bool)}{s:dA}{o1:List bf}(hr:wV P s o1)(hi:qR P s)(m:aM)(c:an)(h:Int)(d:Bool):M.yT (M.eA.mk m c o1 s.op h d)=some (dC s):=by
 unfold M.yT dC;simp only;by_cases h0:s.op.length=0
 ·rw[h0,aE (by rw[hi.len];exact h0)];rfl
 ·have hp:decide ((0:Int)<((s.op.length:Nat):Int))=true:=by rw[bq];omega
  have hj:s.op.length-1<s.op.length:=by omega
  obtain⟨h1,h2⟩:=hi.at_ hj;have hl:o1.length=P.length:=by rw[<-hr.pr,cr]
  have e:=hr.ht _ hj;rw[av (by rw[hi.len];exact h0),hp,aA,tY h0 hi.six,bz,hi.len];rw[<-e,<-h2];simp only[bp,bz,hl,h1,hj,bg,cK,aA]
theorem aid(s:dA)(h6:s.ba.length<=6)(m:aM)(c:an)(bl:List bf):M.vP (M.eg.mk m c bl s.eD s.op s.ba s.h s.kn)=some (dC s):=by
 unfold M.vP dC;simp only;by_cases h0:s.ba.length=0
 ·rw[aE h0,h0];rfl
 ·have q:(((s.ba.length:Nat):Int)==0)=false:=by rw[dS];omega
  rw[av h0,q,bN,tY h0 h6,bz,bp,fK (by omega:s.ba.length-1<s.ba.length)];rfl
theorem aAj{m:aM}{c:an}{P:List (Int×Bool)}(hP:KL c P){bl:List bf}(hb:bl.map pr=P){s:dA}(hi:qR P s)(i:aG)(hA:i.Op≠1->0<=i.A)(ht:iL m c i s=true):
 M.DK (M.eg.mk m c bl s.eD s.op s.ba s.h s.kn) i=some (iy c P i s):=by
 unfold M.DK iy;simp only[KH,aX,aV,aR,aZ,aA];by_cases h31:i.Op=31
 ·rw[aE h31,h31];rfl
 ·have zu:(i.Op==31)=false:=by rw[dS];exact h31
  rw[av h31,zu,bN,aic];by_cases hbr:i.Op=29\/i.Op=30
  ·have wW:(i.Op==29||i.Op==30)=true:=by rw[eC,de,de];exact hbr
   rw[aE hbr,wW,aA];have hA0:0<=i.A:=hA (by omega);have hle:i.A<=(s.op.length:Int):=by
    unfold iL at ht;rw[av (by omega),av (by omega),av (by omega),aE hbr,bq]at ht;exact ht
   have h6:=hi.six;have hw:Go.IntKind.wrap .i64 (Go.IntKind.wrap .i64 ((s.op.length:Int)-1)-i.A)=(s.op.length:Int)-1-i.A:=by
    rw[wrap_i64 (n:=(s.op.length:Int)-1) (by omega) (by omega),wrap_i64 (by omega) (by omega)]
   rw[hw];by_cases hd:(s.op.length:Int)-1-i.A<0
   ·rw[aE hd,fK hd,aA]
   ·rw[av hd,iS hd,bN];obtain⟨j,hj⟩:=KG (by omega:0<=(s.op.length:Int)-1-i.A);rw[hj];have hjl:j<s.op.length:=by omega
    obtain⟨h1,h2⟩:=hi.at_ hjl;have hl:bl.length=P.length:=by rw[<-hb,cr]
    have hat:=at_in hP hb (j:=(s.op.getD j 0).toNat) (by rw[hl];exact h1);have hin:inB (s.op.getD j 0) bl.length=true:=by rw[<-h2,bp,bq,hl];exact h1
    simp only[bz,hat,hin,bp,hjl,bg,bZ,cK,aA];rw[<-hb,KJ];rfl
  ·have wW:(i.Op==29||i.Op==30)=false:=by rw[kq,ne_eq,eC,de,de];exact hbr
   rw[av hbr,wW,bN]
theorem aAk{m:aM}{c:an}{P:List (Int×Bool)}(hP:KL c P){o1:List bf}(hb:o1.map pr=P){s:dA}(hi:qR P s)(i:aG)(hA:0<=i.A)(hbr:i.Op=29\/i.Op=30)(ht:iL m c i s=true)(h:Int)(d:Bool):
 M.s9 (M.eA.mk m c o1 s.op h d) i.A=some (iy c P i s):=by
 unfold M.s9 iy;simp only[zD,aX,aV,aR,aZ,aA];rw[av (by omega),aE hbr];have hle:i.A<=(s.op.length:Int):=by
  unfold iL at ht;rw[av (by omega),av (by omega),av (by omega),aE hbr,bq]at ht;exact ht
 have h6:=hi.six;by_cases hd:i.A=(s.op.length:Int)
 ·rw[aE (by omega),hd,lF,aA]
 ·have q:(i.A==(s.op.length:Int))=false:=by rw[dS];exact hd
  rw[av (by omega),q,bN];have hw:Go.IntKind.wrap .i64 (Go.IntKind.wrap .i64 ((s.op.length:Int)-1)-i.A)=(s.op.length:Int)-1-i.A:=by
   rw[wrap_i64 (n:=(s.op.length:Int)-1) (by omega) (by omega),wrap_i64 (by omega) (by omega)]
  rw[hw];obtain⟨j,hj⟩:=KG (by omega:0<=(s.op.length:Int)-1-i.A);rw[hj];have hjl:j<s.op.length:=by omega
  obtain⟨h1,h2⟩:=hi.at_ hjl;have hl:o1.length=P.length:=by rw[<-hb,cr]
  have hat:=at_in hP hb (j:=(s.op.getD j 0).toNat) (by rw[hl];exact h1);have hin:inB (s.op.getD j 0) o1.length=true:=by rw[<-h2,bp,bq,hl];exact h1
  simp only[bz,hat,hin,bp,hjl,bg,cK,aA];rw[<-hb,KJ]
  show _=some (dV ((pr (o1.getD (s.op.getD j 0).toNat bf.zero)).2&& !(opAt c.Code (pr (o1.getD (s.op.getD j 0).toNat bf.zero)).1==25)))
  have e1:(pr (o1.getD (s.op.getD j 0).toNat bf.zero)).1=(o1.getD (s.op.getD j 0).toNat bf.zero).At:=rfl;have e2:(pr (o1.getD (s.op.getD j 0).toNat bf.zero)).2=(o1.getD (s.op.getD j 0).toNat bf.zero).Result:=rfl;rw[e1,e2];show(bif(opAt c.Code (o1.getD (s.op.getD j 0).toNat bf.zero).At==25)then some (0:Int)else some (dV (o1.getD (s.op.getD j 0).toNat bf.zero).Result))=_
  cases (opAt c.Code (o1.getD (s.op.getD j 0).toNat bf.zero).At==25)<;>cases (o1.getD (s.op.getD j 0).toNat bf.zero).Result<;>rfl
theorem aAl{P:List (Int×Bool)}{o1:List bf}(hb:o1.map pr=P)(EP:P.Pairwise fun a b=>a.1<b.1)(hlen:P.length<2^62){j k:Nat}(hj:j<P.length)(hk:(P[j]).1=(k:Int))(m:aM)(c:an)(op:List Int)(h:Int)(d:Bool):
 M.Dz (M.eA.mk m c o1 op h d) (k:Int)=some (j:Int):=by
 have hl:o1.length=P.length:=by rw[<-hb,cr]
 have e:=fY (p:=fun b:bf=>b.At==(k:Int)) (F:=M.vO (M.eA.mk m c o1 op h d) (k:Int)) (e:=()) (fun k=>k) o1 (by omega) (fun f q hq=>by
  rw[M.vO];simp only[getD_lt hq,bz,bp,bJ,hq,bg,aA,aR,bw hq (by omega:o1.length<2^62)]) (fun f=>by
  rw[M.vO];simp)
 have e2:o1.findIdx? (fun b:bf=>b.At==(k:Int))=some j:=by
  have h1:=aAc EP hj (fun x=>x.1==(k:Int)) (fun x=>by rw[hk]);rw[<-hb,List.findIdx?_map]at h1;exact h1
 unfold M.Dz;rw[e,e2]
end M
namespace M
open Go.V (inB cF af bV)
abbrev RS :=Int×List aN×List an×List UInt8×Int×Int×Bool×List aG×Int×Bool×List bf×List Int
def kt(m:aM)(c:an)(s:dA)(o1:List bf):RS:=(m.dh,m.al,m.aI,c.Name,c.Params,c.cX,c.Result,c.Code,s.h, !s.kn,o1,s.op)
theorem OY(m:aM):M.aM.mk m.dh m.al m.aI=m:=rfl
theorem OZ(c:an):M.an.mk c.Name c.Params c.cX c.Result c.Code=c:=rfl
structure nj (m:aM) (c:an) (P:List (Int×Bool)) (e:Int) (k:Nat) (i:aG) (B B':BS) (s:dA):Prop where
 lU:qP m
 core:c∈m.aI
 pin:KL c P
 inc:P.Pairwise fun a b=>a.1<b.1
 pl:P.length<=120
 hk:k<c.Code.length
 hi:c.Code.getD k aG.zero=i
 lV:tX B s
 EV:BInv k B
 step:da e c.Code k i B=.inr B'
 pre:∃r,P=gd B'++r
theorem nj.sin{m:aM}{c:an}{P:List (Int×Bool)}{e:Int}{k:Nat}{i:aG}{B B':BS}{s:dA}(h:nj m c P e k i B B' s):qR P s/\B.1.length<=P.length:=by
 obtain⟨r,hr⟩:=h.pre;have hl:∀t:BS,(gd t).length=t.1.length:=fun t=>by simp[gd]
 have hle:B.1.length<=P.length:=by
  rw[hr,bA,<-hl B];rcases zA h.step with⟨_,_,hp,_⟩|⟨_,hp,_⟩<;>rw[hp]
  ·rw[bA];omega
  ·omega
 refine⟨⟨?_,by rw[h.lV.op];exact h.EV.six,h.lV.len⟩,hle⟩;rw[h.lV.op];intro x hx;have:=h.EV.opn x hx;omega
theorem nj.op{m:aM}{c:an}{P:List (Int×Bool)}{e:Int}{k:Nat}{i:aG}{B B':BS}{s:dA}(h:nj m c P e k i B B' s):(1<=i.Op/\i.Op<=40)/\(i.Op≠1->0<=i.A):=by
 have:=h.lU.ins c h.core i (by rw[<-h.hi,getD_lt h.hk];exact bG h.hk);exact⟨this.1,fun h1=>(this.2 h1).1⟩
theorem nj.open_{m:aM}{c:an}{P:List (Int×Bool)}{e:Int}{k:Nat}{i:aG}{B B':BS}{s:dA}(h:nj m c P e k i B B' s)(hi:i.Op=27\/i.Op=28):s.op.length≠0:=by
 rw[h.lV.op];rcases zA h.step with⟨ho,_,_,_⟩|⟨_,_,hop⟩
 ·unfold fF at ho;simp only[eC,de]at ho;omega
 ·rcases hop with⟨_,h,_⟩|⟨_,h,_⟩|⟨h1,h2,_⟩
  ·exact h
  ·exact h
  ·omega
theorem nj.new{m:aM}{c:an}{P:List (Int×Bool)}{e:Int}{k:Nat}{i:aG}{B B':BS}{s:dA}(h:nj m c P e k i B B' s)(ho:fF i.Op=true):∃hj:B.1.length<P.length,(P[B.1.length]).1=(k:Int):=by
 obtain⟨r,hr⟩:=h.pre;have hl:(gd B).length=B.1.length:=by simp[gd]
 rcases zA h.step with⟨_,_,hp,_⟩|⟨ho',_,_⟩
 ·have hP:P=gd B++((k:Int),i.A==1)::r:=by rw[hr,hp,iR];rfl
  have hj:B.1.length<P.length:=by rw[hP,bA,hl,aO];omega
  refine⟨hj,?_⟩;have:P[B.1.length]?=some ((k:Int),i.A==1):=by
   rw[hP,d5 (by rw[hl];exact bY _),hl,rF];rfl
  rw[ct hj]at this;rw[f6 this]
 ·rw[ho]at ho';cases ho'
theorem aAm{m:aM}{c:an}{P:List (Int×Bool)}{s:dA}{o1:List bf}(hr:wV P s o1)(hi:qR P s)(h0:s.op.length≠0)(hb:0<=dC s/\dC s<=24)(e28:Bool):
 M.Dw e28 m.dh m.al m.aI c.Name c.Params c.cX c.Result c.Code s.h (!s.kn) o1 s.op=some (if s.kn=true/\s.h≠dC s+dV (fG P s).2 then(false,kt m c s o1)
   else if e28=true then(true,kt m c {s with kn:=true,h:=dC s+dV (fG P s).2,op:=s.op.take (s.op.length-1),ba:=s.ba.take (s.ba.length-1)} o1)
   else(true,kt m c {s with kn:=true,h:=dC s} o1)):=by
 have hj:s.op.length-1<s.op.length:=by omega
 obtain⟨h1,h2⟩:=hi.at_ hj;have hl:o1.length=P.length:=by rw[<-hr.pr,cr]
 have eh:(o1.getD (s.op.getD (s.op.length-1) 0).toNat bf.zero).Height=dC s:=by
  rw[hr.ht _ hj];unfold dC;rw[av (by rw[hi.len];exact h0),hi.len]
 have er:(o1.getD (s.op.getD (s.op.length-1) 0).toNat bf.zero).Result=(fG P s).2:=by
  unfold fG;rw[<-hr.pr,KJ];rfl
 have hin:inB (s.op.getD (s.op.length-1) 0) o1.length=true:=by rw[<-h2,bp,bq,hl];exact h1
 have hbit:=mi (fG P s).2;have hsl:cF (0:Int) ((s.op.length-1:Nat):Int) s.op.length=true:=by unfold cF;simp
 have hw:Go.IntKind.wrap .i64 (dC s+dV (fG P s).2)=dC s+dV (fG P s).2:=wrap_i64 (by omega) (by omega);unfold M.Dw;simp only[tY h0 hi.six,bz,eh,er,zD,aV,aX,hw,hin,bp,hj,bg,bZ,cK,aR,aA,wX,hsl];by_cases hc:s.kn=true/\s.h≠dC s+dV (fG P s).2
 ·have q:(s.kn&&(s.h !=dC s+dV (fG P s).2))=true:=by rw[bC,iq];exact hc
  rw[aE hc,q];rfl
 ·have q:(s.kn&&(s.h !=dC s+dV (fG P s).2))=false:=by rw[kq,ne_eq,bC,iq];exact hc
  rw[av hc,q];cases e28<;>rfl
theorem aAn{P:List (Int×Bool)}{s:dA}{o1:List bf}(hr:wV P s o1)(hi:qR P s)(h:Int):wV P {s with kn:=true,h:=h,op:=s.op.take (s.op.length-1),ba:=s.ba.take (s.ba.length-1)} o1:=by
 refine⟨hr.pr,fun j hj=>?_⟩;simp only[ib]at hj;have e1:(s.op.take (s.op.length-1)).getD j 0=s.op.getD j 0:=by
  rw[dG,dG,eI,aE (by omega)]
 have e2:(s.ba.take (s.ba.length-1)).getD j 0=s.ba.getD j 0:=by
  rw[dG,dG,eI,aE (by rw[hi.len];omega)]
 simp only[e1,e2];exact hr.ht j (by omega)
theorem aAo{m:aM}{c:an}{P:List (Int×Bool)}{e:Int}{k:Nat}{i:aG}{B B':BS}{s:dA}{o1:List bf}(h:nj m c P e k i B B' s)(hr:wV P s o1):
 ∃y:Int×RS,M.DC (k:Int) m.dh m.al m.aI c.Name c.Params c.cX c.Result c.Code s.h (!s.kn) o1 s.op=some y/\(match jM m c P i s with
  |.inl x=>y.1=x
  |.inr s'=>∃wY,y=(0,kt m c s' wY)/\wV P s' wY):=by
 obtain⟨hi,hle⟩:=h.sin;obtain⟨hop,hA⟩:=h.op;have hbl:=OU h.lV;have hbit:=mi (fG P s).2;have hk:=h.hk;unfold M.DC jM;simp only[bz,h.hi,bp,hk,bg,aR,OY,OZ];by_cases ht:i.Op=27\/i.Op=28
 ·have h0:=h.open_ ht;have qt:(i.Op==27||i.Op==28)=true:=by rw[eC,de,de];exact ht
  rw[aE ht,qt,aA,aAm (m:=m) (c:=c) hr hi h0 hbl (i.Op==28)];by_cases hc:s.kn=true/\s.h≠dC s+dV (fG P s).2
  ·rw[aE hc,aE hc];exact⟨_,rfl,rfl⟩
  ·rw[av hc,av hc];by_cases h27:i.Op=27
   ·have qM:(i.Op==28)=false:=by rw[dS];omega
    rw[aE h27,qM,av (by decide)];have:decide ((24:Int)<dC s)=false:=by rw[dR];omega
    refine⟨(0,kt m c {s with kn:=true,h:=dC s} o1),?_,o1,rfl,⟨hr.pr,hr.ht⟩⟩;simp only[kt,aV,this,dE,bN,aX,aA]
   ·have h28:i.Op=28:=by omega
    have qM:(i.Op==28)=true:=by rw[de];exact h28
    rw[av h27,qM,aE rfl];by_cases gB:24<dC s+dV (fG P s).2
    ·rw[aE gB];simp only[kt,aV,fK gB,dE,bN,aX,aA];exact⟨_,rfl,rfl⟩
    ·rw[av gB];refine⟨(0,kt m c {s with kn:=true,h:=dC s+dV (fG P s).2,op:=s.op.take (s.op.length-1),ba:=s.ba.take (s.ba.length-1)} o1),?_,o1,rfl,aAn hr hi _⟩;simp only[kt,aV,iS gB,dE,bN,aX,aA]
 ·have qt:(i.Op==27||i.Op==28)=false:=by rw[kq,ne_eq,eC,de,de];exact ht
  have hcore:=h.lU.core c h.core;rw[av ht,qt,bN];by_cases hkn:s.kn=false
  ·rw[aE hkn,hkn];exact⟨_,rfl,rfl⟩
  ·have hkn':s.kn=true:=by simpa using hkn
   rw[av hkn,hkn'];simp only[dE,bN,aAe m c i s hcore.1 hcore.2.1 hop,aV,aX,cK,aZ,aA];by_cases hth:iL m c i s=false
   ·rw[aE hth,hth];exact⟨_,rfl,rfl⟩
   ·have wZ:iL m c i s=true:=by simpa using hth
    rw[av hth,wZ];have htk:=OV h.lU i;have hst:=h.lV.h;simp only[dE,bN,aAg m c i s hop hA ⟨fun q=>ht (.inl q),fun q=>ht (.inr q)⟩ wZ,aAi hr hi m c,aV,aX,cK,aZ,aA];have w1:Go.IntKind.wrap .i64 (s.h-(cE m i).1)=s.h-(cE m i).1:=wrap_i64 (by omega) (by omega);have w2:Go.IntKind.wrap .i64 (s.h+Go.IntKind.wrap .i64 ((cE m i).2-(cE m i).1))=s.h-(cE m i).1+(cE m i).2:=by
     rw[wrap_i64 (n:=(cE m i).2-(cE m i).1) (by omega) (by omega),wrap_i64 (by omega) (by omega)];omega
    rw[w1,w2];by_cases hb:s.h-(cE m i).1<dC s
    ·rw[aE hb,fK hb];exact⟨_,rfl,rfl⟩
    ·rw[av hb,iS hb,bN];by_cases gB:24<s.h-(cE m i).1+(cE m i).2
     ·rw[aE gB,fK gB];exact⟨_,rfl,rfl⟩
     ·rw[av gB,iS gB,bN];have hnb:0<=iy c P i s/\iy c P i s<=1:=by
       unfold iy
       repeat' split
       ·exact mi _
       ·exact mi _
       ·exact mi _
       ·omega
      have O0:(bif(bif i.Op==29 then i.Op==29 else i.Op==30)then(M.s9 (M.eA.mk m c o1 s.op (s.h-(cE m i).1+(cE m i).2) false) i.A).getD Inhabited.default else(bif i.Op==31 then(M.kY c.Result).getD Inhabited.default else(0:Int)))=iy c P i s/\((bif i.Op==29 then i.Op==29 else i.Op==30)=true->(M.s9 (M.eA.mk m c o1 s.op (s.h-(cE m i).1+(cE m i).2) false) i.A).isSome=true):=by
       rw[aic];by_cases hbr:i.Op=29\/i.Op=30
       ·have wW:(i.Op==29||i.Op==30)=true:=by rw[eC,de,de];exact hbr
        rw[wW,aA,aAk h.pin hr.pr hi i (hA (by omega)) hbr wZ];exact⟨rfl,fun _=>rfl⟩
       ·have wW:(i.Op==29||i.Op==30)=false:=by rw[kq,ne_eq,eC,de,de];exact hbr
        rw[wW,bN,zD];refine⟨?_,fun q=>by cases q⟩;unfold iy;by_cases h31:i.Op=31
        ·rw[aE h31,h31];rfl
        ·have zu:(i.Op==31)=false:=by rw[dS];exact h31
         rw[av h31,av hbr,zu];rfl
      obtain⟨O0,hsome⟩:=O0;rw[O0];have w3:Go.IntKind.wrap .i64 (s.h-(cE m i).1+(cE m i).2-iy c P i s)=s.h-(cE m i).1+(cE m i).2-iy c P i s:=wrap_i64 (by omega) (by omega);rw[w3,zD];generalize hq8:(bif i.Op==29 then i.Op==29 else i.Op==30)=q8 at hsome;generalize (M.s9 (M.eA.mk m c o1 s.op (s.h-(cE m i).1+(cE m i).2) false) i.A).isSome=cs at hsome;have hg:((((cs&&((true|| !(i.Op==29))&&(true||(i.Op==29))))|| !q8)&&(((((true:Bool)&&((true|| !(i.Op==29))&&(true||(i.Op==29))))|| !(i.Op==31))&&(((true|| !(i.Op==29))&&(true||(i.Op==29)))||(i.Op==31)))||q8)))=true:=by
       cases q8
       ·simp
       ·rw[hsome rfl];simp
      simp only[aX,bZ,cK,aZ,aR]at hg⊢;by_cases hnd:s.h-(cE m i).1+(cE m i).2-iy c P i s<dC s
      ·rw[aE hnd,fK hnd,aA];simp only[hg,aA];exact⟨_,rfl,rfl⟩
      ·rw[av hnd,iS hnd,bN];rw[show(i.Op==24||i.Op==25||i.Op==26)=fF i.Op from rfl];by_cases ho:fF i.Op=true
       ·obtain⟨hj,hat⟩:=h.new ho;have hl:o1.length=P.length:=by rw[<-hr.pr,cr]
        have hown:M.qy s.op=some s.op:=by
         unfold M.qy;have:=hi.six;rw[show decide (0+s.op.length<=1073741824)=true by rw[bq];omega];rfl
        have hd:decide (s.op.length+1<=1073741824)=true:=by have:=hi.six;rw[bq];omega
        have hjl:B.1.length<o1.length:=by rw[hl];exact hj
        simp only[ho,aA,hown,aAl hr.pr h.inc (by have:=h.pl;omega) hj hat,aV,aX,bz,bp,hjl,bg,hg,cK,aO,aU,dI,hd,eY];refine⟨_,rfl,o1.set B.1.length (bf.mk (o1.getD B.1.length bf.zero).At (o1.getD B.1.length bf.zero).Else (o1.getD B.1.length bf.zero).End (s.h-(cE m i).1+(cE m i).2) (o1.getD B.1.length bf.zero).Result),?_,⟨?_,?_⟩⟩
        ·simp only[kt,h.lV.eD,wX]
        ·refine Eq.trans (OT o1 B.1.length _ ?_) hr.pr;rfl
        ·intro j hj';simp only[bA,aO,aU]at hj'⊢;rcases cA j s.op.length with h1|h1
         ·have e1:(s.op++[s.eD]).getD j 0=s.op.getD j 0:=by
           rw[dG,dG,dD h1]
          have e2:(s.ba++[s.h-(cE m i).1+(cE m i).2]).getD j 0=s.ba.getD j 0:=by
           rw[dG,dG,dD (by rw[hi.len];exact h1)]
          rw[e1,e2,<-hr.ht j h1];have hlt:(s.op.getD j 0).toNat≠B.1.length:=by
           have:=h.EV.opn (s.op.getD j 0) (by rw[<-h.lV.op,getD_lt h1];exact bG h1);omega
          rw[dG,jy,av (nk hlt),<-dG]
         ·have:j=s.op.length:=by omega
          subst this;have e1:(s.op++[s.eD]).getD s.op.length 0=s.eD:=by
           rw[dG,d5 (bY _),rF];rfl
          have e2:(s.ba++[s.h-(cE m i).1+(cE m i).2]).getD s.op.length 0=s.h-(cE m i).1+(cE m i).2:=by
           rw[<-hi.len,dG,d5 (bY _),rF];rfl
          rw[e1,e2,h.lV.eD,bz,dG,jy,aE rfl,aE hjl];rfl
       ·have ho':fF i.Op=false:=by simpa using ho
        simp only[ho',bN,hg,aA,gz,fZ];refine⟨_,rfl,o1,?_,⟨hr.pr,hr.ht⟩⟩;simp only[kt,wX]
end M
namespace M
open Go.V (inB cF af bV)
theorem aie{m:aM}{c:an}{P:List (Int×Bool)}{i:aG}{s:dA}{x:Int}(h:jM m c P i s=.inl x):x≠0:=by
 unfold jM at h
 repeat' split at h
 all_goals cases h
 all_goals decide
theorem aAp{e:Int}{c:List aG}{k:Nat}{i:aG}{s:BS}{x:Int}(h:da e c k i s=.inl x):x≠0:=by
 unfold da at h
 repeat' split at h
 all_goals cases h
 all_goals decide
theorem O1{e:Int}{c:List aG}:∀(n k:Nat)(s:BS)(p:Int×Int),eJ e c n k s=.inl p->p.2≠0
 |0,k,s,p,h=>by simp only[eJ]at h;cases h
 |n+1,k,s,p,h=>by
  simp only[eJ]at h;cases hx:da e c k (c.getD k aG.zero) s with
  |inl x=>rw[hx]at h;injection h with h;subst h;exact aAp hx
  |inr s'=>rw[hx]at h;exact O1 n (k+1) s' p h
theorem aAq(m:aM)(c:an)(s:dA)(o1:List bf)(h6:s.op.length<=6):M.Du m.dh m.al m.aI c.Name c.Params c.cX c.Result c.Code s.h (!s.kn) o1 s.op=some (ng s,kt m c s o1):=by
 have hown:M.qy s.op=some s.op:=by
  unfold M.qy;rw[show decide (0+s.op.length<=1073741824)=true by rw[bq];omega];rfl
 unfold M.Du ng kt;rw[hown];cases s.kn<;>rfl
structure zE (m:aM) (c:an) (P:List (Int×Bool)) (Bf:BS):Prop where
 lU:qP m
 core:c∈m.aI
 P:P=gd Bf
 inv:BInv c.Code.length Bf
theorem zE.at_{m:aM}{c:an}{P:List (Int×Bool)}{Bf:BS}(h:zE m c P Bf){e:Int}{k r:Nat}{B B':BS}{s:dA}(hk:k<c.Code.length)(hB:BInv k B)(hs:tX B s)(hb:da e c.Code k (c.Code.getD k aG.zero) B=.inr B')(hr:eJ e c.Code r (k+1) B'=.inr Bf):nj m c P e k (c.Code.getD k aG.zero) B B' s:=by
 have hl:P.length=Bf.1.length:=by rw[h.P];simp[gd]
 exact{lU:=h.lU,core:=h.core,pin:=by rw[h.P];exact h.inv.lt,inc:=by rw[h.P];exact h.inv.inc,pl:=by rw[hl];have:=h.inv.cnt;have:=(h.lU.core c h.core).2.2;omega,hk:=hk,hi:=rfl,lV:=hs,EV:=hB,step:=hb,
        pre:=by rw[h.P];exact(KE r (k+1) B' Bf (zB hB hb) hr).1}
theorem aif{m:aM}{c:an}{P:List (Int×Bool)}{Bf:BS}{e:Int}(hf:zE m c P Bf):∀(f k:Nat)(B:BS)(s:dA)(o1:List bf)(out:List cZ),k<=c.Code.length->c.Code.length-k<f->BInv k B->tX B s->eJ e c.Code (c.Code.length-k) k B=.inr Bf->wV P s o1->out.length=k->
 ∃wY,M.ta c f (k:Int) m.dh m.al m.aI c.Name c.Params c.cX c.Result c.Code s.h (!s.kn) out o1 s.op=some (match lT m c P (c.Code.length-k) k s out with
  |.inl p=>.inl (p.1,p.2,[])
  |.inr p=>.inr (c,m.dh,m.al,m.aI,c.Name,c.Params,c.cX,c.Result,c.Code,p.1.h, !p.1.kn,p.2,wY,p.1.op))
 |0,k,B,s,o1,out,h1,h2,_,_,_,_,_=>by omega
 |f+1,k,B,s,o1,out,h1,h2,hB,hs,hb,hr,hl=>by
  have hn:=(hf.lU.core c hf.core).2.2;rcases cA k c.Code.length with hk|hk
  ·obtain⟨r,hrn⟩:∃r,c.Code.length-k=r+1:=⟨c.Code.length-k-1,by omega⟩;have hr':c.Code.length-(k+1)=r:=by omega
   rw[hrn]at hb⊢;simp only[eJ]at hb;cases hx:da e c.Code k (c.Code.getD k aG.zero) B with
   |inl x=>rw[hx]at hb;cases hb
   |inr B'=>
    rw[hx]at hb;simp only at hb;have hat:=hf.at_ hk hB hs hx hb;obtain⟨y,hy,hc⟩:=aAo hat hr;have h6:s.op.length<=6:=by rw[hs.op];exact hB.six
    rw[M.ta];have hw:Go.IntKind.wrap .i64 ((k:Int)+1)=((k+1:Nat):Int):=bw hk (by omega);have hd:decide (out.length+([ng s]:List cZ).length<=1073741824)=true:=by rw[bq,hl,aO,aU];omega
    simp only[bJ,hk,bg,aA,aAq m c s o1 h6,aV,kt,hy,aX,aR,cK,hd,hw,lT];cases hcs:jM m c P (c.Code.getD k aG.zero) s with
    |inl x=>
     rw[hcs]at hc;simp only at hc;have:(y.1 !=0)=true:=by rw[iq,hc];exact aie hcs
     exact⟨[],by rw[this,hc];rfl⟩
    |inr s'=>
     rw[hcs]at hc;obtain⟨wY,rfl,hr2⟩:=hc;have hz:(((0:Int) !=0))=false:=by decide
     obtain⟨o2,ho2⟩:=aif hf f (k+1) B' s' wY (out++[ng s]) (by omega) (by omega) (zB hB hx) (aia hf.lU hs hx hcs) (by rw[hr'];exact hb) hr2 (by rw[bA,hl];rfl);rw[hr']at ho2;refine⟨o2,?_⟩;simp only[hz,bN,kt];exact ho2
  ·have:k=c.Code.length:=by omega
   subst this;refine⟨o1,?_⟩;rw[M.ta];simp[lT]
def s0:dA:=⟨0,[],[],0,true⟩
def zF(e:Int)(c:an):(Int×Int)⊕List (Int×Bool):=ln (List.map pr) (lp e c)
theorem aAr(e e':Int)(c:an):zF e c=zF e' c:=by
 have h:=ah8 e e' c.Code c.Code.length 0 ([],[]) ([],[]) rfl;unfold zF lp;cases h1:eJ e c.Code c.Code.length 0 ([],[])with
 |inl p=>
  cases h2:eJ e' c.Code c.Code.length 0 ([],[])with
  |inl q=>rw[h1,h2]at h;injection h with h;rw[h]
  |inr q=>rw[h1,h2]at h;cases h
 |inr p=>
  cases h2:eJ e' c.Code c.Code.length 0 ([],[])with
  |inl q=>rw[h1,h2]at h;cases h
  |inr q=>
   rw[h1,h2]at h;injection h with h;have e1:p.1.map strip=q.1.map strip:=(wH Prod.fst h:(ix p).1=(ix q).1);have e2:p.2=q.2:=(wH Prod.snd h:(ix p).2=(ix q).2);have e3:p.1.map pr=q.1.map pr:=by
    have:=wH (List.map pr) e1;rw[zz,zz]at this;exact this
   simp only[e2];by_cases h0:q.2.length=0
   ·rw[aE h0,aE h0];simp only[ln,e3]
   ·rw[av h0,av h0]
def jN(m:aM)(c:an):List cZ×Int×Int:=
 match zF 0 c with
 |.inl p=>([],p.1,p.2)
 |.inr P=>match lT m c P c.Code.length 0 s0 []with
   |.inl p=>([],p.1,p.2)
   |.inr p=>if p.1.kn=true/\p.1.h≠dV c.Result then([],(c.Code.length:Int),7)else(p.2++[cZ.mk true (dV c.Result) []],0,0)
theorem aih:tX ([],[]) s0:=⟨rfl,rfl,rfl,fun x hx=>by simp[s0]at hx,by simp[s0]⟩
theorem O2{m:aM}{c:an}{P:List (Int×Bool)}:∀(n k:Nat)(s:dA)(a:List cZ)(q:dA×List cZ),lT m c P n k s a=.inr q->q.2.length=a.length+n
 |0,k,s,a,q,h=>by simp only[lT]at h;injection h with h;subst h;rfl
 |n+1,k,s,a,q,h=>by
  simp only[lT]at h;cases hx:jM m c P (c.Code.getD k aG.zero) s with
  |inl x=>rw[hx]at h;cases h
  |inr s'=>
   rw[hx]at h;have:=O2 n (k+1) s' _ q h;rw[bA,aO,aU]at this;omega
theorem aAs{m:aM}(hm:qP m){k:Nat}(hk:k<m.aI.length):M.Bv m (k:Int)=some (jN m m.aI[k]):=by
 have hmem:=bG hk;have hn:=(hm.core _ hmem).2.2;unfold M.Bv jN;rw[aAr 0 (-1)];unfold zF;simp only[bz,getD_lt hk,bp,hk,bg,aR,cK];generalize hc:m.aI[k]=c at hn hmem⊢;rw[aAd c hn];have hb:∀p,lp (-1) c=.inl p->p.2≠0:=fun p h=>by
  unfold lp at h;cases hx:eJ (-1) c.Code c.Code.length 0 ([],[])with
  |inl q=>rw[hx]at h;injection h with h;subst h;exact O1 _ _ _ _ hx
  |inr q=>
   rw[hx]at h;simp only at h;split at h
   ·cases h
   ·injection h with h;subst h;show(5:Int)≠0
    decide
 cases hbl:lp (-1) c with
 |inl p=>
  have:(p.2 !=0)=true:=by rw[iq];exact hb p hbl
  simp only[aV,aX,ln,this,aA]
 |inr b=>
  obtain⟨Bf,hrun,hbf⟩:∃Bf:BS,eJ (-1) c.Code c.Code.length 0 ([],[])=.inr Bf/\Bf.1=b:=by
   unfold lp at hbl;cases hx:eJ (-1) c.Code c.Code.length 0 ([],[])with
   |inl q=>rw[hx]at hbl;cases hbl
   |inr q=>
    rw[hx]at hbl;simp only at hbl;split at hbl
    ·injection hbl with hbl;exact⟨q,rfl,hbl⟩
    ·cases hbl
  have hinv:=(KE c.Code.length 0 ([],[]) Bf zC hrun).2;rw[dI]at hinv;have hf:zE m c (b.map pr) Bf:=⟨hm,hmem,by rw[<-hbf];rfl,hinv⟩;obtain⟨wY,ho⟩:=aif (e:= -1) hf af 0 ([],[]) s0 b [] (abo _) (by have:=bV;omega) zC aih (by rw[Nat.sub_zero];exact hrun) ⟨rfl,fun j hj=>by simp[s0]at hj⟩ rfl;have ho':M.ta c af 0 m.dh m.al m.aI c.Name c.Params c.cX c.Result c.Code 0 false [] b []=_:=ho;rw[Nat.sub_zero]at ho';have hz:((0:Int) !=0)=false:=by decide
  simp only[aV,aX,ln,hz,bN,ho'];cases hcr:lT m c (b.map pr) c.Code.length 0 s0 []with
  |inl p=>rfl
  |inr p=>
   have hlen:=O2 _ _ _ _ _ hcr;simp only[zD,aV,aX,wX,bZ,cK,aR,aA];have hd:decide (p.2.length+([cZ.mk true (dV c.Result) []]:List cZ).length<=1073741824)=true:=by
    rw[bq,hlen];simp only[aO,aU];omega
   by_cases hq:p.1.kn=true/\p.1.h≠dV c.Result
   ·have q:(p.1.kn&&(p.1.h !=dV c.Result))=true:=by rw[bC,iq];exact hq
    rw[aE hq,q];rfl
   ·have q:(p.1.kn&&(p.1.h !=dV c.Result))=false:=by rw[kq,ne_eq,bC,iq];exact hq
    rw[av hq,q,hd];rfl
end M
namespace M
open Go.V (inB cF af bV)
abbrev RI :=Int×List aN×List an×List UInt8×Int×Int×Bool×List aG×List bf×Int×Int×Bool×List Int×List Int
def EW(m:aM)(c:an)(bl:List bf)(s:dA):RI:=(m.dh,m.al,m.aI,c.Name,c.Params,c.cX,c.Result,c.Code,bl,s.eD,s.h,s.kn,s.op,s.ba)
theorem aAt{m:aM}{c:an}{P:List (Int×Bool)}{s:dA}{bl:List bf}(hb:bl.map pr=P)(hi:qR P s)(h0:s.op.length≠0)(hbl:0<=dC s/\dC s<=24)(i:aG)(ht:i.Op=27\/i.Op=28):
 ∃y:Int×RI,M.DG i m.dh m.al m.aI c.Name c.Params c.cX c.Result c.Code bl s.eD s.h s.kn s.op s.ba=some y/\(match jM m c P i s with
  |.inl x=>y.1=x
  |.inr s'=>y=(0,EW m c bl s')):=by
 have hj:s.op.length-1<s.op.length:=by omega
 obtain⟨h1,h2⟩:=hi.at_ hj;have hl:bl.length=P.length:=by rw[<-hb,cr]
 have er:(bl.getD (s.op.getD (s.op.length-1) 0).toNat bf.zero).Result=(fG P s).2:=by
  unfold fG;rw[<-hb,KJ];rfl
 have hin:inB (s.op.getD (s.op.length-1) 0) bl.length=true:=by rw[<-h2,bp,bq,hl];exact h1
 have hbit:=mi (fG P s).2;have hsl:cF (0:Int) ((s.op.length-1:Nat):Int) s.op.length=true:=by unfold cF;simp
 have hsl2:cF (0:Int) ((s.op.length-1:Nat):Int) s.ba.length=true:=by rw[hi.len];exact hsl
 have hw:Go.IntKind.wrap .i64 (dC s+dV (fG P s).2)=dC s+dV (fG P s).2:=wrap_i64 (by omega) (by omega);have hbase:=aid s (by rw[hi.len];exact hi.six) m c bl;unfold jM;rw[aE ht];unfold M.DG;simp only[OY,OZ,hbase,tY h0 hi.six,bz,er,KH,aV,aX,hw,hin,bp,hj,bg,bZ,cK,aR,aA,hsl,hsl2];by_cases hc:s.kn=true/\s.h≠dC s+dV (fG P s).2
 ·have q:(s.kn&&(s.h !=dC s+dV (fG P s).2))=true:=by rw[bC,iq];exact hc
  rw[aE hc,q];exact⟨_,rfl,rfl⟩
 ·have q:(s.kn&&(s.h !=dC s+dV (fG P s).2))=false:=by rw[kq,ne_eq,bC,iq];exact hc
  rw[av hc,q,bN];by_cases h27:i.Op=27
  ·have qL:(i.Op==27)=true:=by rw[de];exact h27
   rw[aE h27,qL,aA];exact⟨_,rfl,rfl⟩
  ·have qL:(i.Op==27)=false:=by rw[dS];exact h27
   rw[av h27,qL,bN];by_cases gB:24<dC s+dV (fG P s).2
   ·rw[aE gB];simp only[fK gB,aA];exact⟨_,rfl,rfl⟩
   ·rw[av gB];simp only[iS gB,bN];exact⟨_,rfl,by simp only[EW,hi.len]⟩
theorem aAu{m:aM}{c:an}{P:List (Int×Bool)}{e:Int}{k:Nat}{i:aG}{B B':BS}{s:dA}{bl:List bf}(h:nj m c P e k i B B' s)(hb:bl.map pr=P):
 ∃y:Int×RI,M.DL i m.dh m.al m.aI c.Name c.Params c.cX c.Result c.Code bl s.eD s.h s.kn s.op s.ba=some y/\(match jM m c P i s with
  |.inl x=>y.1=x
  |.inr s'=>y=(0,EW m c bl s')):=by
 obtain⟨hi,hle⟩:=h.sin;obtain⟨hop,hA⟩:=h.op;have hbl:=OU h.lV;unfold M.DL;simp only[OY,OZ];by_cases ht:i.Op=27\/i.Op=28
 ·have h0:=h.open_ ht;have qt:(i.Op==27||i.Op==28)=true:=by rw[eC,de,de];exact ht
  obtain⟨y,hy,hc⟩:=aAt (m:=m) (c:=c) hb hi h0 hbl i ht;rw[qt,aA,hy];exact⟨y,rfl,hc⟩
 ·have qt:(i.Op==27||i.Op==28)=false:=by rw[kq,ne_eq,eC,de,de];exact ht
  have hcore:=h.lU.core c h.core;unfold jM;rw[av ht,qt,bN];by_cases hkn:s.kn=false
  ·rw[aE hkn,hkn];exact⟨_,rfl,rfl⟩
  ·have hkn':s.kn=true:=by simpa using hkn
   rw[av hkn];simp only[aAf m c bl i s hcore.1 hcore.2.1 hop,aV,aX,cK,aZ,aA];rw[show(!s.kn)=false by rw[hkn'];rfl,bN];by_cases hth:iL m c i s=false
   ·rw[aE hth,hth];exact⟨_,rfl,rfl⟩
   ·have wZ:iL m c i s=true:=by simpa using hth
    rw[av hth,wZ];have htk:=OV h.lU i;have hst:=h.lV.h;simp only[dE,bN,aAh m c bl i s hop hA ⟨fun q=>ht (.inl q),fun q=>ht (.inr q)⟩ wZ,aid s (by rw[hi.len];exact hi.six) m c bl,aAj h.pin hb hi i hA wZ,aV,aX,cK,aZ,aA];have w1:Go.IntKind.wrap .i64 (s.h-(cE m i).1)=s.h-(cE m i).1:=wrap_i64 (by omega) (by omega);have w2:Go.IntKind.wrap .i64 (s.h-(cE m i).1+(cE m i).2)=s.h-(cE m i).1+(cE m i).2:=wrap_i64 (by omega) (by omega);rw[w1,w2];by_cases hbs:s.h-(cE m i).1<dC s
    ·rw[aE hbs,fK hbs];exact⟨_,rfl,rfl⟩
    ·rw[av hbs,iS hbs,bN];by_cases gB:24<s.h-(cE m i).1+(cE m i).2
     ·rw[aE gB,fK gB];exact⟨_,rfl,rfl⟩
     ·rw[av gB,iS gB,bN];have hnb:0<=iy c P i s/\iy c P i s<=1:=by
       unfold iy
       repeat' split
       ·exact mi _
       ·exact mi _
       ·exact mi _
       ·omega
      have w3:Go.IntKind.wrap .i64 (s.h-(cE m i).1+(cE m i).2-iy c P i s)=s.h-(cE m i).1+(cE m i).2-iy c P i s:=wrap_i64 (by omega) (by omega);rw[w3];by_cases hnd:s.h-(cE m i).1+(cE m i).2-iy c P i s<dC s
      ·rw[aE hnd,fK hnd];exact⟨_,rfl,rfl⟩
      ·rw[av hnd,iS hnd,bN];rw[show(i.Op==24||i.Op==25||i.Op==26)=fF i.Op from rfl];have hk3:((i.Op !=29&&i.Op !=31)&&i.Op !=40)= !(i.Op==29||i.Op==31||i.Op==40):=by
        rw[jD,jD,jD];cases (i.Op==29)<;>cases (i.Op==31)<;>cases (i.Op==40)<;>rfl
       have h6:=hi.six;by_cases ho:fF i.Op=true
       ·have hcnt:=h.EV.cnt;have hnx:Go.IntKind.wrap .i64 (s.eD+1)=s.eD+1:=by
         rw[h.lV.eD];have:=h.hk;have:=hcore.2.2;exact wrap_i64 (by omega) (by omega)
        have d1:decide (s.ba.length+1<=1073741824)=true:=by rw[bq,hi.len];omega
        have d2:decide (s.op.length+1<=1073741824)=true:=by rw[bq];omega
        simp only[ho,aA,hnx,hk3,aO,aU,dI,d1,d2,cK,eY];exact⟨_,rfl,rfl⟩
       ·have ho':fF i.Op=false:=by simpa using ho
        simp only[ho',bN,hk3,gz,fZ];exact⟨_,rfl,rfl⟩
end M
namespace M
open Go.V (inB cF af bV)
theorem wz:Go.IntKind.wrap .i64 (((0:Nat):Int)-1)= -1:=by rw[wrap_i64 (by omega) (by omega)];rfl
theorem wz2:Go.IntKind.wrap .i64 (-1)= -1:=wrap_i64 (by omega) (by omega)
theorem aii(c:an)(hn:c.Code.length<=120):∀(f k:Nat)(s:BS),k<=c.Code.length->c.Code.length-k<f->BInv k s->
 M.o5 c.Code (c.Code.length:Int) c f (k:Int) s.1 s.2=some (match eJ 0 c.Code (c.Code.length-k) k s with
   |.inl p=>.inl (p.1,p.2,[])
   |.inr s'=>.inr (c,s'.1,s'.2))
 |0,k,s,h1,h2,_=>by omega
 |f+1,k,s,h1,h2,hI=>by
  rw[M.o5];rcases cA k c.Code.length with hk|hk
  ·obtain⟨r,hr⟩:∃r,c.Code.length-k=r+1:=⟨c.Code.length-k-1,by omega⟩;have hr':c.Code.length-(k+1)=r:=by omega
   have ih:=fun s' h=>aii c hn f (k+1) s' (by omega) (by omega) h
   rw[hr']at ih;rw[hr];simp only[eJ];have hinv:=fun s' h=>zB (e:=0) (c:=c.Code) (i:=c.Code.getD k aG.zero) (s':=s') hI h
   have hw:Go.IntKind.wrap .i64 ((k:Int)+1)=((k+1:Nat):Int):=bw hk (by omega);have h6:=hI.six;have hcnt:=hI.cnt;simp only[bz,bp,bJ,hk,bg,aA,aR,hw];generalize hi:c.Code.getD k aG.zero=i at hinv⊢;rw[show(i.Op==24||i.Op==25||i.Op==26)=fF i.Op from rfl];by_cases ho:fF i.Op=true
   ·rw[ho,aA];by_cases hl:s.2.length=6
    ·have hb:da 0 c.Code k i s=.inl 4:=by unfold da;rw[aE ho,aE hl]
     rw[hb,hl];rfl
    ·have hb:da 0 c.Code k i s=.inr (s.1++[bf.mk (k:Int) (-1) 0 0 (i.A==1)],s.2++[(s.1.length:Int)]):=by unfold da;rw[aE ho,av hl]
     have q:(((s.2.length:Nat):Int)==6)=false:=by rw[dS];omega
     have d1:decide (s.1.length+1<=1073741824)=true:=by rw[bq];omega
     have d2:decide (s.2.length+1<=1073741824)=true:=by rw[bq];omega
     have:=ih _ (hinv _ hb);simp only[q,bN,aO,aU,dI,d1,d2,cK,aA];rw[hb];exact this
   ·have ho':fF i.Op=false:=by simpa using ho
    rw[ho',bN];by_cases h27:i.Op=27
    ·have b27:(i.Op==27)=true:=by rw[h27];rfl
     rw[b27,aA];by_cases h0:s.2.length=0
     ·have hb:da 0 c.Code k i s=.inl 5:=by unfold da;rw[av ho,aE h27,aE h0]
      rw[hb,h0];simp[wz2]
     ·have ht:=EU hI h0;have hat:=KF hI h0;have q:decide (((s.2.length-1:Nat):Int)<0)=false:=by rw[dR];omega
      have e1:=ht.2.symm;have hA:inB (bX s).At c.Code.length=true:=qQ ⟨hat.1,by omega⟩;have hS:s.2.length-1<s.2.length:=by omega
      simp only[tY h0 h6,q,gq,bz,e1,bp,ht.1,hS,bg];rw[show List.getD s.1 (jx s) bf.zero=bX s from rfl,show(List.getD c.Code (Int.toNat (bX s).At) aG.zero).Op=opAt c.Code (bX s).At from rfl,hA];by_cases hc:opAt c.Code (bX s).At≠26\/0<=(bX s).Else
      ·have hb:da 0 c.Code k i s=.inl 5:=by unfold da;rw[av ho,aE h27,av h0,aE hc]
       have hq:((opAt c.Code (bX s).At !=26)||decide (0<=(bX s).Else))=true:=by rw[eC,iq,bq];exact hc
       rw[hb,hq];simp
      ·have hb:da 0 c.Code k i s=.inr (s.1.set (jx s) (bf.mk (bX s).At (k:Int) (bX s).End (bX s).Height (bX s).Result),s.2):=by unfold da;rw[av ho,aE h27,av h0,av hc]
       have hq:((opAt c.Code (bX s).At !=26)||decide (0<=(bX s).Else))=false:=by
        rw[kq,ne_eq,eC,iq,bq];exact hc
       have:=ih _ (hinv _ hb);rw[hb,hq];simp only[bN,bZ,cK,aA];exact this
    ·have b27:(i.Op==27)=false:=by rw[dS];exact h27
     rw[b27,bN];by_cases h28:i.Op=28
     ·have b28:(i.Op==28)=true:=by rw[h28];rfl
      rw[b28,aA];by_cases h0:s.2.length=0
      ·have hb:da 0 c.Code k i s=.inl 5:=by unfold da;rw[av ho,av h27,aE h28,aE h0]
       rw[hb,h0,wz];rfl
      ·have ht:=EU hI h0;have hat:=KF hI h0;have q:decide (((s.2.length-1:Nat):Int)<0)=false:=by rw[dR];omega
       have e1:=ht.2.symm;have hA:inB (bX s).At c.Code.length=true:=qQ ⟨hat.1,by omega⟩;have hS:s.2.length-1<s.2.length:=by omega
       have hsl:cF (0:Int) ((s.2.length-1:Nat):Int) s.2.length=true:=by unfold cF;simp
       simp only[tY h0 h6,q,bN,bz,e1,bp,ht.1,hS,bg,hsl];rw[show List.getD s.1 (jx s) bf.zero=bX s from rfl,show(List.getD c.Code (Int.toNat (bX s).At) aG.zero).Op=opAt c.Code (bX s).At from rfl,hA];by_cases hc:(opAt c.Code (bX s).At=26/\(bX s).Result=true)/\(bX s).Else<0
       ·have hb:da 0 c.Code k i s=.inl 7:=by unfold da;rw[av ho,av h27,aE h28,av h0,aE hc]
        have hq:(((opAt c.Code (bX s).At==26)&&(bX s).Result)&&decide ((bX s).Else<0))=true:=by rw[bC,bC,de,bq];exact hc
        rw[hb,hq];rfl
       ·have hb:da 0 c.Code k i s=.inr (s.1.set (jx s) (bf.mk (bX s).At (bX s).Else (k:Int) (bX s).Height (bX s).Result),s.2.take (s.2.length-1)):=by unfold da;rw[av ho,av h27,aE h28,av h0,av hc]
        have hq:(((opAt c.Code (bX s).At==26)&&(bX s).Result)&&decide ((bX s).Else<0))=false:=by rw[kq,ne_eq,bC,bC,de,bq];exact hc
        have:=ih _ (hinv _ hb);rw[hb,hq];simp only[bN,cK,aA];exact this
     ·have b28:(i.Op==28)=false:=by rw[dS];exact h28
      have hb:da 0 c.Code k i s=.inr s:=by unfold da;rw[av ho,av h27,av h28]
      have:=ih _ (hinv _ hb);rw[b28,bN,hb];exact this
  ·have:k=c.Code.length:=by omega
   subst this;simp[eJ]
theorem aAv(c:an)(hn:c.Code.length<=120):M.DD c=some (match lp 0 c with
 |.inl p=>([],p.1,p.2)
 |.inr b=>(b,0,0)):=by
 unfold M.DD lp;have e:=aii c hn af 0 ([],[]) (abo _) (by have:=bV;omega) zC;have e':M.o5 c.Code (c.Code.length:Int) c af 0 [] []=_:=e;rw[e',Nat.sub_zero];cases h:eJ 0 c.Code c.Code.length 0 ([],[])with
 |inl p=>rfl
 |inr s=>
  simp only;by_cases h0:s.2.length=0
  ·rw[aE h0,h0];rfl
  ·rw[av h0];have:decide ((0:Int)<((s.2.length:Nat):Int))=true:=by rw[bq];omega
   rw[this];rfl
end M
namespace M
open Go.V (inB cF af bV)
theorem aAw(m:aM)(c:an)(s:dA)(bl:List bf)(h6:s.op.length<=6):M.DF m.dh m.al m.aI c.Name c.Params c.cX c.Result c.Code bl s.eD s.h s.kn s.op s.ba=some ((ng s).O3,(ng s).Height,m.dh,m.al,m.aI,c.Name,c.Params,c.cX,c.Result,c.Code,bl,s.eD,s.h,s.kn,(ng s).O4,s.op,s.ba):=by
 have hown:M.tc s.op=some s.op:=by
  unfold M.tc;rw[show decide (s.op.length<=1099511627776)=true by rw[bq];omega];rfl
 unfold M.DF ng;rw[hown];obtain⟨eD,op,ba,ht,kn⟩:=s;cases kn<;>rfl
theorem aAx(p:cZ):cZ.mk p.O3 p.Height p.O4=p:=rfl
theorem aij{m:aM}{c:an}{P:List (Int×Bool)}{Bf:BS}{e:Int}(hf:zE m c P Bf){bl:List bf}(hbl:bl.map pr=P):∀(f k:Nat)(B:BS)(s:dA)(out:List cZ),k<=c.Code.length->c.Code.length-k<f->BInv k B->tX B s->eJ e c.Code (c.Code.length-k) k B=.inr Bf->out.length=k->
 M.td bl c.Code (c.Code.length:Int) c f (k:Int) m.dh m.al m.aI c.Name c.Params c.cX c.Result c.Code bl s.eD s.h s.kn out s.op s.ba=some (match lT m c P (c.Code.length-k) k s out with
   |.inl p=>.inl (p.1,p.2,[],[])
   |.inr p=>.inr (bl,c,m.dh,m.al,m.aI,c.Name,c.Params,c.cX,c.Result,c.Code,bl,p.1.eD,p.1.h,p.1.kn,p.2,p.1.op,p.1.ba))
 |0,k,B,s,out,h1,h2,_,_,_,_=>by omega
 |f+1,k,B,s,out,h1,h2,hB,hs,hb,hl=>by
  have hn:=(hf.lU.core c hf.core).2.2;rcases cA k c.Code.length with hk|hk
  ·obtain⟨r,hrn⟩:∃r,c.Code.length-k=r+1:=⟨c.Code.length-k-1,by omega⟩;have hr':c.Code.length-(k+1)=r:=by omega
   rw[hrn]at hb⊢;simp only[eJ]at hb;cases hx:da e c.Code k (c.Code.getD k aG.zero) B with
   |inl x=>rw[hx]at hb;cases hb
   |inr B'=>
    rw[hx]at hb;simp only at hb;have hat:=hf.at_ hk hB hs hx hb;obtain⟨y,hy,hc⟩:=aAu hat hbl;have h6:s.op.length<=6:=by rw[hs.op];exact hB.six
    rw[M.td];have hw:Go.IntKind.wrap .i64 ((k:Int)+1)=((k+1:Nat):Int):=bw hk (by omega);have hd:decide (out.length+([ng s]:List cZ).length<=1073741824)=true:=by rw[bq,hl,aO,aU];omega
    simp only[bJ,hk,bg,aA,aAw m c s bl h6,aV,aAx,EW,bz,hy,bp,aX,aR,cK,hd,hw,lT];cases hcs:jM m c P (c.Code.getD k aG.zero) s with
    |inl x=>
     rw[hcs]at hc;simp only at hc;have:(y.1 !=0)=true:=by rw[iq,hc];exact aie hcs
     rw[this,hc];rfl
    |inr s'=>
     rw[hcs]at hc;simp only at hc;subst hc;have hz:(((0:Int) !=0))=false:=by decide
     have ho2:=aij hf hbl f (k+1) B' s' (out++[ng s]) (by omega) (by omega) (zB hB hx) (aia hf.lU hs hx hcs) (by rw[hr'];exact hb) (by rw[bA,hl];rfl);rw[hr']at ho2;simp only[hz,bN,EW];exact ho2
  ·have:k=c.Code.length:=by omega
   subst this;rw[M.td];simp[lT]
theorem aAy{m:aM}(hm:qP m){k:Nat}(hk:k<m.aI.length):M.B0 m (k:Int)=some ((jN m m.aI[k]).2.1,(jN m m.aI[k]).2.2,(jN m m.aI[k]).1):=by
 have hmem:=bG hk;have hn:=(hm.core _ hmem).2.2;unfold M.B0 jN zF;simp only[bz,getD_lt hk,bp,hk,bg,aR,cK];generalize hc:m.aI[k]=c at hn hmem⊢;rw[aAv c hn];have hb:∀p,lp 0 c=.inl p->p.2≠0:=fun p h=>by
  unfold lp at h;cases hx:eJ 0 c.Code c.Code.length 0 ([],[])with
  |inl q=>rw[hx]at h;injection h with h;subst h;exact O1 _ _ _ _ hx
  |inr q=>
   rw[hx]at h;simp only at h;split at h
   ·cases h
   ·injection h with h;subst h;show(5:Int)≠0
    decide
 cases hbl:lp 0 c with
 |inl p=>
  have:(p.2 !=0)=true:=by rw[iq];exact hb p hbl
  simp only[aV,aX,ln,this,aA]
  first|done|rfl
 |inr b=>
  obtain⟨Bf,hrun,hbf⟩:∃Bf:BS,eJ 0 c.Code c.Code.length 0 ([],[])=.inr Bf/\Bf.1=b:=by
   unfold lp at hbl;cases hx:eJ 0 c.Code c.Code.length 0 ([],[])with
   |inl q=>rw[hx]at hbl;cases hbl
   |inr q=>
    rw[hx]at hbl;simp only at hbl;split at hbl
    ·injection hbl with hbl;exact⟨q,rfl,hbl⟩
    ·cases hbl
  have hinv:=(KE c.Code.length 0 ([],[]) Bf zC hrun).2;rw[dI]at hinv;have hf:zE m c (b.map pr) Bf:=⟨hm,hmem,by rw[<-hbf];rfl,hinv⟩;have ho:=aij (e:=0) hf (bl:=b) rfl af 0 ([],[]) s0 [] (abo _) (by have:=bV;omega) zC aih (by rw[Nat.sub_zero];exact hrun) rfl;have ho':M.td b c.Code (c.Code.length:Int) c af 0 m.dh m.al m.aI c.Name c.Params c.cX c.Result c.Code b 0 0 true [] [] []=_:=ho;rw[Nat.sub_zero]at ho';have hz:((0:Int) !=0)=false:=by decide
  simp only[aV,aX,ln,hz,bN,ho'];cases hcr:lT m c (b.map pr) c.Code.length 0 s0 []with
  |inl p=>rfl
  |inr p=>
   have hlen:=O2 _ _ _ _ _ hcr;simp only[KH,aV,aX,bZ,cK,aR,aA];have hd:decide (p.2.length+([cZ.mk true (dV c.Result) []]:List cZ).length<=1073741824)=true:=by
    rw[bq,hlen];simp only[aO,aU];omega
   by_cases hq:p.1.kn=true/\p.1.h≠dV c.Result
   ·have q:(p.1.kn&&(p.1.h !=dV c.Result))=true:=by rw[bC,iq];exact hq
    rw[aE hq,q];rfl
   ·have q:(p.1.kn&&(p.1.h !=dV c.Result))=false:=by rw[kq,ne_eq,bC,iq];exact hq
    rw[av hq,q,hd];rfl
end M
namespace M
open Go.V (inB cF af bV)
def w8(c:UInt8):Bool:=((((decide ((97:Int)<=((c.toNat:Nat):Int))&&decide (((c.toNat:Nat):Int)<=122))||(decide ((48:Int)<=((c.toNat:Nat):Int))&&decide (((c.toNat:Nat):Int)<=57)))||(((c.toNat:Nat):Int)==45))||(((c.toNat:Nat):Int)==46))||(((c.toNat:Nat):Int)==47)
def gh(s:List UInt8):Bool:=s.all w8&&(decide (1<=s.length)&&decide (s.length<=40))
theorem aAz(c:UInt8):decide (M.ER [(45:UInt8),(46:UInt8),(47:UInt8)] ((c.toNat:Nat):Int)<0)= !(((((c.toNat:Nat):Int)==45)||(((c.toNat:Nat):Int)==46))||(((c.toNat:Nat):Int)==47)):=by
 have e:((c.toNat:Nat):Int).toNat.toUInt8=c:=by rw[bz];exact UInt8.ofNat_toNat
 unfold M.ER;rw[e];have h:∀(n:UInt8),(n==c)=(((c.toNat:Nat):Int)==((n.toNat:Nat):Int)):=fun n=>by
  rw[fW,de,de];constructor
  ·rintro rfl;rfl
  ·intro h;exact UInt8.toNat_inj.1 (by omega)
 unfold Go.Lib.indexByte Go.Lib.indexByte Go.Lib.indexByte Go.Lib.indexByte;rw[h 45,h 46,h 47];have n1:(((45:UInt8).toNat:Nat):Int)=45:=rfl;have n2:(((46:UInt8).toNat:Nat):Int)=46:=rfl;have n3:(((47:UInt8).toNat:Nat):Int)=47:=rfl;rw[n1,n2,n3];cases (((c.toNat:Nat):Int)==45)<;>cases (((c.toNat:Nat):Int)==46)<;>cases (((c.toNat:Nat):Int)==47)<;>rfl
theorem aik(s:List UInt8):(decide ((1:Int)<=((s.length:Nat):Int))&&decide (((s.length:Nat):Int)<=40))=(decide (1<=s.length)&&decide (s.length<=40)):=by
 congr 1<;>simp only[eZ]<;>omega
theorem ail(s:List UInt8)(h:s.length<=1048576):M.vi s=some (gh s):=by
 have e:=mJ (p:=w8) (F:=M.vL s) (e:=s) (b:=false) s (by omega) (fun f k hk=>by
  rw[M.vL];simp only[getD_lt hk,bz,bp,bJ,hk,bg,aA,aR,bw hk (by omega:s.length<2^62)];rw[show w8 s[k]=(((((decide ((97:Int)<=((s[k].toNat:Nat):Int))&&decide (((s[k].toNat:Nat):Int)<=122))||(decide ((48:Int)<=((s[k].toNat:Nat):Int))&&decide (((s[k].toNat:Nat):Int)<=57)))||(((s[k].toNat:Nat):Int)==45))||(((s[k].toNat:Nat):Int)==46))||(((s[k].toNat:Nat):Int)==47))from rfl];generalize (((((decide ((97:Int)<=((s[k].toNat:Nat):Int))&&decide (((s[k].toNat:Nat):Int)<=122))||(decide ((48:Int)<=((s[k].toNat:Nat):Int))&&decide (((s[k].toNat:Nat):Int)<=57)))||(((s[k].toNat:Nat):Int)==45))||(((s[k].toNat:Nat):Int)==46))||(((s[k].toNat:Nat):Int)==47))=b;cases b<;>rfl) (fun f=>by rw[M.vL];simp)
 unfold M.vi gh;rw[e];cases s.all w8
 ·rfl
 ·rw[aE rfl];simp only[aik,aZ]
theorem aAA(s:List UInt8)(h:s.length<=1048576):M.BX s=some (gh s):=by
 have e:=mJ (p:=w8) (F:=M.vq s (s.length:Int)) (e:=s) (b:=false) s (by omega) (fun f k hk=>by
  rw[M.vq];simp only[getD_lt hk,bz,bp,bJ,hk,bg,aA,aR,bZ,bw hk (by omega:s.length<2^62),aAz];unfold w8;generalize (decide ((97:Int)<=((s[k].toNat:Nat):Int))&&decide (((s[k].toNat:Nat):Int)<=122))=b1;generalize (decide ((48:Int)<=((s[k].toNat:Nat):Int))&&decide (((s[k].toNat:Nat):Int)<=57))=b2;cases b1<;>cases b2<;>cases (((s[k].toNat:Nat):Int)==45)<;>cases (((s[k].toNat:Nat):Int)==46)<;>cases (((s[k].toNat:Nat):Int)==47)<;>rfl) (fun f=>by rw[M.vq];simp)
 unfold M.BX gh;rw[e];cases s.all w8
 ·rfl
 ·rw[aE rfl];simp only[aik,aZ]
theorem aAB{b c:Bool}:(bif b then b else c)=(b||c):=by cases b<;>rfl
theorem O5(op:Int):∃y,M.om op=some y/\(op≠1->0<=y.1/\y.2.1<=4096):=by
 unfold M.om;simp only[aAB];simp only[aAC];by_cases h1:(op==1)=true
 ·rw[aE h1];exact⟨_,rfl,fun h=>absurd (by simpa using h1) h⟩
 rw[av h1]
 repeat' split
 all_goals
  refine⟨_,rfl,fun _=>?_⟩;constructor<;>simp
noncomputable def gi(i:aG):Bool:=(M.ql i).getD false
theorem aim(i:aG):M.ql i=some (gi i)/\M.Gz i=some (gi i):=by
 obtain⟨y,hy,-⟩:=O5 i.Op;have e:M.ql i=some (gi i):=by
  unfold gi M.ql;rw[hy];rfl
 exact⟨e,e⟩
theorem KN{i:aG}(h:gi i=true):(1<=i.Op/\i.Op<=40)/\(i.Op≠1->0<=i.A/\i.A<=16777216):=by
 obtain⟨y,hy,hb⟩:=O5 i.Op;unfold gi M.ql at h;rw[hy]at h;simp only[aX,aV,cK,aA,bC,bq]at h;refine⟨h.1,fun h1=>?_⟩;have:=hb h1;omega
noncomputable def lq(c:an):Bool:=(((decide ((0:Int)<=c.Params)&&decide (c.Params<=8))&&(decide ((0:Int)<=c.cX)&&decide (c.cX<=8)))&&decide (c.Code.length<=120))&&c.Code.all gi
theorem aAD(c:an)(h:c.Code.length<=1048576):M.BM c=some (lq c):=by
 have e:=fY (p:=fun i=> !gi i) (F:=M.vm c.Code (c.Code.length:Int)) (e:=()) (fun k=>k) c.Code (by omega) (fun f k hk=>by
  rw[M.vm];have ec:M.BK c.Code[k]=some (!gi c.Code[k]):=by unfold M.BK;rw[(aim _).1];rfl
  simp only[getD_lt hk,ec,bz,bp,bJ,hk,bg,aA,aZ,aR,bw hk (by omega:c.Code.length<2^62),aV,aX]) (fun f=>by
  rw[M.vm];simp)
 have e2:M.BL c.Code=some (!c.Code.all gi):=by
  unfold M.BL M.Ht;rw[e,wK,jJ];cases c.Code.findIdx? (fun i=> !gi i)<;>simp
 have e3:decide (((c.Code.length:Nat):Int)<=120)=decide (c.Code.length<=120):=by simp only[eZ];omega
 unfold M.BM lq;rw[e2,e3];simp only[aX,aV,bZ,cK,aA,wX]
theorem aAE(c:an)(h:c.Code.length<=1048576)(hn:c.Name.length<=1048576):M.Bq c=some (gh c.Name&&lq c):=by
 have e:=mJ (p:=gi) (F:=M.vh c) (e:=()) (b:=false) c.Code (by omega) (fun f k hk=>by
  rw[M.vh];simp only[getD_lt hk,(aim _).2,bz,bp,bJ,hk,bg,aA,aZ,aR,bw hk (by omega:c.Code.length<2^62),aV,aX];cases gi c.Code[k]<;>rfl) (fun f=>by rw[M.vh];simp)
 have e3:decide ((120:Int)<((c.Code.length:Nat):Int))= !decide (c.Code.length<=120):=by rw[<-lW];simp only[eZ];omega
 unfold M.Bq lq;rw[ail c.Name hn,e,e3];simp only[aX,aV,cK,aA];generalize (decide ((0:Int)<=c.Params)&&decide (c.Params<=8))=b1;generalize (decide ((0:Int)<=c.cX)&&decide (c.cX<=8))=b2;generalize decide (c.Code.length<=120)=b3;cases gh c.Name<;>cases b1<;>cases b2<;>cases b3<;>cases c.Code.all gi<;>rfl
def pH(x:aN):Bool:=decide ((0:Int)<=x.Params)&&decide (x.Params<=8)
def uG(l:List (List UInt8)):Bool:=nodupB l&&l.all gh
noncomputable def hZ(m:aM):Bool:=(((decide ((1:Int)<=m.dh)&&decide (m.dh<=16))&&decide (m.al.length<=12))&&decide (m.aI.length<=8))&&((m.al.all pH&&m.aI.all lq)&&(uG (m.al.map aN.Name)&&uG (m.aI.map an.Name)))
theorem ain(n:Nat):decide ((12:Int)<((n:Nat):Int))= !decide (n<=12):=by rw[<-lW];simp only[eZ];omega
theorem len8(n:Nat):decide ((8:Int)<((n:Nat):Int))= !decide (n<=8):=by rw[<-lW];simp only[eZ];omega
theorem aAF(l:List aN)(name:List UInt8)(h:l.length<=1048576):∃y,M.Br l name=some y/\decide ((0:Int)<=y)=l.any fun x=>x.Name==name:=by
 have e:=fY (p:=fun x:aN=>x.Name==name) (F:=M.vM l name) (e:=()) (fun k=>k) l (by omega) (fun f k hk=>by
  rw[M.vM];simp only[getD_lt hk,bz,bp,bJ,hk,bg,aA,aR,bw hk (by omega:l.length<2^62)]) (fun f=>by rw[M.vM];simp)
 unfold M.Br;rw[e,jJ];cases l.findIdx? (fun x:aN=>x.Name==name)with
 |none=>exact⟨_,rfl,rfl⟩
 |some k=>exact⟨_,rfl,by simp⟩
theorem aAG(l:List an)(name:List UInt8)(h:l.length<=1048576):∃y,M.Bt l name=some y/\decide ((0:Int)<=y)=l.any fun x=>x.Name==name:=by
 have e:=fY (p:=fun x:an=>x.Name==name) (F:=M.vN l name) (e:=()) (fun k=>k) l (by omega) (fun f k hk=>by
  rw[M.vN];simp only[getD_lt hk,bz,bp,bJ,hk,bg,aA,aR,bw hk (by omega:l.length<2^62)]) (fun f=>by rw[M.vN];simp)
 unfold M.Bt;rw[e,jJ];cases l.findIdx? (fun x:an=>x.Name==name)with
 |none=>exact⟨_,rfl,rfl⟩
 |some k=>exact⟨_,rfl,by simp⟩
theorem aio{i n:Nat}(h:i<=n):cF (0:Int) (i:Int) n=true:=by unfold cF;simp;omega
theorem aip(m:aM)(h:m.sz<=1048576):M.rR m=some (hZ m):=by
 rw[aM.bQ]at h;have hi:m.al.length<=1048576:=cD (cm aN.sz _) (by omega);have hc:m.aI.length<=1048576:=cD (cm an.sz _) (by omega);have e0:=lJ (p:=fun i=>(gh (m.al.getD i aN.zero).Name&&pH (m.al.getD i aN.zero))&& !((m.al.take i).any fun x=>x.Name==(m.al.getD i aN.zero).Name)) (F:=M.ve m) (e:=m) (b:=false) m.al.length (by omega) (fun f k hk=>by
  rw[M.ve];have hsz:=dr aN.sz _ _ (bG hk);have hn:m.al[k].Name.length<=1048576:=by rw[aN.bQ]at hsz;omega
  obtain⟨y,hy,hy2⟩:=aAF (m.al.take k) m.al[k].Name (by rw[ib];omega);have hd:∀l:List aN,List.drop (Int.toNat (0:Int)) l=l:=fun l=>rfl
  simp only[getD_lt hk,bz,bp,bJ,hk,bg,aA,aR,aZ,hd,hy,hy2,ail _ hn,aV,aX,bZ,aio (tP hk),bw hk (by omega:m.al.length<2^62)];rw[show pH m.al[k]=(decide ((0:Int)<=m.al[k].Params)&&decide (m.al[k].Params<=8))from rfl];generalize (decide ((0:Int)<=m.al[k].Params)&&decide (m.al[k].Params<=8))=b1;generalize ((m.al.take k).any fun x=>x.Name==m.al[k].Name)=b2;cases gh m.al[k].Name<;>cases b1<;>cases b2<;>rfl) (fun f=>by rw[M.ve];simp)
 have e1:=lJ (p:=fun i=>(gh (m.aI.getD i an.zero).Name&&lq (m.aI.getD i an.zero))&& !((m.aI.take i).any fun x=>x.Name==(m.aI.getD i an.zero).Name)) (F:=M.vj m) (e:=()) (b:=false) m.aI.length (by omega) (fun f k hk=>by
  rw[M.vj];have hsz:=dr an.sz _ _ (bG hk);have hn:m.aI[k].Name.length<=1048576/\m.aI[k].Code.length<=1048576:=by
   rw[an.bQ]at hsz;have:=cm aG.sz m.aI[k].Code;omega
  obtain⟨y,hy,hy2⟩:=aAG (m.aI.take k) m.aI[k].Name (by rw[ib];omega);have hd:∀l:List an,List.drop (Int.toNat (0:Int)) l=l:=fun l=>rfl
  simp only[getD_lt hk,bz,bp,bJ,hk,bg,aA,aR,aZ,hd,hy,hy2,aAE _ hn.2 hn.1,aV,aX,bZ,aio (tP hk),bw hk (by omega:m.aI.length<2^62)];generalize ((m.aI.take k).any fun x=>x.Name==m.aI[k].Name)=b2;cases gh m.aI[k].Name<;>cases lq m.aI[k]<;>cases b2<;>rfl) (fun f=>by rw[M.vj];simp)
 rw[KO,aiq aN.Name,air (fun x:aN=>gh x.Name&&pH x),KO]at e0;rw[KO,aiq an.Name,air (fun x:an=>gh x.Name&&lq x),KO]at e1;have w1:(m.al.map aN.Name).all gh=m.al.all fun x=>gh x.Name:=by rw[Gi];rfl
 have w2:(m.aI.map an.Name).all gh=m.aI.all fun x=>gh x.Name:=by rw[Gi];rfl
 unfold M.rR hZ uG;rw[ain,len8,e0,w1,w2];generalize (decide ((1:Int)<=m.dh)&&decide (m.dh<=16))=b0;generalize decide (m.al.length<=12)=b1;generalize decide (m.aI.length<=8)=b2;generalize (m.al.all fun x=>gh x.Name)=b3;generalize m.al.all pH=b4;generalize nodupB (m.al.map aN.Name)=b5;generalize (m.aI.all fun x=>gh x.Name)=b6 at e1⊢;generalize m.aI.all lq=b7 at e1⊢;generalize nodupB (m.aI.map an.Name)=b8 at e1⊢;cases b0
 ·rfl
 cases b1
 ·rfl
 cases b2
 ·rfl
 cases b3<;>cases b4<;>cases b5
 all_goals first
  |(cases b6<;>cases b7<;>cases b8<;>rfl)
  |(simp only[cK,eY,dE,tQ,bN,aZ,e1]
    cases b6<;>cases b7<;>cases b8<;>rfl)
end M
namespace M
open Go.V (inB cF af bV)
theorem ais(l:List (List UInt8))(hl:l.length<=1048576)(h:∀x∈l,x.length<=1048576):M.yn l=some (uG l):=by
 have e:=fY (p:=fun s=> !gh s) (F:=M.vt l (l.length:Int)) (e:=()) (fun k=>k) l (by omega) (fun f k hk=>by
  rw[M.vt];have ec:M.BY l[k]=some (!gh l[k]):=by unfold M.BY;rw[aAA _ (h _ (bG hk))];rfl
  simp only[getD_lt hk,ec,bz,bp,bJ,hk,bg,aA,aZ,aR,bw hk (by omega:l.length<2^62),aV,aX]) (fun f=>by
  rw[M.vt];simp)
 have e2:M.BZ l=some (!l.all gh):=by
  unfold M.BZ M.HE;rw[e,wK,jJ];cases l.findIdx? (fun i=> !gh i)<;>simp
 unfold M.yn uG;rw[e2,Gt l hl];simp only[aX,aV,bZ,cK,aA,wX]
theorem ait{α:Type}(nm:α->List UInt8)(l:List α)(k:Nat)(hk:k<l.length):(l.take k).map nm++[nm l[k]]=(l.take (k+1)).map nm:=by
 rw[ka,wQ,ct hk];rfl
theorem MG(m:aM)(h:m.sz<=1048576):M.qm m=some (hZ m):=by
 rw[aM.bQ]at h;have hi:m.al.length<=1048576:=cD (cm aN.sz _) (by omega);have hc:m.aI.length<=1048576:=cD (cm an.sz _) (by omega);have k0:∀g k,k<=m.al.length->m.al.length-k<g->M.sk m.al (m.al.length:Int) m [] g (k:Int) ((m.al.take k).map aN.Name)=some (if(m.al.drop k).all pH then .inr (m,m.al.map aN.Name,[])else .inl false):=by
  intro g
  induction g with
  |zero=>intro k h1 h2;omega
  |succ g ih=>
   intro k h1 h2;rcases cA k m.al.length with hk|hk
   ·rw[M.sk];have hd:decide ((((m.al.take k).map aN.Name).length+([m.al[k].Name]:List (List UInt8)).length)<=1073741824)=true:=by
     simp only[bq,cr,ib,aO,aU];omega
    simp only[getD_lt hk,bz,bp,bJ,hk,bg,aA,aZ,aR,bw hk (by omega:m.al.length<2^62),hd,ait aN.Name _ k hk];rw[ih (k+1) (by omega) (by omega),fu hk,kK];rw[show pH m.al[k]=(decide ((0:Int)<=m.al[k].Params)&&decide (m.al[k].Params<=8))from rfl];cases (decide ((0:Int)<=m.al[k].Params)&&decide (m.al[k].Params<=8))<;>simp
   ·have:k=m.al.length:=by omega
    subst this;rw[M.sk];simp
 have k1:∀g k,k<=m.aI.length->m.aI.length-k<g->M.sn m.aI (m.aI.length:Int) (m.al.map aN.Name) g (k:Int) ((m.aI.take k).map an.Name)=some (if(m.aI.drop k).all lq then .inr (m.al.map aN.Name,m.aI.map an.Name)else .inl false):=by
  intro g
  induction g with
  |zero=>intro k h1 h2;omega
  |succ g ih=>
   intro k h1 h2;rcases cA k m.aI.length with hk|hk
   ·rw[M.sn];have hsz:=dr an.sz _ _ (bG hk);have hn:m.aI[k].Code.length<=1048576:=by
     rw[an.bQ]at hsz;have:=cm aG.sz m.aI[k].Code;omega
    have hd:decide ((((m.aI.take k).map an.Name).length+([m.aI[k].Name]:List (List UInt8)).length)<=1073741824)=true:=by
     simp only[bq,cr,ib,aO,aU];omega
    simp only[getD_lt hk,aAD _ hn,aV,aX,bz,bp,bJ,hk,bg,aA,aZ,aR,bw hk (by omega:m.aI.length<2^62),hd,ait an.Name _ k hk];rw[ih (k+1) (by omega) (by omega),fu hk,kK];cases lq m.aI[k]<;>simp
   ·have:k=m.aI.length:=by omega
    subst this;rw[M.sn];simp
 have e0:=k0 af 0 (abo _) (by have:=bV;omega);have e0':M.sk m.al (m.al.length:Int) m [] af 0 []=_:=e0;have e1:=k1 af 0 (abo _) (by have:=bV;omega);have e1':M.sn m.aI (m.aI.length:Int) (m.al.map aN.Name) af 0 []=_:=e1;rw[gm]at e0' e1';have n0:∀x∈m.al.map aN.Name,x.length<=1048576:=fun x hx=>by
  obtain⟨y,hy,rfl⟩:=jB.1 hx;have:=dr aN.sz _ _ hy;rw[aN.bQ]at this;omega
 have n1:∀x∈m.aI.map an.Name,x.length<=1048576:=fun x hx=>by
  obtain⟨y,hy,rfl⟩:=jB.1 hx;have:=dr an.sz _ _ hy;rw[an.bQ]at this;omega
 unfold M.qm hZ;rw[ain,len8,e0'];generalize (decide ((1:Int)<=m.dh)&&decide (m.dh<=16))=b0;generalize decide (m.al.length<=12)=b1;generalize decide (m.aI.length<=8)=b2;cases b0
 ·rfl
 cases b1
 ·rfl
 cases b2
 ·rfl
 cases m.al.all pH
 ·rfl
 ·simp only[eY,dE,tQ,bN,e1'];cases m.aI.all lq
  ·rfl
  ·simp only[eY,ais _ (by rw[cr];exact hi) n0,ais _ (by rw[cr];exact hc) n1,aV,aX,bZ,cK,aA,aZ]
theorem aiu{m:aM}(h:hZ m=true):qP m:=by
 unfold hZ at h;simp only[bC,bq,dz]at h;obtain⟨⟨⟨-,hi⟩,hc⟩,⟨h1,h2⟩,-⟩:=h;have hcore:∀x∈m.aI,((0<=x.Params/\x.Params<=8)/\(0<=x.cX/\x.cX<=8)/\x.Code.length<=120)/\∀i∈x.Code,gi i=true:=fun x hx=>by
  have:=h2 x hx;unfold lq at this;simp only[bC,bq,dz]at this;exact⟨⟨this.1.1.1,this.1.1.2,this.1.2⟩,this.2⟩
 refine⟨hc,hi,fun x hx=>?_,fun x hx=>(hcore x hx).1,fun x hx i hi'=>KN ((hcore x hx).2 i hi')⟩;have:=h1 x hx;unfold pH at this;simpa using this
end M
namespace M
open Go.V (inB cF af bV)
def KP(m:aM):Int×Int×Int:=
 match m.aI.findIdx? (fun c=>(jN m c).2.2 !=0)with
 |some k=>((k:Int),(jN m (m.aI.getD k an.zero)).2)
 |none=>(0,0,0)
def zG(m:aM)(x:Int):Int×Int×Int:=(x,(jN m (m.aI.getD x.toNat an.zero)).2)
theorem KQ(m:aM)(k:Nat):zG m (k:Int)=((k:Int),(jN m (m.aI.getD k an.zero)).2):=by
 unfold zG;rw[bz]
theorem aAH{m:aM}(hm:qP m):M.rS m af 0=some (match m.aI.findIdx? (fun c=>(jN m c).2.2 !=0)with
 |some k=>.inl (zG m (k:Int))
 |none=>.inr ()):=
 fY (p:=fun c=>(jN m c).2.2 !=0) (F:=M.rS m) (e:=()) (zG m) m.aI (by have:=hm.m7;omega) (fun f k hk=>by
  rw[M.rS,KQ];have:=hm.m7;simp only[aAs hm hk,getD_lt hk,bJ,hk,bg,aA,aV,aX,cK,bw hk (by omega:m.aI.length<2^62)]) (fun f=>by rw[M.rS];simp)
theorem aAI{m:aM}(hm:qP m):M.so (m.aI.length:Int) m af 0=some (match m.aI.findIdx? (fun c=>(jN m c).2.2 !=0)with
 |some k=>.inl (zG m (k:Int))
 |none=>.inr ()):=
 fY (p:=fun c=>(jN m c).2.2 !=0) (F:=M.so (m.aI.length:Int) m) (e:=()) (zG m) m.aI (by have:=hm.m7;omega) (fun f k hk=>by
  rw[M.so,KQ];have:=hm.m7;have hb:=aAy hm hk;simp only[hb,getD_lt hk,bJ,hk,bg,aA,aV,aX,cK,bw hk (by omega:m.aI.length<2^62)]) (fun f=>by rw[M.so];simp)
noncomputable def rL(m:aM):Int×Int×Int:=if hZ m=true then KP m else(0,0,1)
theorem aAJ(m:aM)(h:m.sz<=1048576):M.By m=some (rL m):=by
 unfold M.By rL;rw[aip m h];simp only[aV,aX,cK,aA];cases hb:hZ m
 ·rfl
 ·rw[aE rfl,aAH (aiu hb)];unfold KP;cases m.aI.findIdx? (fun c=>(jN m c).2.2 !=0)with
  |none=>rfl
  |some k=>simp only[dE,bN,KQ]
theorem aAK(m:aM)(h:m.sz<=1048576):M.B7 m=some (rL m):=by
 unfold M.B7 rL;rw[MG m h];simp only[aV,aX,cK,aA,aR];cases hb:hZ m
 ·rfl
 ·have e:M.B6 m=some (KP m):=by
   unfold M.B6 KP;rw[aAI (aiu hb)];cases m.aI.findIdx? (fun c=>(jN m c).2.2 !=0)with
   |none=>rfl
   |some k=>simp only[KQ]
  rw[aE rfl,e];rfl
theorem anf(m:aM)(h:m.sz<=1048576):M.Bz m=some ((rL m).2.2==0):=by
 unfold M.Bz M.GH;rw[aAJ m h];rfl
theorem anh(m:aM)(h:m.sz<=1048576):M.B8 m=some ((rL m).2.2==0):=by
 unfold M.B8;rw[aAK m h];rfl
end M
