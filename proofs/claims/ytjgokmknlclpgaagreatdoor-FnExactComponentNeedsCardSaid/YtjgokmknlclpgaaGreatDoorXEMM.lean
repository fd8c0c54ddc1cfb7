/-
  THE BLOCKS of a core's code, matched, in plain Lean.
-/
import Derived.Test.YtjgokmknlclpgaaGreatDoorXEpl4
import Derived.Test.YtjgokmknlclpgaaGreatDoorXEFM
import Derived.Test.YtjgokmknlclpgaaGreatDoorXEpl5
import Derived.Test.YtjgokmknlclpgaaGreatDoorXEFH
import Derived.Test.YtjgokmknlclpgaaGreatDoorXEpl3
set_option linter.unusedVariables false
namespace M
open Go.V (inB yx az bU)
def Ij(op:Int):Bool:=(op==24||op==25)||op==26
abbrev BS :=List ax×List Int
def ace(s:BS):Nat:=(s.2.getD (s.2.length-1) 0).toNat
def iF(s:BS):ax:=s.1.getD (ace s) ax.zero
def opAt(c:List bK)(at_:Int):Int:=(c.getD at_.toNat bK.zero).Op
def iW(e:Int)(c:List bK)(k:Nat)(i:bK)(s:BS):Int⊕BS:=
 if Ij i.Op=true then
  if s.2.length=6 then .inl 4 else .inr (s.1++[ax.mk (k:Int) (-1) e 0 (i.A==1)],s.2++[(s.1.length:Int)])
 else if i.Op=27 then
  if s.2.length=0 then .inl 5
  else if opAt c (iF s).At≠26\/0<=(iF s).Else then .inl 5
  else .inr (s.1.set (ace s) (ax.mk (iF s).At (k:Int) (iF s).End (iF s).Height (iF s).Result),s.2)
 else if i.Op=28 then
  if s.2.length=0 then .inl 5
  else if(opAt c (iF s).At=26/\(iF s).Result=true)/\(iF s).Else<0 then .inl 7
  else .inr (s.1.set (ace s) (ax.mk (iF s).At (iF s).Else (k:Int) (iF s).Height (iF s).Result),s.2.take (s.2.length-1))
 else .inr s
def CO(e:Int)(c:List bK):Nat->Nat->BS->(Int×Int)⊕BS
 |0,k,s=>.inr s
 |n+1,k,s=>match iW e c k (c.getD k bK.zero) s with
  |.inl x=>.inl ((k:Int),x)
  |.inr s'=>CO e c n (k+1) s'
def strip(b:ax):ax:=ax.mk b.At b.Else 0 b.Height b.Result
def yj(s:BS):BS:=(s.1.map strip,s.2)
def ai3{E A B:Type}(f:A->B):E⊕A->E⊕B
 |.inl e=>.inl e
 |.inr a=>.inr (f a)
theorem ap6(s:BS):ace (yj s)=ace s:=rfl
theorem ayB(s:BS):iF (yj s)=strip (iF s):=by
 unfold iF;rw[ap6];simp only[yj,xA,Np];cases s.1[ace s]?<;>rfl
theorem amB(e e':Int)(c:List bK)(k:Nat)(i:bK)(s:BS):ai3 yj (iW e c k i s)=ai3 yj (iW e' c k i (yj s)):=by
 have ht:=ayB s;unfold iW;rw[ap6,ht];have h2:(yj s).2=s.2:=rfl;have hl:(yj s).1.length=s.1.length:=by simp[yj]
 rw[h2,hl];have ha:(strip (iF s)).At=(iF s).At:=rfl;have hb:(strip (iF s)).Else=(iF s).Else:=rfl;have hc:(strip (iF s)).Result=(iF s).Result:=rfl;have hd:(strip (iF s)).Height=(iF s).Height:=rfl;have he:(strip (iF s)).End=0:=rfl;rw[ha,hb,hc,hd,he];have hm:∀b:ax,strip (strip b)=strip b:=fun b=>rfl
 have hmm:∀l:List ax,(l.map strip).map strip=l.map strip:=fun l=>by rw[awX];rfl
 repeat' split
 all_goals first
  |rfl
  |(simp only[ai3,yj,auj,List.map_set,hmm,YY,List.map_nil];try rfl)
theorem ap7(e e':Int)(c:List bK):∀(n k:Nat)(s s':BS),yj s=yj s'->ai3 yj (CO e c n k s)=ai3 yj (CO e' c n k s')
 |0,k,s,s',h=>by simp only[CO,ai3,h]
 |n+1,k,s,s',h=>by
  have h1:ai3 yj (iW e c k (c.getD k bK.zero) s)=ai3 yj (iW e' c k (c.getD k bK.zero) s'):=by
   rw[amB e e' c k _ s,h,<-amB e' e' c k _ s']
  simp only[CO];cases hx:iW e c k (c.getD k bK.zero) s with
  |inl x=>
   cases hy:iW e' c k (c.getD k bK.zero) s' with
   |inl y=>rw[hx,hy]at h1;injection h1 with h1;rw[h1]
   |inr y=>rw[hx,hy]at h1;cases h1
  |inr x=>
   cases hy:iW e' c k (c.getD k bK.zero) s' with
   |inl y=>rw[hx,hy]at h1;cases h1
   |inr y=>
    rw[hx,hy]at h1;injection h1 with h1;exact ap7 e e' c n (k+1) x y h1
def pr(b:ax):Int×Bool:=(b.At,b.Result)
def prS(s:BS):List (Int×Bool):=s.1.map pr
structure BInv (k:Nat) (s:BS):Prop where
 lt:∀x∈prS s,0<=x.1/\x.1<k
 inc:(prS s).Pairwise fun a b=>a.1<b.1
 opn:∀x∈s.2,0<=x/\x<s.1.length
 six:s.2.length<=6
 cnt:s.1.length<=k
theorem ai4{k:Nat}{s:BS}(h:BInv k s)(h0:s.2.length≠0):ace s<s.1.length/\((ace s:Nat):Int)=s.2.getD (s.2.length-1) 0:=by
 have hm:s.2.getD (s.2.length-1) 0∈s.2:=by rw[getD_lt (by omega)];exact gp _
 have:=h.opn _ hm;unfold ace;omega
theorem ayC(l:List ax)(i:Nat)(b:ax)(h:pr b=pr (l.getD i ax.zero)):(l.set i b).map pr=l.map pr:=by
 rw[List.map_set,h];apply awZ;intro j;rw[Nr];split
 ·rename_i e;subst e;split
  ·rename_i hl;rw[xE]at hl;rw[Np,getD_lt hl,wH hl];rfl
  ·rename_i hl;rw[ap8 (by omega)]
 ·rfl
theorem VH{e:Int}{c:List bK}{k:Nat}{i:bK}{s s':BS}(h:iW e c k i s=.inr s'):
 (Ij i.Op=true/\s.2.length≠6/\prS s'=prS s++[((k:Int),i.A==1)]/\s'.2=s.2++[(s.1.length:Int)])\/
 (Ij i.Op=false/\prS s'=prS s/\((i.Op=27/\s.2.length≠0/\s'.2=s.2)\/(i.Op=28/\s.2.length≠0/\s'.2=s.2.take (s.2.length-1))\/(i.Op≠27/\i.Op≠28/\s'.2=s.2))):=by
 unfold iW at h;by_cases ho:Ij i.Op=true
 ·rw[bI ho]at h;by_cases h6:s.2.length=6
  ·rw[bI h6]at h;cases h
  ·rw[bu h6]at h;injection h with h;subst h;refine .inl ⟨ho,h6,?_,rfl⟩;simp only[prS,auj,YY,List.map_nil];rfl
 ·rw[bu ho]at h;have ho':Ij i.Op=false:=by simpa using ho
  refine .inr ⟨ho',?_⟩;by_cases h27:i.Op=27
  ·rw[bI h27]at h;by_cases h0:s.2.length=0
   ·rw[bI h0]at h;cases h
   ·rw[bu h0]at h;by_cases hc:opAt c (iF s).At≠26\/0<=(iF s).Else
    ·rw[bI hc]at h;cases h
    ·rw[bu hc]at h;injection h with h;subst h;exact⟨ayC _ _ _ rfl,.inl ⟨h27,h0,rfl⟩⟩
  ·rw[bu h27]at h;by_cases h28:i.Op=28
   ·rw[bI h28]at h;by_cases h0:s.2.length=0
    ·rw[bI h0]at h;cases h
    ·rw[bu h0]at h;by_cases hc:(opAt c (iF s).At=26/\(iF s).Result=true)/\(iF s).Else<0
     ·rw[bI hc]at h;cases h
     ·rw[bu hc]at h;injection h with h;subst h;exact⟨ayC _ _ _ rfl,.inr (.inl ⟨h28,h0,rfl⟩)⟩
   ·rw[bu h28]at h;injection h with h;subst h;exact⟨rfl,.inr (.inr ⟨h27,h28,rfl⟩)⟩
theorem NP{e:Int}{c:List bK}{k:Nat}{i:bK}{s s':BS}(hI:BInv k s)(h:iW e c k i s=.inr s'):BInv (k+1) s':=by
 have hlen:∀t:BS,(prS t).length=t.1.length:=fun t=>by simp[prS]
 rcases VH h with⟨_,h6,hp,ho⟩|⟨_,hp,ho⟩
 ·have hl:s'.1.length=s.1.length+1:=by rw[<-hlen s',hp,zH,hlen s];rfl
  refine⟨?_,?_,?_,?_,by have:=hI.cnt;omega⟩
  ·intro x hx;rw[hp]at hx;rcases qC.1 hx with hx|hx
   ·have:=hI.lt x hx;omega
   ·simp only[AB,az1,awG]at hx;subst hx;simp only;omega
  ·rw[hp,List.pairwise_append];refine⟨hI.inc,List.pairwise_singleton _ _,?_⟩;intro a ha b hb;simp only[AB,az1,awG]at hb;subst hb;exact(hI.lt a ha).2
  ·rw[ho];intro x hx;rcases qC.1 hx with hx|hx
   ·have:=hI.opn x hx;omega
   ·simp only[AB,az1,awG]at hx;subst hx;omega
  ·rw[ho,zH,jA,qh];have:=hI.six;omega
 ·have hl:s'.1.length=s.1.length:=by rw[<-hlen s',hp,hlen s]
  refine⟨?_,by rw[hp];exact hI.inc,?_,?_,by have:=hI.cnt;omega⟩
  ·rw[hp];intro x hx;have:=hI.lt x hx;omega
  ·rw[hl];rcases ho with⟨_,_,ho⟩|⟨_,_,ho⟩|⟨_,_,ho⟩<;>rw[ho]
   ·exact hI.opn
   ·exact fun x hx=>hI.opn x (List.mem_of_mem_take hx)
   ·exact hI.opn
  ·rcases ho with⟨_,_,ho⟩|⟨_,_,ho⟩|⟨_,_,ho⟩<;>rw[ho]
   ·exact hI.six
   ·rw[VB];have:=hI.six;omega
   ·exact hI.six
theorem atu:BInv 0 ([],[]):=⟨fun x hx=>by simp[prS]at hx,by simp[prS],fun x hx=>by simp at hx,by simp,by simp⟩
theorem ai5{e:Int}{c:List bK}:∀(n k:Nat)(s B:BS),BInv k s->CO e c n k s=.inr B->(∃r,prS B=prS s++r)/\BInv (k+n) B
 |0,k,s,B,hI,h=>by
  simp only[CO]at h;injection h with h;subst h;exact⟨⟨[],by simp⟩,hI⟩
 |n+1,k,s,B,hI,h=>by
  simp only[CO]at h;cases hx:iW e c k (c.getD k bK.zero) s with
  |inl x=>rw[hx]at h;cases h
  |inr s'=>
   rw[hx]at h;obtain⟨⟨r,hr⟩,hp⟩:=ai5 n (k+1) s' B (NP hI hx) h;refine⟨?_,by rw[show k+(n+1)=k+1+n by omega];exact hp⟩;rcases VH hx with⟨_,_,hp',_⟩|⟨_,hp',_⟩
   ·exact⟨[((k:Int),(c.getD k bK.zero).A==1)]++r,by rw[hr,hp',aoI]⟩
   ·exact⟨r,by rw[hr,hp']⟩
theorem aCL{L:List (Int×Bool)}(h:L.Pairwise fun a b=>a.1<b.1){j:Nat}(hj:j<L.length)(p:Int×Bool->Bool)(hp:∀x,p x=(x.1==(L[j]).1)):L.findIdx? p=some j:=by
 rw[List.findIdx?_eq_some_iff_getElem];refine⟨hj,by rw[hp];simp,?_⟩;intro i hi;have:=ayD.1 h i j (by omega) hj hi;rw[hp];simp only[sD];omega
end M
namespace M
open Go.V (inB yx az bU)
def yA(b:Bool):Int:=bif b then 1 else 0
theorem D8(b:Bool):0<=yA b/\yA b<=1:=by cases b<;>decide
structure PQ where
 nxt:Int
 op:List Int
 ba:List Int
 h:Int
 kn:Bool
def kL(s:PQ):Int:=if s.ba.length=0 then 0 else s.ba.getD (s.ba.length-1) 0
def Ik(P:List (Int×Bool))(s:PQ):Int×Bool:=P.getD (s.op.getD (s.op.length-1) 0).toNat (0,false)
def zB(m:aK)(c:aH)(i:bK)(s:PQ):Bool:=
 if i.Op=2\/i.Op=3\/i.Op=4 then decide (i.A<c.Params+c.gu)
 else if i.Op=32 then decide (i.A<(m.bz.length:Int))
 else if i.Op=33 then decide (i.A<(m.aj.length:Int))
 else if i.Op=29\/i.Op=30 then decide (i.A<=(s.op.length:Int))else true
def gm(m:aK)(i:bK):Int×Int:=
 if i.Op=1\/i.Op=2 then(0,1)
 else if i.Op=3\/i.Op=5\/i.Op=26\/i.Op=30 then(1,0)
 else if i.Op=4\/i.Op=22\/i.Op=34\/i.Op=35\/i.Op=36 then(1,1)
 else if i.Op=23 then(3,1)
 else if i.Op=37\/i.Op=38\/i.Op=39 then(2,0)
 else if i.Op=32 then((m.bz.getD i.A.toNat aH.zero).Params,yA (m.bz.getD i.A.toNat aH.zero).Result)
 else if i.Op=33 then((m.aj.getD i.A.toNat aB.zero).Params,yA (m.aj.getD i.A.toNat aB.zero).Result)
 else if i.Op=24\/i.Op=25\/i.Op=29\/i.Op=31\/i.Op=40 then(0,0)else(2,1)
def EK(c:aH)(P:List (Int×Bool))(i:bK)(s:PQ):Int:=
 if i.Op=31 then yA c.Result
 else if i.Op=29\/i.Op=30 then
  if(s.op.length:Int)-1-i.A<0 then yA c.Result
  else yA ((P.getD (s.op.getD ((s.op.length:Int)-1-i.A).toNat 0).toNat (0,false)).2&& !(opAt c.Code (P.getD (s.op.getD ((s.op.length:Int)-1-i.A).toNat 0).toNat (0,false)).1==25))
 else 0
def LJ(m:aK)(c:aH)(P:List (Int×Bool))(i:bK)(s:PQ):Int⊕PQ:=
 if i.Op=27\/i.Op=28 then
  if s.kn=true/\s.h≠kL s+yA (Ik P s).2 then .inl 7
  else if i.Op=27 then .inr {s with kn:=true,h:=kL s}
  else if 24<kL s+yA (Ik P s).2 then .inl 4
  else .inr {s with kn:=true,h:=kL s+yA (Ik P s).2,op:=s.op.take (s.op.length-1),ba:=s.ba.take (s.ba.length-1)}
 else if s.kn=false then .inl 5
 else if zB m c i s=false then .inl 2
 else if s.h-(gm m i).1<kL s then .inl 7
 else if 24<s.h-(gm m i).1+(gm m i).2 then .inl 4
 else if s.h-(gm m i).1+(gm m i).2-EK c P i s<kL s then .inl 7
 else .inr {
  nxt:=if Ij i.Op=true then s.nxt+1 else s.nxt
  op:=if Ij i.Op=true then s.op++[s.nxt]else s.op
  ba:=if Ij i.Op=true then s.ba++[s.h-(gm m i).1+(gm m i).2]else s.ba
  h:=s.h-(gm m i).1+(gm m i).2
  kn:= !(i.Op==29||i.Op==31||i.Op==40)}
def PR(s:PQ):bV:=if s.kn=true then bV.mk true s.h s.op else bV.mk false 0 []
def ald(m:aK)(c:aH)(P:List (Int×Bool)):Nat->Nat->PQ->List bV->(Int×Int)⊕(PQ×List bV)
 |0,k,s,a=>.inr (s,a)
 |n+1,k,s,a=>match LJ m c P (c.Code.getD k bK.zero) s with
  |.inl x=>.inl ((k:Int),x)
  |.inr s'=>ald m c P n (k+1) s' (a++[PR s])
structure MOk (m:aK):Prop where
 acb:m.bz.length<=8
 imports:m.aj.length<=12
 imp:∀x∈m.aj,0<=x.Params/\x.Params<=8
 core:∀x∈m.bz,(0<=x.Params/\x.Params<=8)/\(0<=x.gu/\x.gu<=8)/\x.Code.length<=120
 ins:∀x∈m.bz,∀i∈x.Code,(1<=i.Op/\i.Op<=40)/\(i.Op≠1->0<=i.A/\i.A<=16777216)
structure aw0 (B:BS) (s:PQ):Prop where
 op:s.op=B.2
 nxt:s.nxt=(B.1.length:Int)
 len:s.ba.length=s.op.length
 ba:∀x∈s.ba,0<=x/\x<=24
 h:0<=s.h/\s.h<=24
theorem ap9{B:BS}{s:PQ}(h:aw0 B s):0<=kL s/\kL s<=24:=by
 unfold kL;by_cases h0:s.ba.length=0
 ·rw[bI h0];omega
 ·rw[bu h0,getD_lt (by omega)];exact h.ba _ (gp _)
theorem aqa{m:aK}(hm:MOk m)(i:bK):(0<=(gm m i).1/\(gm m i).1<=8)/\(0<=(gm m i).2/\(gm m i).2<=1):=by
 have hc:0<=(m.bz.getD i.A.toNat aH.zero).Params/\(m.bz.getD i.A.toNat aH.zero).Params<=8:=by
  rw[xA];cases h:m.bz[i.A.toNat]? with
  |none=>simp[aH.zero]
  |some x=>exact(hm.core x (PS h)).1
 have hi:0<=(m.aj.getD i.A.toNat aB.zero).Params/\(m.aj.getD i.A.toNat aB.zero).Params<=8:=by
  rw[xA];cases h:m.aj[i.A.toNat]? with
  |none=>simp[aB.zero]
  |some x=>exact hm.imp x (PS h)
 have b1:=D8 (m.bz.getD i.A.toNat aH.zero).Result;have b2:=D8 (m.aj.getD i.A.toNat aB.zero).Result;unfold gm
 repeat' split
 all_goals simp only
 all_goals omega
def aCM(m:aK)(i:bK)(s:PQ):PQ:={
    nxt:=if Ij i.Op=true then s.nxt+1 else s.nxt
    op:=if Ij i.Op=true then s.op++[s.nxt]else s.op
    ba:=if Ij i.Op=true then s.ba++[s.h-(gm m i).1+(gm m i).2]else s.ba
    h:=s.h-(gm m i).1+(gm m i).2
    kn:= !(i.Op==29||i.Op==31||i.Op==40)}
theorem aqb{m:aK}{c:aH}{P:List (Int×Bool)}{i:bK}{s s':PQ}(hn:¬(i.Op=27\/i.Op=28))(hc:LJ m c P i s=.inr s'):
 (s.kn=true/\zB m c i s=true/\kL s<=s.h-(gm m i).1/\s.h-(gm m i).1+(gm m i).2<=24)/\s'=aCM m i s:=by
 unfold LJ at hc;rw[bu hn]at hc;by_cases q1:s.kn=false
 ·rw[bI q1]at hc;cases hc
 rw[bu q1]at hc;by_cases q2:zB m c i s=false
 ·rw[bI q2]at hc;cases hc
 rw[bu q2]at hc;by_cases q3:s.h-(gm m i).1<kL s
 ·rw[bI q3]at hc;cases hc
 rw[bu q3]at hc;by_cases q4:24<s.h-(gm m i).1+(gm m i).2
 ·rw[bI q4]at hc;cases hc
 rw[bu q4]at hc;by_cases q5:s.h-(gm m i).1+(gm m i).2-EK c P i s<kL s
 ·rw[bI q5]at hc;cases hc
 rw[bu q5]at hc;injection hc with hc;exact⟨⟨by simpa using q1,by simpa using q2,by omega,by omega⟩,hc.symm⟩
theorem atv{m:aK}{c:aH}{P:List (Int×Bool)}{i:bK}{e:Int}{code:List bK}{k:Nat}{B B':BS}{s s':PQ}(hm:MOk m)(hI:aw0 B s)(hb:iW e code k i B=.inr B')(hc:LJ m c P i s=.inr s'):aw0 B' s':=by
 have hbl:=ap9 hI;have htk:=aqa hm i;have hbit:=D8 (Ik P s).2;have hlen:∀t:BS,(prS t).length=t.1.length:=fun t=>by simp[prS]
 rcases VH hb with⟨ho,h6,hp,hop⟩|⟨ho,hp,hop⟩
 ·have hn:¬(i.Op=27\/i.Op=28):=by
   unfold Ij at ho;simp only[CG,sD]at ho;omega
  have hl:B'.1.length=B.1.length+1:=by rw[<-hlen B',hp,zH,hlen B];rfl
  obtain⟨⟨q1,q2,q3,q4⟩,rfl⟩:=aqb hn hc;unfold aCM;refine⟨?_,?_,?_,?_,?_⟩
  ·rw[hop,<-hI.op,<-hI.nxt];simp only[ho,Fh]
  ·simp only[ho,Fh,hI.nxt];omega
  ·simp only[ho,Fh,zH,hI.len,jA,qh]
  ·simp only[ho,Fh];intro x hx;rcases qC.1 hx with hx|hx
   ·exact hI.ba x hx
   ·simp only[AB,az1,awG]at hx;subst hx;omega
  ·simp only;omega
 ·have hl:B'.1.length=B.1.length:=by rw[<-hlen B',hp,hlen B]
  by_cases hn:i.Op=27\/i.Op=28
  ·unfold LJ at hc;rw[bI hn]at hc;split at hc
   ·cases hc
   ·split at hc
    ·rename_i q1 q2;injection hc with hc;subst hc;have h2:B'.2=B.2:=by
      rcases hop with⟨_,_,h⟩|⟨h,_,_⟩|⟨h,_,_⟩
      ·exact h
      ·omega
      ·omega
     exact⟨by rw[h2];exact hI.op,by rw[hl];exact hI.nxt,hI.len,hI.ba,hbl⟩
    ·split at hc
     ·cases hc
     ·rename_i q1 q2 q3;injection hc with hc;subst hc;have h2:B'.2=B.2.take (B.2.length-1):=by
       rcases hop with⟨h,_,_⟩|⟨_,_,h⟩|⟨_,h,_⟩
       ·omega
       ·exact h
       ·omega
      refine⟨by rw[h2,<-hI.op],by rw[hl];exact hI.nxt,?_,?_,?_⟩
      ·simp only[VB,hI.len]
      ·simp only;exact fun x hx=>hI.ba x (List.mem_of_mem_take hx)
      ·simp only;omega
  ·have h2:B'.2=B.2:=by
    rcases hop with⟨h,_,_⟩|⟨h,_,_⟩|⟨_,_,h⟩
    ·omega
    ·omega
    ·exact h
   obtain⟨⟨q1,q2,q3,q4⟩,rfl⟩:=aqb hn hc;unfold aCM;have hof:¬(Ij i.Op=true):=by rw[ho];simp
   refine⟨?_,?_,?_,?_,?_⟩
   ·rw[h2];simp only[ho,Nl,PN];exact hI.op
   ·simp only[ho,Nl,PN,hl];exact hI.nxt
   ·simp only[ho,Nl,PN,hI.len]
   ·simp only[ho,Nl,PN];exact hI.ba
   ·simp only;omega
end M
set_option linter.unusedSimpArgs false
namespace M
open Go.V (inB yx az bU)
theorem aou{k:Nat}{s:BS}(h:BInv k s)(h0:s.2.length≠0):0<=(iF s).At/\(iF s).At<k:=by
 have h1:=(ai4 h h0).1;have hm:pr (iF s)∈prS s:=by
  unfold iF prS;rw[getD_lt h1];exact ajM.2 ⟨_,gp h1,rfl⟩
 exact h.lt _ hm
theorem J9{n:Nat}(h0:n≠0)(h:n<=6):Go.IntKind.wrap .i64 ((n:Int)-1)=((n-1:Nat):Int):=by rw[wrap_i64 (by omega) (by omega)];omega
theorem Ns{x:Int}{n:Nat}(h:0<=x/\x<n):inB x n=true:=by
 obtain⟨a,rfl⟩:=az2 h.1;rw[bn,jX];omega
theorem afv(c:aH)(hn:c.Code.length<=120):∀(f k:Nat)(s:BS),k<=c.Code.length->c.Code.length-k<f->BInv k s->
 M.kV c f (k:Int) s.1 s.2=some (match CO (-1) c.Code (c.Code.length-k) k s with
   |.inl p=>.inl (p.1,p.2,[])
   |.inr s'=>.inr (c,s'.1,s'.2))
 |0,k,s,h1,h2,_=>by omega
 |f+1,k,s,h1,h2,hI=>by
  rw[M.kV];rcases kF k c.Code.length with hk|hk
  ·obtain⟨r,hr⟩:∃r,c.Code.length-k=r+1:=⟨c.Code.length-k-1,by omega⟩;have hr':c.Code.length-(k+1)=r:=by omega
   have ih:=fun s' h=>afv c hn f (k+1) s' (by omega) (by omega) h
   rw[hr']at ih;rw[hr];simp only[CO];have hinv:=fun s' h=>NP (e:= -1) (c:=c.Code) (i:=c.Code.getD k bK.zero) (s':=s') hI h
   have hw:Go.IntKind.wrap .i64 ((k:Int)+1)=((k+1:Nat):Int):=dB hk (by omega);have h6:=hI.six;have hcnt:=hI.cnt;simp only[kE,bn,gZ,hk,eG,bQ,jg,hw];generalize hi:c.Code.getD k bK.zero=i at hinv⊢;rw[show(i.Op==24||i.Op==25||i.Op==26)=Ij i.Op from rfl];by_cases ho:Ij i.Op=true
   ·rw[ho,bQ];by_cases hl:s.2.length=6
    ·have hb:iW (-1) c.Code k i s=.inl 4:=by unfold iW;rw[bI ho,bI hl]
     rw[hb,hl];rfl
    ·have hb:iW (-1) c.Code k i s=.inr (s.1++[ax.mk (k:Int) (-1) (-1) 0 (i.A==1)],s.2++[(s.1.length:Int)]):=by unfold iW;rw[bI ho,bu hl]
     have q:(((s.2.length:Nat):Int)==6)=false:=by rw[AP];omega
     have d1:decide (s.1.length+1<=1073741824)=true:=by rw[jX];omega
     have d2:decide (s.2.length+1<=1073741824)=true:=by rw[jX];omega
     have:=ih _ (hinv _ hb);simp only[q,gG,jA,qh,Ae,d1,d2,pq,bQ];rw[hb];exact this
   ·have ho':Ij i.Op=false:=by simpa using ho
    rw[ho',gG];by_cases h27:i.Op=27
    ·have b27:(i.Op==27)=true:=by rw[h27];rfl
     rw[b27,bQ];by_cases h0:s.2.length=0
     ·have hb:iW (-1) c.Code k i s=.inl 5:=by unfold iW;rw[bu ho,bI h27,bI h0]
      rw[hb];simp[h0]
     ·have ht:=ai4 hI h0;have hat:=aou hI h0;have q:(((s.2.length:Nat):Int)==0)=false:=by rw[AP];omega
      have e1:=ht.2.symm;have hA:inB (iF s).At c.Code.length=true:=Ns ⟨hat.1,by omega⟩;have hS:s.2.length-1<s.2.length:=by omega
      simp only[q,NT,J9 h0 h6,kE,e1,bn,ht.1,hS,eG];rw[show List.getD s.1 (ace s) ax.zero=iF s from rfl,show(List.getD c.Code (Int.toNat (iF s).At) bK.zero).Op=opAt c.Code (iF s).At from rfl,hA];by_cases hc:opAt c.Code (iF s).At≠26\/0<=(iF s).Else
      ·have hb:iW (-1) c.Code k i s=.inl 5:=by unfold iW;rw[bu ho,bI h27,bu h0,bI hc]
       have hq:((opAt c.Code (iF s).At !=26)||decide (0<=(iF s).Else))=true:=by rw[CG,Ti,jX];exact hc
       rw[hb,hq];simp
      ·have hb:iW (-1) c.Code k i s=.inr (s.1.set (ace s) (ax.mk (iF s).At (k:Int) (iF s).End (iF s).Height (iF s).Result),s.2):=by unfold iW;rw[bu ho,bI h27,bu h0,bu hc]
       have hq:((opAt c.Code (iF s).At !=26)||decide (0<=(iF s).Else))=false:=by
        rw[agN,ne_eq,CG,Ti,jX];exact hc
       have:=ih _ (hinv _ hb);rw[hb,hq];simp only[gG,jc,pq,bQ];exact this
    ·have b27:(i.Op==27)=false:=by rw[AP];exact h27
     rw[b27,gG];by_cases h28:i.Op=28
     ·have b28:(i.Op==28)=true:=by rw[h28];rfl
      rw[b28,bQ];by_cases h0:s.2.length=0
      ·have hb:iW (-1) c.Code k i s=.inl 5:=by unfold iW;rw[bu ho,bu h27,bI h28,bI h0]
       rw[hb,h0];rfl
      ·have ht:=ai4 hI h0;have hat:=aou hI h0;have q:(((s.2.length:Nat):Int)==0)=false:=by rw[AP];omega
       have e1:=ht.2.symm;have hA:inB (iF s).At c.Code.length=true:=Ns ⟨hat.1,by omega⟩;have hS:s.2.length-1<s.2.length:=by omega
       have hsl:yx (0:Int) ((s.2.length-1:Nat):Int) s.2.length=true:=by unfold yx;simp
       simp only[q,gG,J9 h0 h6,kE,e1,bn,ht.1,hS,eG,hsl];rw[show List.getD s.1 (ace s) ax.zero=iF s from rfl,show(List.getD c.Code (Int.toNat (iF s).At) bK.zero).Op=opAt c.Code (iF s).At from rfl,hA];by_cases hc:(opAt c.Code (iF s).At=26/\(iF s).Result=true)/\(iF s).Else<0
       ·have hb:iW (-1) c.Code k i s=.inl 7:=by unfold iW;rw[bu ho,bu h27,bI h28,bu h0,bI hc]
        have hq:(((opAt c.Code (iF s).At==26)&&(iF s).Result)&&decide ((iF s).Else<0))=true:=by rw[lS,lS,sD,jX];exact hc
        rw[hb,hq];rfl
       ·have hb:iW (-1) c.Code k i s=.inr (s.1.set (ace s) (ax.mk (iF s).At (iF s).Else (k:Int) (iF s).Height (iF s).Result),s.2.take (s.2.length-1)):=by unfold iW;rw[bu ho,bu h27,bI h28,bu h0,bu hc]
        have hq:(((opAt c.Code (iF s).At==26)&&(iF s).Result)&&decide ((iF s).Else<0))=false:=by rw[agN,ne_eq,lS,lS,sD,jX];exact hc
        have:=ih _ (hinv _ hb);rw[hb,hq];simp only[gG,pq,bQ];exact this
     ·have b28:(i.Op==28)=false:=by rw[AP];exact h28
      have hb:iW (-1) c.Code k i s=.inr s:=by unfold iW;rw[bu ho,bu h27,bu h28]
      have:=ih _ (hinv _ hb);rw[b28,gG,hb];exact this
  ·have:k=c.Code.length:=by omega
   subst this;simp[CO]
def Au(e:Int)(c:aH):(Int×Int)⊕List ax:=
 match CO e c.Code c.Code.length 0 ([],[])with
 |.inl p=>.inl p
 |.inr s=>if s.2.length=0 then .inr s.1 else .inl ((c.Code.length:Int),5)
theorem aCN(c:aH)(hn:c.Code.length<=120):M.JU c=some (match Au (-1) c with
 |.inl p=>(p.1,p.2,[])
 |.inr b=>(0,0,b)):=by
 unfold M.JU Au;have e:=afv c hn az 0 ([],[]) (oG _) (by have:=bU;omega) atu;have e':M.kV c az 0 [] []=_:=e;rw[e',Nat.sub_zero];cases h:CO (-1) c.Code c.Code.length 0 ([],[])with
 |inl p=>rfl
 |inr s=>
  simp only;by_cases h0:s.2.length=0
  ·rw[bI h0,h0];rfl
  ·rw[bu h0];have:decide ((0:Int)<((s.2.length:Nat):Int))=true:=by rw[jX];omega
   rw[this];rfl
end M
namespace M
open Go.V (inB yx az bU)
theorem atw(b:Bool):M.vT b=some (yA b):=by cases b<;>rfl
theorem az3(b:Bool):M.Vb b=some (yA b):=by cases b<;>rfl
theorem aJp{b c:Bool}:(bif b then b else c)=(b||c):=by cases b<;>rfl
theorem az4{K:Int}(h:1<=K/\K<=40):K=1\/K=2\/K=3\/K=4\/K=5\/K=6\/K=7\/K=8\/K=9\/K=10\/K=11\/K=12\/K=13\/K=14\/K=15\/K=16\/K=17\/K=18\/K=19\/K=20\/K=21\/K=22\/K=23\/K=24\/K=25\/K=26\/K=27\/K=28\/K=29\/K=30\/K=31\/K=32\/K=33\/K=34\/K=35\/K=36\/K=37\/K=38\/K=39\/K=40:=by omega
theorem aE0(m:aK)(c:aH)(i:bK)(s:PQ)(h1:0<=c.Params/\c.Params<=8)(h2:0<=c.gu/\c.gu<=8)(hi:1<=i.Op/\i.Op<=40):M.Pg m c i (s.op.length:Int)=some (zB m c i s):=by
 obtain⟨K,A⟩:=i;have hw:Go.IntKind.wrap .i64 (c.Params+c.gu)=c.Params+c.gu:=wrap_i64 (by omega) (by omega);unfold M.Pg;rw[hw];simp only at hi;rcases az4 hi with rfl|rfl|rfl|rfl|rfl|rfl|rfl|rfl|rfl|rfl|rfl|rfl|rfl|rfl|rfl|rfl|rfl|rfl|rfl|rfl|rfl|rfl|rfl|rfl|rfl|rfl|rfl|rfl|rfl|rfl|rfl|rfl|rfl|rfl|rfl|rfl|rfl|rfl|rfl|rfl<;>rfl
theorem aCO(m:aK)(c:aH)(bl:List ax)(i:bK)(s:PQ)(h1:0<=c.Params/\c.Params<=8)(h2:0<=c.gu/\c.gu<=8)(hi:1<=i.Op/\i.Op<=40):
 M.xW (M.fU.mk m c bl s.nxt s.op s.ba s.h s.kn) i=some (zB m c i s):=by
 obtain⟨K,A⟩:=i;have hw:Go.IntKind.wrap .i64 (c.Params+c.gu)=c.Params+c.gu:=wrap_i64 (by omega) (by omega);unfold M.xW;simp only[hw];simp only at hi;rcases az4 hi with rfl|rfl|rfl|rfl|rfl|rfl|rfl|rfl|rfl|rfl|rfl|rfl|rfl|rfl|rfl|rfl|rfl|rfl|rfl|rfl|rfl|rfl|rfl|rfl|rfl|rfl|rfl|rfl|rfl|rfl|rfl|rfl|rfl|rfl|rfl|rfl|rfl|rfl|rfl|rfl<;>rfl
theorem aHR(m:aK)(c:aH)(i:bK)(s:PQ)(hi:1<=i.Op/\i.Op<=40)(hA:i.Op≠1->0<=i.A)(hn:i.Op≠27/\i.Op≠28)(ht:zB m c i s=true):M.U9 m i=some (gm m i):=by
 obtain⟨K,A⟩:=i;simp only at hi hA hn;unfold M.U9;simp only[atw];rcases az4 hi with rfl|rfl|rfl|rfl|rfl|rfl|rfl|rfl|rfl|rfl|rfl|rfl|rfl|rfl|rfl|rfl|rfl|rfl|rfl|rfl|rfl|rfl|rfl|rfl|rfl|rfl|rfl|rfl|rfl|rfl|rfl|h32|h33|rfl|rfl|rfl|rfl|rfl|rfl|rfl
 case inr.inr.inr.inr.inr.inr.inr.inr.inr.inr.inr.inr.inr.inr.inr.inr.inr.inr.inr.inr.inr.inr.inr.inr.inr.inr.inr.inr.inr.inr.inr.inl=>
  subst h32;have hl:A<(m.bz.length:Int):=by
   have:zB m c ⟨32,A⟩ s=decide (A<(m.bz.length:Int)):=rfl;rw[this,jX]at ht;exact ht
  have hb:inB A m.bz.length=true:=Ns ⟨hA (by omega),hl⟩;simp only[hb,jY,jR];rfl
 case inr.inr.inr.inr.inr.inr.inr.inr.inr.inr.inr.inr.inr.inr.inr.inr.inr.inr.inr.inr.inr.inr.inr.inr.inr.inr.inr.inr.inr.inr.inr.inr.inl=>
  subst h33;have hl:A<(m.aj.length:Int):=by
   have:zB m c ⟨33,A⟩ s=decide (A<(m.aj.length:Int)):=rfl;rw[this,jX]at ht;exact ht
  have hb:inB A m.aj.length=true:=Ns ⟨hA (by omega),hl⟩;simp only[hb,jY,jR];rfl
 all_goals first|rfl|(exfalso;omega)
theorem aCP(m:aK)(c:aH)(bl:List ax)(i:bK)(s:PQ)(hi:1<=i.Op/\i.Op<=40)(hA:i.Op≠1->0<=i.A)(hn:i.Op≠27/\i.Op≠28)(ht:zB m c i s=true):
 M.xX (M.fU.mk m c bl s.nxt s.op s.ba s.h s.kn) i=some (gm m i):=by
 obtain⟨K,A⟩:=i;simp only at hi hA hn;unfold M.xX;simp only[az3];rcases az4 hi with rfl|rfl|rfl|rfl|rfl|rfl|rfl|rfl|rfl|rfl|rfl|rfl|rfl|rfl|rfl|rfl|rfl|rfl|rfl|rfl|rfl|rfl|rfl|rfl|rfl|rfl|rfl|rfl|rfl|rfl|rfl|h32|h33|rfl|rfl|rfl|rfl|rfl|rfl|rfl
 case inr.inr.inr.inr.inr.inr.inr.inr.inr.inr.inr.inr.inr.inr.inr.inr.inr.inr.inr.inr.inr.inr.inr.inr.inr.inr.inr.inr.inr.inr.inr.inl=>
  subst h32;have hl:A<(m.bz.length:Int):=by
   have:zB m c ⟨32,A⟩ s=decide (A<(m.bz.length:Int)):=rfl;rw[this,jX]at ht;exact ht
  have hb:inB A m.bz.length=true:=Ns ⟨hA (by omega),hl⟩;simp only[hb,jY,jR];rfl
 case inr.inr.inr.inr.inr.inr.inr.inr.inr.inr.inr.inr.inr.inr.inr.inr.inr.inr.inr.inr.inr.inr.inr.inr.inr.inr.inr.inr.inr.inr.inr.inr.inl=>
  subst h33;have hl:A<(m.aj.length:Int):=by
   have:zB m c ⟨33,A⟩ s=decide (A<(m.aj.length:Int)):=rfl;rw[this,jX]at ht;exact ht
  have hb:inB A m.aj.length=true:=Ns ⟨hA (by omega),hl⟩;simp only[hb,jY,jR];rfl
 all_goals first|rfl|(exfalso;omega)
end M
namespace M
open Go.V (inB yx az bU)
theorem aov(l:List ax)(j:Nat):(l.map pr).getD j (0,false)=pr (l.getD j ax.zero):=by
 rw[xA,xA,Np];cases l[j]?<;>rfl
def PIn(c:aH)(P:List (Int×Bool)):Prop:=∀x∈P,0<=x.1/\x.1<(c.Code.length:Int)
theorem at_in{c:aH}{P:List (Int×Bool)}(hP:PIn c P){o:List ax}(ho:o.map pr=P){j:Nat}(hj:j<o.length):inB (o.getD j ax.zero).At c.Code.length=true:=by
 refine Ns (hP (pr (o.getD j ax.zero)) ?_);rw[<-ho,getD_lt hj];exact ajM.2 ⟨_,gp hj,rfl⟩
structure ayE (P:List (Int×Bool)) (s:PQ) (o1:List ax):Prop where
 pr:o1.map pr=P
 ht:∀j,j<s.op.length->(o1.getD (s.op.getD j 0).toNat ax.zero).Height=s.ba.getD j 0
structure SIn (P:List (Int×Bool)) (s:PQ):Prop where
 op:∀x∈s.op,0<=x/\x<(P.length:Int)
 six:s.op.length<=6
 len:s.ba.length=s.op.length
theorem SIn.at_{P:List (Int×Bool)}{s:PQ}(h:SIn P s){j:Nat}(hj:j<s.op.length):(s.op.getD j 0).toNat<P.length/\(((s.op.getD j 0).toNat:Nat):Int)=s.op.getD j 0:=by
 have:=h.op (s.op.getD j 0) (by rw[getD_lt hj];exact gp hj);omega
theorem aHS{P:List (Int×Bool)}{s:PQ}{o1:List ax}(hr:ayE P s o1)(hi:SIn P s)(m:aK)(c:aH)(h:Int)(d:Bool):M.EG (M.oC.mk m c o1 s.op h d)=some (kL s):=by
 unfold M.EG kL;simp only;by_cases h0:s.op.length=0
 ·rw[h0,bI (by rw[hi.len];exact h0)];rfl
 ·have hp:decide ((0:Int)<((s.op.length:Nat):Int))=true:=by rw[jX];omega
  have hj:s.op.length-1<s.op.length:=by omega
  obtain⟨h1,h2⟩:=hi.at_ hj;have hl:o1.length=P.length:=by rw[<-hr.pr,xE]
  have e:=hr.ht _ hj;rw[bu (by rw[hi.len];exact h0),hp,bQ,J9 h0 hi.six,kE,hi.len];rw[<-e,<-h2];simp only[bn,kE,hl,h1,hj,eG,pq,bQ]
theorem aCQ(s:PQ)(h6:s.ba.length<=6)(m:aK)(c:aH)(bl:List ax):M.tX (M.fU.mk m c bl s.nxt s.op s.ba s.h s.kn)=some (kL s):=by
 unfold M.tX kL;simp only;by_cases h0:s.ba.length=0
 ·rw[bI h0,h0];rfl
 ·have q:(((s.ba.length:Nat):Int)==0)=false:=by rw[AP];omega
  rw[bu h0,q,gG,J9 h0 h6,kE,bn,ahb (by omega:s.ba.length-1<s.ba.length)];rfl
theorem aBf{m:aK}{c:aH}{P:List (Int×Bool)}(hP:PIn c P){bl:List ax}(hb:bl.map pr=P){s:PQ}(hi:SIn P s)(i:bK)(hA:i.Op≠1->0<=i.A)(ht:zB m c i s=true):
 M.vV (M.fU.mk m c bl s.nxt s.op s.ba s.h s.kn) i=some (EK c P i s):=by
 unfold M.vV EK;simp only[az3,jY,jR,jg,dY,bQ];by_cases h31:i.Op=31
 ·rw[bI h31,h31];rfl
 ·have q31:(i.Op==31)=false:=by rw[AP];exact h31
  rw[bu h31,q31,gG,aJp];by_cases hbr:i.Op=29\/i.Op=30
  ·have qbr:(i.Op==29||i.Op==30)=true:=by rw[CG,sD,sD];exact hbr
   rw[bI hbr,qbr,bQ];have hA0:0<=i.A:=hA (by omega);have hle:i.A<=(s.op.length:Int):=by
    unfold zB at ht;rw[bu (by omega),bu (by omega),bu (by omega),bI hbr,jX]at ht;exact ht
   have h6:=hi.six;have hw:Go.IntKind.wrap .i64 (Go.IntKind.wrap .i64 ((s.op.length:Int)-1)-i.A)=(s.op.length:Int)-1-i.A:=by
    rw[wrap_i64 (n:=(s.op.length:Int)-1) (by omega) (by omega),wrap_i64 (by omega) (by omega)]
   rw[hw];by_cases hd:(s.op.length:Int)-1-i.A<0
   ·rw[bI hd,ahb hd,bQ]
   ·rw[bu hd,ajQ hd,gG];obtain⟨j,hj⟩:=az2 (by omega:0<=(s.op.length:Int)-1-i.A);rw[hj];have hjl:j<s.op.length:=by omega
    obtain⟨h1,h2⟩:=hi.at_ hjl;have hl:bl.length=P.length:=by rw[<-hb,xE]
    have hat:=at_in hP hb (j:=(s.op.getD j 0).toNat) (by rw[hl];exact h1);have hin:inB (s.op.getD j 0) bl.length=true:=by rw[<-h2,bn,jX,hl];exact h1
    simp only[kE,hat,hin,bn,hjl,eG,jc,pq,bQ];rw[<-hb,aov];rfl
  ·have qbr:(i.Op==29||i.Op==30)=false:=by rw[agN,ne_eq,CG,sD,sD];exact hbr
   rw[bu hbr,qbr,gG]
theorem aBg{m:aK}{c:aH}{P:List (Int×Bool)}(hP:PIn c P){o1:List ax}(hb:o1.map pr=P){s:PQ}(hi:SIn P s)(i:bK)(hA:0<=i.A)(hbr:i.Op=29\/i.Op=30)(ht:zB m c i s=true)(h:Int)(d:Bool):
 M.pV (M.oC.mk m c o1 s.op h d) i.A=some (EK c P i s):=by
 unfold M.pV EK;simp only[atw,jY,jR,jg,dY,bQ];rw[bu (by omega),bI hbr];have hle:i.A<=(s.op.length:Int):=by
  unfold zB at ht;rw[bu (by omega),bu (by omega),bu (by omega),bI hbr,jX]at ht;exact ht
 have h6:=hi.six;by_cases hd:i.A=(s.op.length:Int)
 ·rw[bI (by omega),hd,aoD,bQ]
 ·have q:(i.A==(s.op.length:Int))=false:=by rw[AP];exact hd
  rw[bu (by omega),q,gG];have hw:Go.IntKind.wrap .i64 (Go.IntKind.wrap .i64 ((s.op.length:Int)-1)-i.A)=(s.op.length:Int)-1-i.A:=by
   rw[wrap_i64 (n:=(s.op.length:Int)-1) (by omega) (by omega),wrap_i64 (by omega) (by omega)]
  rw[hw];obtain⟨j,hj⟩:=az2 (by omega:0<=(s.op.length:Int)-1-i.A);rw[hj];have hjl:j<s.op.length:=by omega
  obtain⟨h1,h2⟩:=hi.at_ hjl;have hl:o1.length=P.length:=by rw[<-hb,xE]
  have hat:=at_in hP hb (j:=(s.op.getD j 0).toNat) (by rw[hl];exact h1);have hin:inB (s.op.getD j 0) o1.length=true:=by rw[<-h2,bn,jX,hl];exact h1
  simp only[kE,hat,hin,bn,hjl,eG,pq,bQ];rw[<-hb,aov]
  show _=some (yA ((pr (o1.getD (s.op.getD j 0).toNat ax.zero)).2&& !(opAt c.Code (pr (o1.getD (s.op.getD j 0).toNat ax.zero)).1==25)))
  have e1:(pr (o1.getD (s.op.getD j 0).toNat ax.zero)).1=(o1.getD (s.op.getD j 0).toNat ax.zero).At:=rfl;have e2:(pr (o1.getD (s.op.getD j 0).toNat ax.zero)).2=(o1.getD (s.op.getD j 0).toNat ax.zero).Result:=rfl;rw[e1,e2];show(bif(opAt c.Code (o1.getD (s.op.getD j 0).toNat ax.zero).At==25)then some (0:Int)else some (yA (o1.getD (s.op.getD j 0).toNat ax.zero).Result))=_
  cases (opAt c.Code (o1.getD (s.op.getD j 0).toNat ax.zero).At==25)<;>cases (o1.getD (s.op.getD j 0).toNat ax.zero).Result<;>rfl
theorem aCR{P:List (Int×Bool)}{o1:List ax}(hb:o1.map pr=P)(aCj:P.Pairwise fun a b=>a.1<b.1)(hlen:P.length<2^62){j k:Nat}(hj:j<P.length)(hk:(P[j]).1=(k:Int))(m:aK)(c:aH)(op:List Int)(h:Int)(d:Bool):
 M.Dw (M.oC.mk m c o1 op h d) (k:Int)=some (j:Int):=by
 have hl:o1.length=P.length:=by rw[<-hb,xE]
 have e:=iL (p:=fun b:ax=>b.At==(k:Int)) (F:=M.nZ (M.oC.mk m c o1 op h d) (k:Int)) (e:=()) (fun k=>k) o1 (by omega) (fun f q hq=>by
  rw[M.nZ];simp only[getD_lt hq,kE,bn,gZ,hq,eG,bQ,jg,dB hq (by omega:o1.length<2^62)]) (fun f=>by
  rw[M.nZ];simp)
 have e2:o1.findIdx? (fun b:ax=>b.At==(k:Int))=some j:=by
  have h1:=aCL aCj hj (fun x=>x.1==(k:Int)) (fun x=>by rw[hk]);rw[<-hb,List.findIdx?_map]at h1;exact h1
 unfold M.Dw;rw[e,e2]
end M
namespace M
open Go.V (inB yx az bU)
abbrev RS :=Int×List aB×List aH×List UInt8×Int×Int×Bool×List bK×Int×Bool×List ax×List Int
def stS(m:aK)(c:aH)(s:PQ)(o1:List ax):RS:=(m.jI,m.aj,m.bz,c.Name,c.Params,c.gu,c.Result,c.Code,s.h, !s.kn,o1,s.op)
theorem aCS(m:aK):M.aK.mk m.jI m.aj m.bz=m:=rfl
theorem aCT(c:aH):M.aH.mk c.Name c.Params c.gu c.Result c.Code=c:=rfl
structure At_ (m:aK) (c:aH) (P:List (Int×Bool)) (e:Int) (k:Nat) (i:bK) (B B':BS) (s:PQ):Prop where
 mok:MOk m
 core:c∈m.bz
 pin:PIn c P
 inc:P.Pairwise fun a b=>a.1<b.1
 pl:P.length<=120
 hk:k<c.Code.length
 hi:c.Code.getD k bK.zero=i
 ale:aw0 B s
 aCV:BInv k B
 step:iW e c.Code k i B=.inr B'
 pre:∃r,P=prS B'++r
theorem At_.sin{m:aK}{c:aH}{P:List (Int×Bool)}{e:Int}{k:Nat}{i:bK}{B B':BS}{s:PQ}(h:At_ m c P e k i B B' s):SIn P s/\B.1.length<=P.length:=by
 obtain⟨r,hr⟩:=h.pre;have hl:∀t:BS,(prS t).length=t.1.length:=fun t=>by simp[prS]
 have hle:B.1.length<=P.length:=by
  rw[hr,zH,<-hl B];rcases VH h.step with⟨_,_,hp,_⟩|⟨_,hp,_⟩<;>rw[hp]
  ·rw[zH];omega
  ·omega
 refine⟨⟨?_,by rw[h.ale.op];exact h.aCV.six,h.ale.len⟩,hle⟩;rw[h.ale.op];intro x hx;have:=h.aCV.opn x hx;omega
theorem At_.op{m:aK}{c:aH}{P:List (Int×Bool)}{e:Int}{k:Nat}{i:bK}{B B':BS}{s:PQ}(h:At_ m c P e k i B B' s):(1<=i.Op/\i.Op<=40)/\(i.Op≠1->0<=i.A):=by
 have:=h.mok.ins c h.core i (by rw[<-h.hi,getD_lt h.hk];exact gp h.hk);exact⟨this.1,fun h1=>(this.2 h1).1⟩
theorem At_.open_{m:aK}{c:aH}{P:List (Int×Bool)}{e:Int}{k:Nat}{i:bK}{B B':BS}{s:PQ}(h:At_ m c P e k i B B' s)(hi:i.Op=27\/i.Op=28):s.op.length≠0:=by
 rw[h.ale.op];rcases VH h.step with⟨ho,_,_,_⟩|⟨_,_,hop⟩
 ·unfold Ij at ho;simp only[CG,sD]at ho;omega
 ·rcases hop with⟨_,h,_⟩|⟨_,h,_⟩|⟨h1,h2,_⟩
  ·exact h
  ·exact h
  ·omega
theorem At_.new{m:aK}{c:aH}{P:List (Int×Bool)}{e:Int}{k:Nat}{i:bK}{B B':BS}{s:PQ}(h:At_ m c P e k i B B' s)(ho:Ij i.Op=true):∃hj:B.1.length<P.length,(P[B.1.length]).1=(k:Int):=by
 obtain⟨r,hr⟩:=h.pre;have hl:(prS B).length=B.1.length:=by simp[prS]
 rcases VH h.step with⟨_,_,hp,_⟩|⟨ho',_,_⟩
 ·have hP:P=prS B++((k:Int),i.A==1)::r:=by rw[hr,hp,aoI];rfl
  have hj:B.1.length<P.length:=by rw[hP,zH,hl,jA];omega
  refine⟨hj,?_⟩;have:P[B.1.length]?=some ((k:Int),i.A==1):=by
   rw[hP,uS (by rw[hl];exact iM _),hl,ad3];rfl
  rw[wH hj]at this;rw[VG this]
 ·rw[ho]at ho';cases ho'
theorem aE2{m:aK}{c:aH}{P:List (Int×Bool)}{s:PQ}{o1:List ax}(hr:ayE P s o1)(hi:SIn P s)(h0:s.op.length≠0)(hb:0<=kL s/\kL s<=24)(e28:Bool):
 M.Gt e28 m.jI m.aj m.bz c.Name c.Params c.gu c.Result c.Code s.h (!s.kn) o1 s.op=some (if s.kn=true/\s.h≠kL s+yA (Ik P s).2 then(false,stS m c s o1)
   else if e28=true then(true,stS m c {s with kn:=true,h:=kL s+yA (Ik P s).2,op:=s.op.take (s.op.length-1),ba:=s.ba.take (s.ba.length-1)} o1)
   else(true,stS m c {s with kn:=true,h:=kL s} o1)):=by
 have hj:s.op.length-1<s.op.length:=by omega
 obtain⟨h1,h2⟩:=hi.at_ hj;have hl:o1.length=P.length:=by rw[<-hr.pr,xE]
 have eh:(o1.getD (s.op.getD (s.op.length-1) 0).toNat ax.zero).Height=kL s:=by
  rw[hr.ht _ hj];unfold kL;rw[bu (by rw[hi.len];exact h0),hi.len]
 have er:(o1.getD (s.op.getD (s.op.length-1) 0).toNat ax.zero).Result=(Ik P s).2:=by
  unfold Ik;rw[<-hr.pr,aov];rfl
 have hin:inB (s.op.getD (s.op.length-1) 0) o1.length=true:=by rw[<-h2,bn,jX,hl];exact h1
 have hbit:=D8 (Ik P s).2;have hsl:yx (0:Int) ((s.op.length-1:Nat):Int) s.op.length=true:=by unfold yx;simp
 have hw:Go.IntKind.wrap .i64 (kL s+yA (Ik P s).2)=kL s+yA (Ik P s).2:=wrap_i64 (by omega) (by omega);unfold M.Gt;simp only[J9 h0 hi.six,kE,eh,er,atw,jR,jY,hw,hin,bn,hj,eG,jc,pq,jg,bQ,aqc,hsl];by_cases hc:s.kn=true/\s.h≠kL s+yA (Ik P s).2
 ·have q:(s.kn&&(s.h !=kL s+yA (Ik P s).2))=true:=by rw[lS,Ti];exact hc
  rw[bI hc,q];rfl
 ·have q:(s.kn&&(s.h !=kL s+yA (Ik P s).2))=false:=by rw[agN,ne_eq,lS,Ti];exact hc
  rw[bu hc,q];cases e28<;>rfl
theorem aBi{P:List (Int×Bool)}{s:PQ}{o1:List ax}(hr:ayE P s o1)(hi:SIn P s)(h:Int):ayE P {s with kn:=true,h:=h,op:=s.op.take (s.op.length-1),ba:=s.ba.take (s.ba.length-1)} o1:=by
 refine⟨hr.pr,fun j hj=>?_⟩;simp only[VB]at hj;have e1:(s.op.take (s.op.length-1)).getD j 0=s.op.getD j 0:=by
  rw[xA,xA,yl,bI (by omega)]
 have e2:(s.ba.take (s.ba.length-1)).getD j 0=s.ba.getD j 0:=by
  rw[xA,xA,yl,bI (by rw[hi.len];omega)]
 simp only[e1,e2];exact hr.ht j (by omega)
theorem aHU{m:aK}{c:aH}{P:List (Int×Bool)}{e:Int}{k:Nat}{i:bK}{B B':BS}{s:PQ}{o1:List ax}(h:At_ m c P e k i B B' s)(hr:ayE P s o1):
 ∃y:Int×RS,M.JV (k:Int) m.jI m.aj m.bz c.Name c.Params c.gu c.Result c.Code s.h (!s.kn) o1 s.op=some y/\(match LJ m c P i s with
  |.inl x=>y.1=x
  |.inr s'=>∃o1',y=(0,stS m c s' o1')/\ayE P s' o1'):=by
 obtain⟨hi,hle⟩:=h.sin;obtain⟨hop,hA⟩:=h.op;have hbl:=ap9 h.ale;have hbit:=D8 (Ik P s).2;have hk:=h.hk;unfold M.JV LJ;simp only[kE,h.hi,bn,hk,eG,jg,aCS,aCT];by_cases ht:i.Op=27\/i.Op=28
 ·have h0:=h.open_ ht;have qt:(i.Op==27||i.Op==28)=true:=by rw[CG,sD,sD];exact ht
  rw[bI ht,qt,bQ,aE2 (m:=m) (c:=c) hr hi h0 hbl (i.Op==28)];by_cases hc:s.kn=true/\s.h≠kL s+yA (Ik P s).2
  ·rw[bI hc,bI hc];exact⟨_,rfl,rfl⟩
  ·rw[bu hc,bu hc];by_cases h27:i.Op=27
   ·have q28:(i.Op==28)=false:=by rw[AP];omega
    rw[bI h27,q28,bu (by decide)];have:decide ((24:Int)<kL s)=false:=by rw[AO];omega
    refine⟨(0,stS m c {s with kn:=true,h:=kL s} o1),?_,o1,rfl,⟨hr.pr,hr.ht⟩⟩;simp only[stS,jR,this,Ad,gG,jY,bQ]
   ·have h28:i.Op=28:=by omega
    have q28:(i.Op==28)=true:=by rw[sD];exact h28
    rw[bu h27,q28,bI rfl];by_cases h24:24<kL s+yA (Ik P s).2
    ·rw[bI h24];simp only[stS,jR,ahb h24,Ad,gG,jY,bQ];exact⟨_,rfl,rfl⟩
    ·rw[bu h24];refine⟨(0,stS m c {s with kn:=true,h:=kL s+yA (Ik P s).2,op:=s.op.take (s.op.length-1),ba:=s.ba.take (s.ba.length-1)} o1),?_,o1,rfl,aBi hr hi _⟩;simp only[stS,jR,ajQ h24,Ad,gG,jY,bQ]
 ·have qt:(i.Op==27||i.Op==28)=false:=by rw[agN,ne_eq,CG,sD,sD];exact ht
  have hcore:=h.mok.core c h.core;rw[bu ht,qt,gG];by_cases hkn:s.kn=false
  ·rw[bI hkn,hkn];exact⟨_,rfl,rfl⟩
  ·have hkn':s.kn=true:=by simpa using hkn
   rw[bu hkn,hkn'];simp only[Ad,gG,aE0 m c i s hcore.1 hcore.2.1 hop,jR,jY,pq,dY,bQ];by_cases hth:zB m c i s=false
   ·rw[bI hth,hth];exact⟨_,rfl,rfl⟩
   ·have ayG:zB m c i s=true:=by simpa using hth
    rw[bu hth,ayG];have htk:=aqa h.mok i;have hst:=h.ale.h;simp only[Ad,gG,aHR m c i s hop hA ⟨fun q=>ht (.inl q),fun q=>ht (.inr q)⟩ ayG,aHS hr hi m c,jR,jY,pq,dY,bQ];have w1:Go.IntKind.wrap .i64 (s.h-(gm m i).1)=s.h-(gm m i).1:=wrap_i64 (by omega) (by omega);have w2:Go.IntKind.wrap .i64 (s.h+Go.IntKind.wrap .i64 ((gm m i).2-(gm m i).1))=s.h-(gm m i).1+(gm m i).2:=by
     rw[wrap_i64 (n:=(gm m i).2-(gm m i).1) (by omega) (by omega),wrap_i64 (by omega) (by omega)];omega
    rw[w1,w2];by_cases hb:s.h-(gm m i).1<kL s
    ·rw[bI hb,ahb hb];exact⟨_,rfl,rfl⟩
    ·rw[bu hb,ajQ hb,gG];by_cases h24:24<s.h-(gm m i).1+(gm m i).2
     ·rw[bI h24,ahb h24];exact⟨_,rfl,rfl⟩
     ·rw[bu h24,ajQ h24,gG];have hnb:0<=EK c P i s/\EK c P i s<=1:=by
       unfold EK
       repeat' split
       ·exact D8 _
       ·exact D8 _
       ·exact D8 _
       ·omega
      have aCW:(bif(bif i.Op==29 then i.Op==29 else i.Op==30)then(M.pV (M.oC.mk m c o1 s.op (s.h-(gm m i).1+(gm m i).2) false) i.A).getD Inhabited.default else(bif i.Op==31 then(M.vT c.Result).getD Inhabited.default else(0:Int)))=EK c P i s/\((bif i.Op==29 then i.Op==29 else i.Op==30)=true->(M.pV (M.oC.mk m c o1 s.op (s.h-(gm m i).1+(gm m i).2) false) i.A).isSome=true):=by
       rw[aJp];by_cases hbr:i.Op=29\/i.Op=30
       ·have qbr:(i.Op==29||i.Op==30)=true:=by rw[CG,sD,sD];exact hbr
        rw[qbr,bQ,aBg h.pin hr.pr hi i (hA (by omega)) hbr ayG];exact⟨rfl,fun _=>rfl⟩
       ·have qbr:(i.Op==29||i.Op==30)=false:=by rw[agN,ne_eq,CG,sD,sD];exact hbr
        rw[qbr,gG,atw];refine⟨?_,fun q=>by cases q⟩;unfold EK;by_cases h31:i.Op=31
        ·rw[bI h31,h31];rfl
        ·have q31:(i.Op==31)=false:=by rw[AP];exact h31
         rw[bu h31,bu hbr,q31];rfl
      obtain⟨aCW,hsome⟩:=aCW;rw[aCW];have w3:Go.IntKind.wrap .i64 (s.h-(gm m i).1+(gm m i).2-EK c P i s)=s.h-(gm m i).1+(gm m i).2-EK c P i s:=wrap_i64 (by omega) (by omega);rw[w3,atw];generalize hq8:(bif i.Op==29 then i.Op==29 else i.Op==30)=q8 at hsome;generalize (M.pV (M.oC.mk m c o1 s.op (s.h-(gm m i).1+(gm m i).2) false) i.A).isSome=cs at hsome;have hg:((((cs&&((true|| !(i.Op==29))&&(true||(i.Op==29))))|| !q8)&&(((((true:Bool)&&((true|| !(i.Op==29))&&(true||(i.Op==29))))|| !(i.Op==31))&&(((true|| !(i.Op==29))&&(true||(i.Op==29)))||(i.Op==31)))||q8)))=true:=by
       cases q8
       ·simp
       ·rw[hsome rfl];simp
      simp only[jY,jc,pq,dY,jg]at hg⊢;by_cases hnd:s.h-(gm m i).1+(gm m i).2-EK c P i s<kL s
      ·rw[bI hnd,ahb hnd,bQ];simp only[hg,bQ];exact⟨_,rfl,rfl⟩
      ·rw[bu hnd,ajQ hnd,gG];rw[show(i.Op==24||i.Op==25||i.Op==26)=Ij i.Op from rfl];by_cases ho:Ij i.Op=true
       ·obtain⟨hj,hat⟩:=h.new ho;have hl:o1.length=P.length:=by rw[<-hr.pr,xE]
        have hown:M.Gp s.op=some s.op:=by
         unfold M.Gp;have:=hi.six;rw[show decide (0+s.op.length<=1073741824)=true by rw[jX];omega];rfl
        have hd:decide (s.op.length+1<=1073741824)=true:=by have:=hi.six;rw[jX];omega
        have hjl:B.1.length<o1.length:=by rw[hl];exact hj
        simp only[ho,bQ,hown,aCR hr.pr h.inc (by have:=h.pl;omega) hj hat,jR,jY,kE,bn,hjl,eG,hg,pq,jA,qh,Ae,hd,Fh];refine⟨_,rfl,o1.set B.1.length (ax.mk (o1.getD B.1.length ax.zero).At (o1.getD B.1.length ax.zero).Else (o1.getD B.1.length ax.zero).End (s.h-(gm m i).1+(gm m i).2) (o1.getD B.1.length ax.zero).Result),?_,⟨?_,?_⟩⟩
        ·simp only[stS,h.ale.nxt,aqc]
        ·refine Eq.trans (ayC o1 B.1.length _ ?_) hr.pr;rfl
        ·intro j hj';simp only[zH,jA,qh]at hj'⊢;rcases kF j s.op.length with h1|h1
         ·have e1:(s.op++[s.nxt]).getD j 0=s.op.getD j 0:=by
           rw[xA,xA,qV h1]
          have e2:(s.ba++[s.h-(gm m i).1+(gm m i).2]).getD j 0=s.ba.getD j 0:=by
           rw[xA,xA,qV (by rw[hi.len];exact h1)]
          rw[e1,e2,<-hr.ht j h1];have hlt:(s.op.getD j 0).toNat≠B.1.length:=by
           have:=h.aCV.opn (s.op.getD j 0) (by rw[<-h.ale.op,getD_lt h1];exact gp h1);omega
          rw[xA,Nr,bu (acg hlt),<-xA]
         ·have:j=s.op.length:=by omega
          subst this;have e1:(s.op++[s.nxt]).getD s.op.length 0=s.nxt:=by
           rw[xA,uS (iM _),ad3];rfl
          have e2:(s.ba++[s.h-(gm m i).1+(gm m i).2]).getD s.op.length 0=s.h-(gm m i).1+(gm m i).2:=by
           rw[<-hi.len,xA,uS (iM _),ad3];rfl
          rw[e1,e2,h.ale.nxt,kE,xA,Nr,bI rfl,bI hjl];rfl
       ·have ho':Ij i.Op=false:=by simpa using ho
        simp only[ho',gG,hg,bQ,PN,Nl];refine⟨_,rfl,o1,?_,⟨hr.pr,hr.ht⟩⟩;simp only[stS,aqc]
end M
namespace M
open Go.V (inB yx az bU)
theorem atx{m:aK}{c:aH}{P:List (Int×Bool)}{i:bK}{s:PQ}{x:Int}(h:LJ m c P i s=.inl x):x≠0:=by
 unfold LJ at h
 repeat' split at h
 all_goals cases h
 all_goals decide
theorem aBj{e:Int}{c:List bK}{k:Nat}{i:bK}{s:BS}{x:Int}(h:iW e c k i s=.inl x):x≠0:=by
 unfold iW at h
 repeat' split at h
 all_goals cases h
 all_goals decide
theorem aqd{e:Int}{c:List bK}:∀(n k:Nat)(s:BS)(p:Int×Int),CO e c n k s=.inl p->p.2≠0
 |0,k,s,p,h=>by simp only[CO]at h;cases h
 |n+1,k,s,p,h=>by
  simp only[CO]at h;cases hx:iW e c k (c.getD k bK.zero) s with
  |inl x=>rw[hx]at h;injection h with h;subst h;exact aBj hx
  |inr s'=>rw[hx]at h;exact aqd n (k+1) s' p h
theorem aE3(m:aK)(c:aH)(s:PQ)(o1:List ax)(h6:s.op.length<=6):M.Gq m.jI m.aj m.bz c.Name c.Params c.gu c.Result c.Code s.h (!s.kn) o1 s.op=some (PR s,stS m c s o1):=by
 have hown:M.Gp s.op=some s.op:=by
  unfold M.Gp;rw[show decide (0+s.op.length<=1073741824)=true by rw[jX];omega];rfl
 unfold M.Gq PR stS;rw[hown];cases s.kn<;>rfl
structure aBk (m:aK) (c:aH) (P:List (Int×Bool)) (Bf:BS):Prop where
 mok:MOk m
 core:c∈m.bz
 P:P=prS Bf
 inv:BInv c.Code.length Bf
theorem aBk.at_{m:aK}{c:aH}{P:List (Int×Bool)}{Bf:BS}(h:aBk m c P Bf){e:Int}{k r:Nat}{B B':BS}{s:PQ}(hk:k<c.Code.length)(hB:BInv k B)(hs:aw0 B s)(hb:iW e c.Code k (c.Code.getD k bK.zero) B=.inr B')(hr:CO e c.Code r (k+1) B'=.inr Bf):At_ m c P e k (c.Code.getD k bK.zero) B B' s:=by
 have hl:P.length=Bf.1.length:=by rw[h.P];simp[prS]
 exact{mok:=h.mok,core:=h.core,pin:=by rw[h.P];exact h.inv.lt,inc:=by rw[h.P];exact h.inv.inc,pl:=by rw[hl];have:=h.inv.cnt;have:=(h.mok.core c h.core).2.2;omega,hk:=hk,hi:=rfl,ale:=hs,aCV:=hB,step:=hb,
        pre:=by rw[h.P];exact(ai5 r (k+1) B' Bf (NP hB hb) hr).1}
theorem amC{m:aK}{c:aH}{P:List (Int×Bool)}{Bf:BS}{e:Int}(hf:aBk m c P Bf):∀(f k:Nat)(B:BS)(s:PQ)(o1:List ax)(out:List bV),k<=c.Code.length->c.Code.length-k<f->BInv k B->aw0 B s->CO e c.Code (c.Code.length-k) k B=.inr Bf->ayE P s o1->out.length=k->
 ∃o1',M.vU c f (k:Int) m.jI m.aj m.bz c.Name c.Params c.gu c.Result c.Code s.h (!s.kn) out o1 s.op=some (match ald m c P (c.Code.length-k) k s out with
  |.inl p=>.inl (p.1,p.2,[])
  |.inr p=>.inr (c,m.jI,m.aj,m.bz,c.Name,c.Params,c.gu,c.Result,c.Code,p.1.h, !p.1.kn,p.2,o1',p.1.op))
 |0,k,B,s,o1,out,h1,h2,_,_,_,_,_=>by omega
 |f+1,k,B,s,o1,out,h1,h2,hB,hs,hb,hr,hl=>by
  have hn:=(hf.mok.core c hf.core).2.2;rcases kF k c.Code.length with hk|hk
  ·obtain⟨r,hrn⟩:∃r,c.Code.length-k=r+1:=⟨c.Code.length-k-1,by omega⟩;have hr':c.Code.length-(k+1)=r:=by omega
   rw[hrn]at hb⊢;simp only[CO]at hb;cases hx:iW e c.Code k (c.Code.getD k bK.zero) B with
   |inl x=>rw[hx]at hb;cases hb
   |inr B'=>
    rw[hx]at hb;simp only at hb;have hat:=hf.at_ hk hB hs hx hb;obtain⟨y,hy,hc⟩:=aHU hat hr;have h6:s.op.length<=6:=by rw[hs.op];exact hB.six
    rw[M.vU];have hw:Go.IntKind.wrap .i64 ((k:Int)+1)=((k+1:Nat):Int):=dB hk (by omega);have hd:decide (out.length+([PR s]:List bV).length<=1073741824)=true:=by rw[jX,hl,jA,qh];omega
    simp only[gZ,hk,eG,bQ,aE3 m c s o1 h6,jR,stS,hy,jY,jg,pq,hd,hw,ald];cases hcs:LJ m c P (c.Code.getD k bK.zero) s with
    |inl x=>
     rw[hcs]at hc;simp only at hc;have:(y.1 !=0)=true:=by rw[Ti,hc];exact atx hcs
     exact⟨[],by rw[this,hc];rfl⟩
    |inr s'=>
     rw[hcs]at hc;obtain⟨o1',rfl,hr2⟩:=hc;have hz:(((0:Int) !=0))=false:=by decide
     obtain⟨o2,ho2⟩:=amC hf f (k+1) B' s' o1' (out++[PR s]) (by omega) (by omega) (NP hB hx) (atv hf.mok hs hx hcs) (by rw[hr'];exact hb) hr2 (by rw[zH,hl];rfl);rw[hr']at ho2;refine⟨o2,?_⟩;simp only[hz,gG,stS];exact ho2
  ·have:k=c.Code.length:=by omega
   subst this;refine⟨o1,?_⟩;rw[M.vU];simp[ald]
def s0:PQ:=⟨0,[],[],0,true⟩
def pbl(e:Int)(c:aH):(Int×Int)⊕List (Int×Bool):=ai3 (List.map pr) (Au e c)
theorem aHW(e e':Int)(c:aH):pbl e c=pbl e' c:=by
 have h:=ap7 e e' c.Code c.Code.length 0 ([],[]) ([],[]) rfl;unfold pbl Au;cases h1:CO e c.Code c.Code.length 0 ([],[])with
 |inl p=>
  cases h2:CO e' c.Code c.Code.length 0 ([],[])with
  |inl q=>rw[h1,h2]at h;injection h with h;rw[h]
  |inr q=>rw[h1,h2]at h;cases h
 |inr p=>
  cases h2:CO e' c.Code c.Code.length 0 ([],[])with
  |inl q=>rw[h1,h2]at h;cases h
  |inr q=>
   rw[h1,h2]at h;injection h with h;have e1:p.1.map strip=q.1.map strip:=(ayL Prod.fst h:(yj p).1=(yj q).1);have e2:p.2=q.2:=(ayL Prod.snd h:(yj p).2=(yj q).2);have e3:p.1.map pr=q.1.map pr:=by
    have:=ayL (List.map pr) e1;rw[awX,awX]at this;exact this
   simp only[e2];by_cases h0:q.2.length=0
   ·rw[bI h0,bI h0];simp only[ai3,e3]
   ·rw[bu h0,bu h0]
def LK(m:aK)(c:aH):List bV×Int×Int:=
 match pbl 0 c with
 |.inl p=>([],p.1,p.2)
 |.inr P=>match ald m c P c.Code.length 0 s0 []with
   |.inl p=>([],p.1,p.2)
   |.inr p=>if p.1.kn=true/\p.1.h≠yA c.Result then([],(c.Code.length:Int),7)else(p.2++[bV.mk true (yA c.Result) []],0,0)
theorem aG6:aw0 ([],[]) s0:=⟨rfl,rfl,rfl,fun x hx=>by simp[s0]at hx,by simp[s0]⟩
theorem aqe{m:aK}{c:aH}{P:List (Int×Bool)}:∀(n k:Nat)(s:PQ)(a:List bV)(q:PQ×List bV),ald m c P n k s a=.inr q->q.2.length=a.length+n
 |0,k,s,a,q,h=>by simp only[ald]at h;injection h with h;subst h;rfl
 |n+1,k,s,a,q,h=>by
  simp only[ald]at h;cases hx:LJ m c P (c.Code.getD k bK.zero) s with
  |inl x=>rw[hx]at h;cases h
  |inr s'=>
   rw[hx]at h;have:=aqe n (k+1) s' _ q h;rw[zH,jA,qh]at this;omega
theorem aBl{m:aK}(hm:MOk m){k:Nat}(hk:k<m.bz.length):M.TM m (k:Int)=some (LK m m.bz[k]):=by
 have hmem:=gp hk;have hn:=(hm.core _ hmem).2.2;unfold M.TM LK;rw[aHW 0 (-1)];unfold pbl;simp only[kE,getD_lt hk,bn,hk,eG,jg,pq];generalize hc:m.bz[k]=c at hn hmem⊢;rw[aCN c hn];have hb:∀p,Au (-1) c=.inl p->p.2≠0:=fun p h=>by
  unfold Au at h;cases hx:CO (-1) c.Code c.Code.length 0 ([],[])with
  |inl q=>rw[hx]at h;injection h with h;subst h;exact aqd _ _ _ _ hx
  |inr q=>
   rw[hx]at h;simp only at h;split at h
   ·cases h
   ·injection h with h;subst h;show(5:Int)≠0
    decide
 cases hbl:Au (-1) c with
 |inl p=>
  have:(p.2 !=0)=true:=by rw[Ti];exact hb p hbl
  simp only[jR,jY,ai3,this,bQ]
 |inr b=>
  obtain⟨Bf,hrun,hbf⟩:∃Bf:BS,CO (-1) c.Code c.Code.length 0 ([],[])=.inr Bf/\Bf.1=b:=by
   unfold Au at hbl;cases hx:CO (-1) c.Code c.Code.length 0 ([],[])with
   |inl q=>rw[hx]at hbl;cases hbl
   |inr q=>
    rw[hx]at hbl;simp only at hbl;split at hbl
    ·injection hbl with hbl;exact⟨q,rfl,hbl⟩
    ·cases hbl
  have hinv:=(ai5 c.Code.length 0 ([],[]) Bf atu hrun).2;rw[Ae]at hinv;have hf:aBk m c (b.map pr) Bf:=⟨hm,hmem,by rw[<-hbf];rfl,hinv⟩;obtain⟨o1',ho⟩:=amC (e:= -1) hf az 0 ([],[]) s0 b [] (oG _) (by have:=bU;omega) atu aG6 (by rw[Nat.sub_zero];exact hrun) ⟨rfl,fun j hj=>by simp[s0]at hj⟩ rfl;have ho':M.vU c az 0 m.jI m.aj m.bz c.Name c.Params c.gu c.Result c.Code 0 false [] b []=_:=ho;rw[Nat.sub_zero]at ho';have hz:((0:Int) !=0)=false:=by decide
  simp only[jR,jY,ai3,hz,gG,ho'];cases hcr:ald m c (b.map pr) c.Code.length 0 s0 []with
  |inl p=>rfl
  |inr p=>
   have hlen:=aqe _ _ _ _ _ hcr;simp only[atw,jR,jY,aqc,jc,pq,jg,bQ];have hd:decide (p.2.length+([bV.mk true (yA c.Result) []]:List bV).length<=1073741824)=true:=by
    rw[jX,hlen];simp only[jA,qh];omega
   by_cases hq:p.1.kn=true/\p.1.h≠yA c.Result
   ·have q:(p.1.kn&&(p.1.h !=yA c.Result))=true:=by rw[lS,Ti];exact hq
    rw[bI hq,q];rfl
   ·have q:(p.1.kn&&(p.1.h !=yA c.Result))=false:=by rw[agN,ne_eq,lS,Ti];exact hq
    rw[bu hq,q,hd];rfl
end M
namespace M
open Go.V (inB yx az bU)
abbrev RI :=Int×List aB×List aH×List UInt8×Int×Int×Bool×List bK×List ax×Int×Int×Bool×List Int×List Int
def stI(m:aK)(c:aH)(bl:List ax)(s:PQ):RI:=(m.jI,m.aj,m.bz,c.Name,c.Params,c.gu,c.Result,c.Code,bl,s.nxt,s.h,s.kn,s.op,s.ba)
theorem aHX{m:aK}{c:aH}{P:List (Int×Bool)}{s:PQ}{bl:List ax}(hb:bl.map pr=P)(hi:SIn P s)(h0:s.op.length≠0)(hbl:0<=kL s/\kL s<=24)(i:bK)(ht:i.Op=27\/i.Op=28):
 ∃y:Int×RI,M.BC i m.jI m.aj m.bz c.Name c.Params c.gu c.Result c.Code bl s.nxt s.h s.kn s.op s.ba=some y/\(match LJ m c P i s with
  |.inl x=>y.1=x
  |.inr s'=>y=(0,stI m c bl s')):=by
 have hj:s.op.length-1<s.op.length:=by omega
 obtain⟨h1,h2⟩:=hi.at_ hj;have hl:bl.length=P.length:=by rw[<-hb,xE]
 have er:(bl.getD (s.op.getD (s.op.length-1) 0).toNat ax.zero).Result=(Ik P s).2:=by
  unfold Ik;rw[<-hb,aov];rfl
 have hin:inB (s.op.getD (s.op.length-1) 0) bl.length=true:=by rw[<-h2,bn,jX,hl];exact h1
 have hbit:=D8 (Ik P s).2;have hsl:yx (0:Int) ((s.op.length-1:Nat):Int) s.op.length=true:=by unfold yx;simp
 have hsl2:yx (0:Int) ((s.op.length-1:Nat):Int) s.ba.length=true:=by rw[hi.len];exact hsl
 have hw:Go.IntKind.wrap .i64 (kL s+yA (Ik P s).2)=kL s+yA (Ik P s).2:=wrap_i64 (by omega) (by omega);have hbase:=aCQ s (by rw[hi.len];exact hi.six) m c bl;unfold LJ;rw[bI ht];unfold M.BC;simp only[aCS,aCT,hbase,J9 h0 hi.six,kE,er,az3,jR,jY,hw,hin,bn,hj,eG,jc,pq,jg,bQ,hsl,hsl2];by_cases hc:s.kn=true/\s.h≠kL s+yA (Ik P s).2
 ·have q:(s.kn&&(s.h !=kL s+yA (Ik P s).2))=true:=by rw[lS,Ti];exact hc
  rw[bI hc,q];exact⟨_,rfl,rfl⟩
 ·have q:(s.kn&&(s.h !=kL s+yA (Ik P s).2))=false:=by rw[agN,ne_eq,lS,Ti];exact hc
  rw[bu hc,q,gG];by_cases h27:i.Op=27
  ·have q27:(i.Op==27)=true:=by rw[sD];exact h27
   rw[bI h27,q27,bQ];exact⟨_,rfl,rfl⟩
  ·have q27:(i.Op==27)=false:=by rw[AP];exact h27
   rw[bu h27,q27,gG];by_cases h24:24<kL s+yA (Ik P s).2
   ·rw[bI h24];simp only[ahb h24,bQ];exact⟨_,rfl,rfl⟩
   ·rw[bu h24];simp only[ajQ h24,gG];exact⟨_,rfl,by simp only[stI,hi.len]⟩
theorem aHY{m:aK}{c:aH}{P:List (Int×Bool)}{e:Int}{k:Nat}{i:bK}{B B':BS}{s:PQ}{bl:List ax}(h:At_ m c P e k i B B' s)(hb:bl.map pr=P):
 ∃y:Int×RI,M.BD i m.jI m.aj m.bz c.Name c.Params c.gu c.Result c.Code bl s.nxt s.h s.kn s.op s.ba=some y/\(match LJ m c P i s with
  |.inl x=>y.1=x
  |.inr s'=>y=(0,stI m c bl s')):=by
 obtain⟨hi,hle⟩:=h.sin;obtain⟨hop,hA⟩:=h.op;have hbl:=ap9 h.ale;unfold M.BD;simp only[aCS,aCT];by_cases ht:i.Op=27\/i.Op=28
 ·have h0:=h.open_ ht;have qt:(i.Op==27||i.Op==28)=true:=by rw[CG,sD,sD];exact ht
  obtain⟨y,hy,hc⟩:=aHX (m:=m) (c:=c) hb hi h0 hbl i ht;rw[qt,bQ,hy];exact⟨y,rfl,hc⟩
 ·have qt:(i.Op==27||i.Op==28)=false:=by rw[agN,ne_eq,CG,sD,sD];exact ht
  have hcore:=h.mok.core c h.core;unfold LJ;rw[bu ht,qt,gG];by_cases hkn:s.kn=false
  ·rw[bI hkn,hkn];exact⟨_,rfl,rfl⟩
  ·have hkn':s.kn=true:=by simpa using hkn
   rw[bu hkn];simp only[aCO m c bl i s hcore.1 hcore.2.1 hop,jR,jY,pq,dY,bQ];rw[show(!s.kn)=false by rw[hkn'];rfl,gG];by_cases hth:zB m c i s=false
   ·rw[bI hth,hth];exact⟨_,rfl,rfl⟩
   ·have ayG:zB m c i s=true:=by simpa using hth
    rw[bu hth,ayG];have htk:=aqa h.mok i;have hst:=h.ale.h;simp only[Ad,gG,aCP m c bl i s hop hA ⟨fun q=>ht (.inl q),fun q=>ht (.inr q)⟩ ayG,aCQ s (by rw[hi.len];exact hi.six) m c bl,aBf h.pin hb hi i hA ayG,jR,jY,pq,dY,bQ];have w1:Go.IntKind.wrap .i64 (s.h-(gm m i).1)=s.h-(gm m i).1:=wrap_i64 (by omega) (by omega);have w2:Go.IntKind.wrap .i64 (s.h-(gm m i).1+(gm m i).2)=s.h-(gm m i).1+(gm m i).2:=wrap_i64 (by omega) (by omega);rw[w1,w2];by_cases hbs:s.h-(gm m i).1<kL s
    ·rw[bI hbs,ahb hbs];exact⟨_,rfl,rfl⟩
    ·rw[bu hbs,ajQ hbs,gG];by_cases h24:24<s.h-(gm m i).1+(gm m i).2
     ·rw[bI h24,ahb h24];exact⟨_,rfl,rfl⟩
     ·rw[bu h24,ajQ h24,gG];have hnb:0<=EK c P i s/\EK c P i s<=1:=by
       unfold EK
       repeat' split
       ·exact D8 _
       ·exact D8 _
       ·exact D8 _
       ·omega
      have w3:Go.IntKind.wrap .i64 (s.h-(gm m i).1+(gm m i).2-EK c P i s)=s.h-(gm m i).1+(gm m i).2-EK c P i s:=wrap_i64 (by omega) (by omega);rw[w3];by_cases hnd:s.h-(gm m i).1+(gm m i).2-EK c P i s<kL s
      ·rw[bI hnd,ahb hnd];exact⟨_,rfl,rfl⟩
      ·rw[bu hnd,ajQ hnd,gG];rw[show(i.Op==24||i.Op==25||i.Op==26)=Ij i.Op from rfl];have hk3:((i.Op !=29&&i.Op !=31)&&i.Op !=40)= !(i.Op==29||i.Op==31||i.Op==40):=by
        rw[uY,uY,uY];cases (i.Op==29)<;>cases (i.Op==31)<;>cases (i.Op==40)<;>rfl
       have h6:=hi.six;by_cases ho:Ij i.Op=true
       ·have hcnt:=h.aCV.cnt;have hnx:Go.IntKind.wrap .i64 (s.nxt+1)=s.nxt+1:=by
         rw[h.ale.nxt];have:=h.hk;have:=hcore.2.2;exact wrap_i64 (by omega) (by omega)
        have d1:decide (s.ba.length+1<=1073741824)=true:=by rw[jX,hi.len];omega
        have d2:decide (s.op.length+1<=1073741824)=true:=by rw[jX];omega
        simp only[ho,bQ,hnx,hk3,jA,qh,Ae,d1,d2,pq,Fh];exact⟨_,rfl,rfl⟩
       ·have ho':Ij i.Op=false:=by simpa using ho
        simp only[ho',gG,hk3,PN,Nl];exact⟨_,rfl,rfl⟩
end M
namespace M
open Go.V (inB yx az bU)
theorem wz:Go.IntKind.wrap .i64 (((0:Nat):Int)-1)= -1:=by rw[wrap_i64 (by omega) (by omega)];rfl
theorem wz2:Go.IntKind.wrap .i64 (-1)= -1:=wrap_i64 (by omega) (by omega)
theorem afw(c:aH)(hn:c.Code.length<=120):∀(f k:Nat)(s:BS),k<=c.Code.length->c.Code.length-k<f->BInv k s->
 M.mf c.Code (c.Code.length:Int) c f (k:Int) s.1 s.2=some (match CO 0 c.Code (c.Code.length-k) k s with
   |.inl p=>.inl (p.1,p.2,[])
   |.inr s'=>.inr (c,s'.1,s'.2))
 |0,k,s,h1,h2,_=>by omega
 |f+1,k,s,h1,h2,hI=>by
  rw[M.mf];rcases kF k c.Code.length with hk|hk
  ·obtain⟨r,hr⟩:∃r,c.Code.length-k=r+1:=⟨c.Code.length-k-1,by omega⟩;have hr':c.Code.length-(k+1)=r:=by omega
   have ih:=fun s' h=>afw c hn f (k+1) s' (by omega) (by omega) h
   rw[hr']at ih;rw[hr];simp only[CO];have hinv:=fun s' h=>NP (e:=0) (c:=c.Code) (i:=c.Code.getD k bK.zero) (s':=s') hI h
   have hw:Go.IntKind.wrap .i64 ((k:Int)+1)=((k+1:Nat):Int):=dB hk (by omega);have h6:=hI.six;have hcnt:=hI.cnt;simp only[kE,bn,gZ,hk,eG,bQ,jg,hw];generalize hi:c.Code.getD k bK.zero=i at hinv⊢;rw[show(i.Op==24||i.Op==25||i.Op==26)=Ij i.Op from rfl];by_cases ho:Ij i.Op=true
   ·rw[ho,bQ];by_cases hl:s.2.length=6
    ·have hb:iW 0 c.Code k i s=.inl 4:=by unfold iW;rw[bI ho,bI hl]
     rw[hb,hl];rfl
    ·have hb:iW 0 c.Code k i s=.inr (s.1++[ax.mk (k:Int) (-1) 0 0 (i.A==1)],s.2++[(s.1.length:Int)]):=by unfold iW;rw[bI ho,bu hl]
     have q:(((s.2.length:Nat):Int)==6)=false:=by rw[AP];omega
     have d1:decide (s.1.length+1<=1073741824)=true:=by rw[jX];omega
     have d2:decide (s.2.length+1<=1073741824)=true:=by rw[jX];omega
     have:=ih _ (hinv _ hb);simp only[q,gG,jA,qh,Ae,d1,d2,pq,bQ];rw[hb];exact this
   ·have ho':Ij i.Op=false:=by simpa using ho
    rw[ho',gG];by_cases h27:i.Op=27
    ·have b27:(i.Op==27)=true:=by rw[h27];rfl
     rw[b27,bQ];by_cases h0:s.2.length=0
     ·have hb:iW 0 c.Code k i s=.inl 5:=by unfold iW;rw[bu ho,bI h27,bI h0]
      rw[hb,h0];simp[wz2]
     ·have ht:=ai4 hI h0;have hat:=aou hI h0;have q:decide (((s.2.length-1:Nat):Int)<0)=false:=by rw[AO];omega
      have e1:=ht.2.symm;have hA:inB (iF s).At c.Code.length=true:=Ns ⟨hat.1,by omega⟩;have hS:s.2.length-1<s.2.length:=by omega
      simp only[J9 h0 h6,q,NT,kE,e1,bn,ht.1,hS,eG];rw[show List.getD s.1 (ace s) ax.zero=iF s from rfl,show(List.getD c.Code (Int.toNat (iF s).At) bK.zero).Op=opAt c.Code (iF s).At from rfl,hA];by_cases hc:opAt c.Code (iF s).At≠26\/0<=(iF s).Else
      ·have hb:iW 0 c.Code k i s=.inl 5:=by unfold iW;rw[bu ho,bI h27,bu h0,bI hc]
       have hq:((opAt c.Code (iF s).At !=26)||decide (0<=(iF s).Else))=true:=by rw[CG,Ti,jX];exact hc
       rw[hb,hq];simp
      ·have hb:iW 0 c.Code k i s=.inr (s.1.set (ace s) (ax.mk (iF s).At (k:Int) (iF s).End (iF s).Height (iF s).Result),s.2):=by unfold iW;rw[bu ho,bI h27,bu h0,bu hc]
       have hq:((opAt c.Code (iF s).At !=26)||decide (0<=(iF s).Else))=false:=by
        rw[agN,ne_eq,CG,Ti,jX];exact hc
       have:=ih _ (hinv _ hb);rw[hb,hq];simp only[gG,jc,pq,bQ];exact this
    ·have b27:(i.Op==27)=false:=by rw[AP];exact h27
     rw[b27,gG];by_cases h28:i.Op=28
     ·have b28:(i.Op==28)=true:=by rw[h28];rfl
      rw[b28,bQ];by_cases h0:s.2.length=0
      ·have hb:iW 0 c.Code k i s=.inl 5:=by unfold iW;rw[bu ho,bu h27,bI h28,bI h0]
       rw[hb,h0,wz];rfl
      ·have ht:=ai4 hI h0;have hat:=aou hI h0;have q:decide (((s.2.length-1:Nat):Int)<0)=false:=by rw[AO];omega
       have e1:=ht.2.symm;have hA:inB (iF s).At c.Code.length=true:=Ns ⟨hat.1,by omega⟩;have hS:s.2.length-1<s.2.length:=by omega
       have hsl:yx (0:Int) ((s.2.length-1:Nat):Int) s.2.length=true:=by unfold yx;simp
       simp only[J9 h0 h6,q,gG,kE,e1,bn,ht.1,hS,eG,hsl];rw[show List.getD s.1 (ace s) ax.zero=iF s from rfl,show(List.getD c.Code (Int.toNat (iF s).At) bK.zero).Op=opAt c.Code (iF s).At from rfl,hA];by_cases hc:(opAt c.Code (iF s).At=26/\(iF s).Result=true)/\(iF s).Else<0
       ·have hb:iW 0 c.Code k i s=.inl 7:=by unfold iW;rw[bu ho,bu h27,bI h28,bu h0,bI hc]
        have hq:(((opAt c.Code (iF s).At==26)&&(iF s).Result)&&decide ((iF s).Else<0))=true:=by rw[lS,lS,sD,jX];exact hc
        rw[hb,hq];rfl
       ·have hb:iW 0 c.Code k i s=.inr (s.1.set (ace s) (ax.mk (iF s).At (iF s).Else (k:Int) (iF s).Height (iF s).Result),s.2.take (s.2.length-1)):=by unfold iW;rw[bu ho,bu h27,bI h28,bu h0,bu hc]
        have hq:(((opAt c.Code (iF s).At==26)&&(iF s).Result)&&decide ((iF s).Else<0))=false:=by rw[agN,ne_eq,lS,lS,sD,jX];exact hc
        have:=ih _ (hinv _ hb);rw[hb,hq];simp only[gG,pq,bQ];exact this
     ·have b28:(i.Op==28)=false:=by rw[AP];exact h28
      have hb:iW 0 c.Code k i s=.inr s:=by unfold iW;rw[bu ho,bu h27,bu h28]
      have:=ih _ (hinv _ hb);rw[b28,gG,hb];exact this
  ·have:k=c.Code.length:=by omega
   subst this;simp[CO]
theorem aCX(c:aH)(hn:c.Code.length<=120):M.Po c=some (match Au 0 c with
 |.inl p=>([],p.1,p.2)
 |.inr b=>(b,0,0)):=by
 unfold M.Po Au;have e:=afw c hn az 0 ([],[]) (oG _) (by have:=bU;omega) atu;have e':M.mf c.Code (c.Code.length:Int) c az 0 [] []=_:=e;rw[e',Nat.sub_zero];cases h:CO 0 c.Code c.Code.length 0 ([],[])with
 |inl p=>rfl
 |inr s=>
  simp only;by_cases h0:s.2.length=0
  ·rw[bI h0,h0];rfl
  ·rw[bu h0];have:decide ((0:Int)<((s.2.length:Nat):Int))=true:=by rw[jX];omega
   rw[this];rfl
end M
namespace M
open Go.V (inB yx az bU)
theorem aE4(m:aK)(c:aH)(s:PQ)(bl:List ax)(h6:s.op.length<=6):M.zN m.jI m.aj m.bz c.Name c.Params c.gu c.Result c.Code bl s.nxt s.h s.kn s.op s.ba=some ((PR s).aCY,(PR s).Height,m.jI,m.aj,m.bz,c.Name,c.Params,c.gu,c.Result,c.Code,bl,s.nxt,s.h,s.kn,(PR s).ayH,s.op,s.ba):=by
 have hown:M.iC s.op=some s.op:=by
  unfold M.iC;rw[show decide (s.op.length<=1099511627776)=true by rw[jX];omega];rfl
 unfold M.zN PR;rw[hown];obtain⟨nxt,op,ba,ht,kn⟩:=s;cases kn<;>rfl
theorem aBm(p:bV):bV.mk p.aCY p.Height p.ayH=p:=rfl
theorem amD{m:aK}{c:aH}{P:List (Int×Bool)}{Bf:BS}{e:Int}(hf:aBk m c P Bf){bl:List ax}(hbl:bl.map pr=P):∀(f k:Nat)(B:BS)(s:PQ)(out:List bV),k<=c.Code.length->c.Code.length-k<f->BInv k B->aw0 B s->CO e c.Code (c.Code.length-k) k B=.inr Bf->out.length=k->
 M.vW bl c.Code (c.Code.length:Int) c f (k:Int) m.jI m.aj m.bz c.Name c.Params c.gu c.Result c.Code bl s.nxt s.h s.kn out s.op s.ba=some (match ald m c P (c.Code.length-k) k s out with
   |.inl p=>.inl (p.1,p.2,[],[])
   |.inr p=>.inr (bl,c,m.jI,m.aj,m.bz,c.Name,c.Params,c.gu,c.Result,c.Code,bl,p.1.nxt,p.1.h,p.1.kn,p.2,p.1.op,p.1.ba))
 |0,k,B,s,out,h1,h2,_,_,_,_=>by omega
 |f+1,k,B,s,out,h1,h2,hB,hs,hb,hl=>by
  have hn:=(hf.mok.core c hf.core).2.2;rcases kF k c.Code.length with hk|hk
  ·obtain⟨r,hrn⟩:∃r,c.Code.length-k=r+1:=⟨c.Code.length-k-1,by omega⟩;have hr':c.Code.length-(k+1)=r:=by omega
   rw[hrn]at hb⊢;simp only[CO]at hb;cases hx:iW e c.Code k (c.Code.getD k bK.zero) B with
   |inl x=>rw[hx]at hb;cases hb
   |inr B'=>
    rw[hx]at hb;simp only at hb;have hat:=hf.at_ hk hB hs hx hb;obtain⟨y,hy,hc⟩:=aHY hat hbl;have h6:s.op.length<=6:=by rw[hs.op];exact hB.six
    rw[M.vW];have hw:Go.IntKind.wrap .i64 ((k:Int)+1)=((k+1:Nat):Int):=dB hk (by omega);have hd:decide (out.length+([PR s]:List bV).length<=1073741824)=true:=by rw[jX,hl,jA,qh];omega
    simp only[gZ,hk,eG,bQ,aE4 m c s bl h6,jR,aBm,stI,kE,hy,bn,jY,jg,pq,hd,hw,ald];cases hcs:LJ m c P (c.Code.getD k bK.zero) s with
    |inl x=>
     rw[hcs]at hc;simp only at hc;have:(y.1 !=0)=true:=by rw[Ti,hc];exact atx hcs
     rw[this,hc];rfl
    |inr s'=>
     rw[hcs]at hc;simp only at hc;subst hc;have hz:(((0:Int) !=0))=false:=by decide
     have ho2:=amD hf hbl f (k+1) B' s' (out++[PR s]) (by omega) (by omega) (NP hB hx) (atv hf.mok hs hx hcs) (by rw[hr'];exact hb) (by rw[zH,hl];rfl);rw[hr']at ho2;simp only[hz,gG,stI];exact ho2
  ·have:k=c.Code.length:=by omega
   subst this;rw[M.vW];simp[ald]
theorem aBn{m:aK}(hm:MOk m){k:Nat}(hk:k<m.bz.length):M.Ui m (k:Int)=some ((LK m m.bz[k]).2.1,(LK m m.bz[k]).2.2,(LK m m.bz[k]).1):=by
 have hmem:=gp hk;have hn:=(hm.core _ hmem).2.2;unfold M.Ui LK pbl;simp only[kE,getD_lt hk,bn,hk,eG,jg,pq];generalize hc:m.bz[k]=c at hn hmem⊢;rw[aCX c hn];have hb:∀p,Au 0 c=.inl p->p.2≠0:=fun p h=>by
  unfold Au at h;cases hx:CO 0 c.Code c.Code.length 0 ([],[])with
  |inl q=>rw[hx]at h;injection h with h;subst h;exact aqd _ _ _ _ hx
  |inr q=>
   rw[hx]at h;simp only at h;split at h
   ·cases h
   ·injection h with h;subst h;show(5:Int)≠0
    decide
 cases hbl:Au 0 c with
 |inl p=>
  have:(p.2 !=0)=true:=by rw[Ti];exact hb p hbl
  simp only[jR,jY,ai3,this,bQ]
  first|done|rfl
 |inr b=>
  obtain⟨Bf,hrun,hbf⟩:∃Bf:BS,CO 0 c.Code c.Code.length 0 ([],[])=.inr Bf/\Bf.1=b:=by
   unfold Au at hbl;cases hx:CO 0 c.Code c.Code.length 0 ([],[])with
   |inl q=>rw[hx]at hbl;cases hbl
   |inr q=>
    rw[hx]at hbl;simp only at hbl;split at hbl
    ·injection hbl with hbl;exact⟨q,rfl,hbl⟩
    ·cases hbl
  have hinv:=(ai5 c.Code.length 0 ([],[]) Bf atu hrun).2;rw[Ae]at hinv;have hf:aBk m c (b.map pr) Bf:=⟨hm,hmem,by rw[<-hbf];rfl,hinv⟩;have ho:=amD (e:=0) hf (bl:=b) rfl az 0 ([],[]) s0 [] (oG _) (by have:=bU;omega) atu aG6 (by rw[Nat.sub_zero];exact hrun) rfl;have ho':M.vW b c.Code (c.Code.length:Int) c az 0 m.jI m.aj m.bz c.Name c.Params c.gu c.Result c.Code b 0 0 true [] [] []=_:=ho;rw[Nat.sub_zero]at ho';have hz:((0:Int) !=0)=false:=by decide
  simp only[jR,jY,ai3,hz,gG,ho'];cases hcr:ald m c (b.map pr) c.Code.length 0 s0 []with
  |inl p=>rfl
  |inr p=>
   have hlen:=aqe _ _ _ _ _ hcr;simp only[az3,jR,jY,jc,pq,jg,bQ];have hd:decide (p.2.length+([bV.mk true (yA c.Result) []]:List bV).length<=1073741824)=true:=by
    rw[jX,hlen];simp only[jA,qh];omega
   by_cases hq:p.1.kn=true/\p.1.h≠yA c.Result
   ·have q:(p.1.kn&&(p.1.h !=yA c.Result))=true:=by rw[lS,Ti];exact hq
    rw[bI hq,q];rfl
   ·have q:(p.1.kn&&(p.1.h !=yA c.Result))=false:=by rw[agN,ne_eq,lS,Ti];exact hq
    rw[bu hq,q,hd];rfl
end M
namespace M
open Go.V (inB yx az bU)
def chB(c:UInt8):Bool:=((((decide ((97:Int)<=((c.toNat:Nat):Int))&&decide (((c.toNat:Nat):Int)<=122))||(decide ((48:Int)<=((c.toNat:Nat):Int))&&decide (((c.toNat:Nat):Int)<=57)))||(((c.toNat:Nat):Int)==45))||(((c.toNat:Nat):Int)==46))||(((c.toNat:Nat):Int)==47)
def wOk(s:List UInt8):Bool:=s.all chB&&(decide (1<=s.length)&&decide (s.length<=40))
theorem aJ8(c:UInt8):decide (M.ai1 [(45:UInt8),(46:UInt8),(47:UInt8)] ((c.toNat:Nat):Int)<0)= !(((((c.toNat:Nat):Int)==45)||(((c.toNat:Nat):Int)==46))||(((c.toNat:Nat):Int)==47)):=by
 have e:((c.toNat:Nat):Int).toNat.toUInt8=c:=by rw[kE];exact UInt8.ofNat_toNat
 unfold M.ai1;rw[e];have h:∀(n:UInt8),(n==c)=(((c.toNat:Nat):Int)==((n.toNat:Nat):Int)):=fun n=>by
  rw[KA,sD,sD];constructor
  ·rintro rfl;rfl
  ·intro h;exact UInt8.toNat_inj.1 (by omega)
 unfold Go.Lib.indexByte Go.Lib.indexByte Go.Lib.indexByte Go.Lib.indexByte;rw[h 45,h 46,h 47];have n1:(((45:UInt8).toNat:Nat):Int)=45:=rfl;have n2:(((46:UInt8).toNat:Nat):Int)=46:=rfl;have n3:(((47:UInt8).toNat:Nat):Int)=47:=rfl;rw[n1,n2,n3];cases (((c.toNat:Nat):Int)==45)<;>cases (((c.toNat:Nat):Int)==46)<;>cases (((c.toNat:Nat):Int)==47)<;>rfl
theorem aG7(s:List UInt8):(decide ((1:Int)<=((s.length:Nat):Int))&&decide (((s.length:Nat):Int)<=40))=(decide (1<=s.length)&&decide (s.length<=40)):=by
 congr 1<;>simp only[EZ]<;>omega
theorem aCZ(s:List UInt8)(h:s.length<=1048576):M.H8 s=some (wOk s):=by
 have e:=AQ (p:=chB) (F:=M.zl s) (e:=s) (b:=false) s (by omega) (fun f k hk=>by
  rw[M.zl];simp only[getD_lt hk,kE,bn,gZ,hk,eG,bQ,jg,dB hk (by omega:s.length<2^62)];rw[show chB s[k]=(((((decide ((97:Int)<=((s[k].toNat:Nat):Int))&&decide (((s[k].toNat:Nat):Int)<=122))||(decide ((48:Int)<=((s[k].toNat:Nat):Int))&&decide (((s[k].toNat:Nat):Int)<=57)))||(((s[k].toNat:Nat):Int)==45))||(((s[k].toNat:Nat):Int)==46))||(((s[k].toNat:Nat):Int)==47))from rfl];generalize (((((decide ((97:Int)<=((s[k].toNat:Nat):Int))&&decide (((s[k].toNat:Nat):Int)<=122))||(decide ((48:Int)<=((s[k].toNat:Nat):Int))&&decide (((s[k].toNat:Nat):Int)<=57)))||(((s[k].toNat:Nat):Int)==45))||(((s[k].toNat:Nat):Int)==46))||(((s[k].toNat:Nat):Int)==47))=b;cases b<;>rfl) (fun f=>by rw[M.zl];simp)
 unfold M.H8 wOk;rw[e];cases s.all chB
 ·rfl
 ·rw[bI rfl];simp only[aG7,dY]
theorem aH0(s:List UInt8)(h:s.length<=1048576):M.aaf s=some (wOk s):=by
 have e:=AQ (p:=chB) (F:=M.Bj s (s.length:Int)) (e:=s) (b:=false) s (by omega) (fun f k hk=>by
  rw[M.Bj];simp only[getD_lt hk,kE,bn,gZ,hk,eG,bQ,jg,jc,dB hk (by omega:s.length<2^62),aJ8];unfold chB;generalize (decide ((97:Int)<=((s[k].toNat:Nat):Int))&&decide (((s[k].toNat:Nat):Int)<=122))=b1;generalize (decide ((48:Int)<=((s[k].toNat:Nat):Int))&&decide (((s[k].toNat:Nat):Int)<=57))=b2;cases b1<;>cases b2<;>cases (((s[k].toNat:Nat):Int)==45)<;>cases (((s[k].toNat:Nat):Int)==46)<;>cases (((s[k].toNat:Nat):Int)==47)<;>rfl) (fun f=>by rw[M.Bj];simp)
 unfold M.aaf wOk;rw[e];cases s.all chB
 ·rfl
 ·rw[bI rfl];simp only[aG7,dY]
theorem aJr{b c:Bool}:(bif b then b else c)=(b||c):=by cases b<;>rfl
theorem ai6(op:Int):∃y,M.JE op=some y/\(op≠1->0<=y.1/\y.2.1<=4096):=by
 unfold M.JE;simp only[aJr];simp only[aJs];by_cases h1:(op==1)=true
 ·rw[bI h1];exact⟨_,rfl,fun h=>absurd (by simpa using h1) h⟩
 rw[bu h1]
 repeat' split
 all_goals
  refine⟨_,rfl,fun _=>?_⟩;constructor<;>simp
noncomputable def agO(i:bK):Bool:=(M.QB i).getD false
theorem aG8(i:bK):M.QB i=some (agO i)/\M.ahz i=some (agO i):=by
 obtain⟨y,hy,-⟩:=ai6 i.Op;have e:M.QB i=some (agO i):=by
  unfold agO M.QB;rw[hy];rfl
 exact⟨e,e⟩
theorem aE5{i:bK}(h:agO i=true):(1<=i.Op/\i.Op<=40)/\(i.Op≠1->0<=i.A/\i.A<=16777216):=by
 obtain⟨y,hy,hb⟩:=ai6 i.Op;unfold agO M.QB at h;rw[hy]at h;simp only[jY,jR,pq,bQ,lS,jX]at h;refine⟨h.1,fun h1=>?_⟩;have:=hb h1;omega
noncomputable def cOk(c:aH):Bool:=(((decide ((0:Int)<=c.Params)&&decide (c.Params<=8))&&(decide ((0:Int)<=c.gu)&&decide (c.gu<=8)))&&decide (c.Code.length<=120))&&c.Code.all agO
theorem aH1(c:aH)(h:c.Code.length<=1048576):M.ZZ c=some (cOk c):=by
 have e:=iL (p:=fun i=> !agO i) (F:=M.ig c.Code (c.Code.length:Int)) (e:=()) (fun k=>k) c.Code (by omega) (fun f k hk=>by
  rw[M.ig];have ec:M.JF c.Code[k]=some (!agO c.Code[k]):=by unfold M.JF;rw[(aG8 _).1];rfl
  simp only[getD_lt hk,ec,kE,bn,gZ,hk,eG,bQ,dY,jg,dB hk (by omega:c.Code.length<2^62),jR,jY]) (fun f=>by
  rw[M.ig];simp)
 have e2:M.jM c.Code=some (!c.Code.all agO):=by
  unfold M.jM M.oL;rw[e,aym,jJ];cases c.Code.findIdx? (fun i=> !agO i)<;>simp
 have e3:decide (((c.Code.length:Nat):Int)<=120)=decide (c.Code.length<=120):=by simp only[EZ];omega
 unfold M.ZZ cOk;rw[e2,e3];simp only[jY,jR,jc,pq,bQ,aqc]
theorem aH2(c:aH)(h:c.Code.length<=1048576)(hn:c.Name.length<=1048576):M.TJ c=some (wOk c.Name&&cOk c):=by
 have e:=AQ (p:=agO) (F:=M.zg c) (e:=()) (b:=false) c.Code (by omega) (fun f k hk=>by
  rw[M.zg];simp only[getD_lt hk,(aG8 _).2,kE,bn,gZ,hk,eG,bQ,dY,jg,dB hk (by omega:c.Code.length<2^62),jR,jY];cases agO c.Code[k]<;>rfl) (fun f=>by rw[M.zg];simp)
 have e3:decide ((120:Int)<((c.Code.length:Nat):Int))= !decide (c.Code.length<=120):=by rw[<-alL];simp only[EZ];omega
 unfold M.TJ cOk;rw[aCZ c.Name hn,e,e3];simp only[jY,jR,pq,bQ];generalize (decide ((0:Int)<=c.Params)&&decide (c.Params<=8))=b1;generalize (decide ((0:Int)<=c.gu)&&decide (c.gu<=8))=b2;generalize decide (c.Code.length<=120)=b3;cases wOk c.Name<;>cases b1<;>cases b2<;>cases b3<;>cases c.Code.all agO<;>rfl
def avg(x:aB):Bool:=decide ((0:Int)<=x.Params)&&decide (x.Params<=8)
def ajN(l:List (List UInt8)):Bool:=nodupB l&&l.all wOk
noncomputable def YC(m:aK):Bool:=(((decide ((1:Int)<=m.jI)&&decide (m.jI<=16))&&decide (m.aj.length<=12))&&decide (m.bz.length<=8))&&((m.aj.all avg&&m.bz.all cOk)&&(ajN (m.aj.map aB.Name)&&ajN (m.bz.map aH.Name)))
theorem aG9(n:Nat):decide ((12:Int)<((n:Nat):Int))= !decide (n<=12):=by rw[<-alL];simp only[EZ];omega
theorem len8(n:Nat):decide ((8:Int)<((n:Nat):Int))= !decide (n<=8):=by rw[<-alL];simp only[EZ];omega
theorem aC0(l:List aB)(name:List UInt8)(h:l.length<=1048576):∃y,M.Dk l name=some y/\decide ((0:Int)<=y)=l.any fun x=>x.Name==name:=by
 have e:=iL (p:=fun x:aB=>x.Name==name) (F:=M.nY l name) (e:=()) (fun k=>k) l (by omega) (fun f k hk=>by
  rw[M.nY];simp only[getD_lt hk,kE,bn,gZ,hk,eG,bQ,jg,dB hk (by omega:l.length<2^62)]) (fun f=>by rw[M.nY];simp)
 unfold M.Dk;rw[e,jJ];cases l.findIdx? (fun x:aB=>x.Name==name)with
 |none=>exact⟨_,rfl,rfl⟩
 |some k=>exact⟨_,rfl,by simp⟩
theorem aH3(l:List aH)(name:List UInt8)(h:l.length<=1048576):∃y,M.JB l name=some y/\decide ((0:Int)<=y)=l.any fun x=>x.Name==name:=by
 have e:=iL (p:=fun x:aH=>x.Name==name) (F:=M.tV l name) (e:=()) (fun k=>k) l (by omega) (fun f k hk=>by
  rw[M.tV];simp only[getD_lt hk,kE,bn,gZ,hk,eG,bQ,jg,dB hk (by omega:l.length<2^62)]) (fun f=>by rw[M.tV];simp)
 unfold M.JB;rw[e,jJ];cases l.findIdx? (fun x:aH=>x.Name==name)with
 |none=>exact⟨_,rfl,rfl⟩
 |some k=>exact⟨_,rfl,by simp⟩
theorem aJt{i n:Nat}(h:i<=n):yx (0:Int) (i:Int) n=true:=by unfold yx;simp;omega
theorem aBp(m:aK)(h:m.sz<=1048576):M.Om m=some (YC m):=by
 rw[aK.dN]at h;have hi:m.aj.length<=1048576:=lH (dh aB.sz _) (by omega);have hc:m.bz.length<=1048576:=lH (dh aH.sz _) (by omega);have e0:=xG (p:=fun i=>(wOk (m.aj.getD i aB.zero).Name&&avg (m.aj.getD i aB.zero))&& !((m.aj.take i).any fun x=>x.Name==(m.aj.getD i aB.zero).Name)) (F:=M.wL m) (e:=m) (b:=false) m.aj.length (by omega) (fun f k hk=>by
  rw[M.wL];have hsz:=eY aB.sz _ _ (gp hk);have hn:m.aj[k].Name.length<=1048576:=by rw[aB.dN]at hsz;omega
  obtain⟨y,hy,hy2⟩:=aC0 (m.aj.take k) m.aj[k].Name (by rw[VB];omega);have hd:∀l:List aB,List.drop (Int.toNat (0:Int)) l=l:=fun l=>rfl
  simp only[getD_lt hk,kE,bn,gZ,hk,eG,bQ,jg,dY,hd,hy,hy2,aCZ _ hn,jR,jY,jc,aJt (amz hk),dB hk (by omega:m.aj.length<2^62)];rw[show avg m.aj[k]=(decide ((0:Int)<=m.aj[k].Params)&&decide (m.aj[k].Params<=8))from rfl];generalize (decide ((0:Int)<=m.aj[k].Params)&&decide (m.aj[k].Params<=8))=b1;generalize ((m.aj.take k).any fun x=>x.Name==m.aj[k].Name)=b2;cases wOk m.aj[k].Name<;>cases b1<;>cases b2<;>rfl) (fun f=>by rw[M.wL];simp)
 have e1:=xG (p:=fun i=>(wOk (m.bz.getD i aH.zero).Name&&cOk (m.bz.getD i aH.zero))&& !((m.bz.take i).any fun x=>x.Name==(m.bz.getD i aH.zero).Name)) (F:=M.wM m) (e:=()) (b:=false) m.bz.length (by omega) (fun f k hk=>by
  rw[M.wM];have hsz:=eY aH.sz _ _ (gp hk);have hn:m.bz[k].Name.length<=1048576/\m.bz[k].Code.length<=1048576:=by
   rw[aH.dN]at hsz;have:=dh bK.sz m.bz[k].Code;omega
  obtain⟨y,hy,hy2⟩:=aH3 (m.bz.take k) m.bz[k].Name (by rw[VB];omega);have hd:∀l:List aH,List.drop (Int.toNat (0:Int)) l=l:=fun l=>rfl
  simp only[getD_lt hk,kE,bn,gZ,hk,eG,bQ,jg,dY,hd,hy,hy2,aH2 _ hn.2 hn.1,jR,jY,jc,aJt (amz hk),dB hk (by omega:m.bz.length<2^62)];generalize ((m.bz.take k).any fun x=>x.Name==m.bz[k].Name)=b2;cases wOk m.bz[k].Name<;>cases cOk m.bz[k]<;>cases b2<;>rfl) (fun f=>by rw[M.wM];simp)
 rw[ai7,aqg aB.Name,aqh (fun x:aB=>wOk x.Name&&avg x),ai7]at e0;rw[ai7,aqg aH.Name,aqh (fun x:aH=>wOk x.Name&&cOk x),ai7]at e1;have w1:(m.aj.map aB.Name).all wOk=m.aj.all fun x=>wOk x.Name:=by rw[azG];rfl
 have w2:(m.bz.map aH.Name).all wOk=m.bz.all fun x=>wOk x.Name:=by rw[azG];rfl
 unfold M.Om YC ajN;rw[aG9,len8,e0,w1,w2];generalize (decide ((1:Int)<=m.jI)&&decide (m.jI<=16))=b0;generalize decide (m.aj.length<=12)=b1;generalize decide (m.bz.length<=8)=b2;generalize (m.aj.all fun x=>wOk x.Name)=b3;generalize m.aj.all avg=b4;generalize nodupB (m.aj.map aB.Name)=b5;generalize (m.bz.all fun x=>wOk x.Name)=b6 at e1⊢;generalize m.bz.all cOk=b7 at e1⊢;generalize nodupB (m.bz.map aH.Name)=b8 at e1⊢;cases b0
 ·rfl
 cases b1
 ·rfl
 cases b2
 ·rfl
 cases b3<;>cases b4<;>cases b5
 all_goals first
  |(cases b6<;>cases b7<;>cases b8<;>rfl)
  |(simp only[pq,Fh,Ad,apW,gG,dY,e1]
    cases b6<;>cases b7<;>cases b8<;>rfl)
end M
namespace M
open Go.V (inB yx az bU)
theorem az5(l:List (List UInt8))(hl:l.length<=1048576)(h:∀x∈l,x.length<=1048576):M.NJ l=some (ajN l):=by
 have e:=iL (p:=fun s=> !wOk s) (F:=M.fC l (l.length:Int)) (e:=()) (fun k=>k) l (by omega) (fun f k hk=>by
  rw[M.fC];have ec:M.FW l[k]=some (!wOk l[k]):=by unfold M.FW;rw[aH0 _ (h _ (gp hk))];rfl
  simp only[getD_lt hk,ec,kE,bn,gZ,hk,eG,bQ,dY,jg,dB hk (by omega:l.length<2^62),jR,jY]) (fun f=>by
  rw[M.fC];simp)
 have e2:M.iy l=some (!l.all wOk):=by
  unfold M.iy M.jO;rw[e,aym,jJ];cases l.findIdx? (fun i=> !wOk i)<;>simp
 unfold M.NJ ajN;rw[e2,IB l hl];simp only[jY,jR,jc,pq,bQ,aqc]
theorem az6{α:Type}(nm:α->List UInt8)(l:List α)(k:Nat)(hk:k<l.length):(l.take k).map nm++[nm l[k]]=(l.take (k+1)).map nm:=by
 rw[ajP,auj,wH hk];rfl
theorem ajO(m:aK)(h:m.sz<=1048576):M.oM m=some (YC m):=by
 rw[aK.dN]at h;have hi:m.aj.length<=1048576:=lH (dh aB.sz _) (by omega);have hc:m.bz.length<=1048576:=lH (dh aH.sz _) (by omega);have k0:∀g k,k<=m.aj.length->m.aj.length-k<g->M.lK m.aj (m.aj.length:Int) m [] g (k:Int) ((m.aj.take k).map aB.Name)=some (if(m.aj.drop k).all avg then .inr (m,m.aj.map aB.Name,[])else .inl false):=by
  intro g
  induction g with
  |zero=>intro k h1 h2;omega
  |succ g ih=>
   intro k h1 h2;rcases kF k m.aj.length with hk|hk
   ·rw[M.lK];have hd:decide ((((m.aj.take k).map aB.Name).length+([m.aj[k].Name]:List (List UInt8)).length)<=1073741824)=true:=by
     simp only[jX,xE,VB,jA,qh];omega
    simp only[getD_lt hk,kE,bn,gZ,hk,eG,bQ,dY,jg,dB hk (by omega:m.aj.length<2^62),hd,az6 aB.Name _ k hk];rw[ih (k+1) (by omega) (by omega),jb hk,P8];rw[show avg m.aj[k]=(decide ((0:Int)<=m.aj[k].Params)&&decide (m.aj[k].Params<=8))from rfl];cases (decide ((0:Int)<=m.aj[k].Params)&&decide (m.aj[k].Params<=8))<;>simp
   ·have:k=m.aj.length:=by omega
    subst this;rw[M.lK];simp
 have k1:∀g k,k<=m.bz.length->m.bz.length-k<g->M.lL m.bz (m.bz.length:Int) (m.aj.map aB.Name) g (k:Int) ((m.bz.take k).map aH.Name)=some (if(m.bz.drop k).all cOk then .inr (m.aj.map aB.Name,m.bz.map aH.Name)else .inl false):=by
  intro g
  induction g with
  |zero=>intro k h1 h2;omega
  |succ g ih=>
   intro k h1 h2;rcases kF k m.bz.length with hk|hk
   ·rw[M.lL];have hsz:=eY aH.sz _ _ (gp hk);have hn:m.bz[k].Code.length<=1048576:=by
     rw[aH.dN]at hsz;have:=dh bK.sz m.bz[k].Code;omega
    have hd:decide ((((m.bz.take k).map aH.Name).length+([m.bz[k].Name]:List (List UInt8)).length)<=1073741824)=true:=by
     simp only[jX,xE,VB,jA,qh];omega
    simp only[getD_lt hk,aH1 _ hn,jR,jY,kE,bn,gZ,hk,eG,bQ,dY,jg,dB hk (by omega:m.bz.length<2^62),hd,az6 aH.Name _ k hk];rw[ih (k+1) (by omega) (by omega),jb hk,P8];cases cOk m.bz[k]<;>simp
   ·have:k=m.bz.length:=by omega
    subst this;rw[M.lL];simp
 have e0:=k0 az 0 (oG _) (by have:=bU;omega);have e0':M.lK m.aj (m.aj.length:Int) m [] az 0 []=_:=e0;have e1:=k1 az 0 (oG _) (by have:=bU;omega);have e1':M.lL m.bz (m.bz.length:Int) (m.aj.map aB.Name) az 0 []=_:=e1;rw[Nk]at e0' e1';have n0:∀x∈m.aj.map aB.Name,x.length<=1048576:=fun x hx=>by
  obtain⟨y,hy,rfl⟩:=ajM.1 hx;have:=eY aB.sz _ _ hy;rw[aB.dN]at this;omega
 have n1:∀x∈m.bz.map aH.Name,x.length<=1048576:=fun x hx=>by
  obtain⟨y,hy,rfl⟩:=ajM.1 hx;have:=eY aH.sz _ _ hy;rw[aH.dN]at this;omega
 unfold M.oM YC;rw[aG9,len8,e0'];generalize (decide ((1:Int)<=m.jI)&&decide (m.jI<=16))=b0;generalize decide (m.aj.length<=12)=b1;generalize decide (m.bz.length<=8)=b2;cases b0
 ·rfl
 cases b1
 ·rfl
 cases b2
 ·rfl
 cases m.aj.all avg
 ·rfl
 ·simp only[Fh,Ad,apW,gG,e1'];cases m.bz.all cOk
  ·rfl
  ·simp only[Fh,az5 _ (by rw[xE];exact hi) n0,az5 _ (by rw[xE];exact hc) n1,jR,jY,jc,pq,bQ,dY]
theorem aC1{m:aK}(h:YC m=true):MOk m:=by
 unfold YC at h;simp only[lS,jX,zG]at h;obtain⟨⟨⟨-,hi⟩,hc⟩,⟨h1,h2⟩,-⟩:=h;have hcore:∀x∈m.bz,((0<=x.Params/\x.Params<=8)/\(0<=x.gu/\x.gu<=8)/\x.Code.length<=120)/\∀i∈x.Code,agO i=true:=fun x hx=>by
  have:=h2 x hx;unfold cOk at this;simp only[lS,jX,zG]at this;exact⟨⟨this.1.1.1,this.1.1.2,this.1.2⟩,this.2⟩
 refine⟨hc,hi,fun x hx=>?_,fun x hx=>(hcore x hx).1,fun x hx i hi'=>aE5 ((hcore x hx).2 i hi')⟩;have:=h1 x hx;unfold avg at this;simpa using this
end M
namespace M
open Go.V (inB yx az bU)
def aE6(m:aK):Int×Int×Int:=
 match m.bz.findIdx? (fun c=>(LK m c).2.2 !=0)with
 |some k=>((k:Int),(LK m (m.bz.getD k aH.zero)).2)
 |none=>(0,0,0)
def gOf(m:aK)(x:Int):Int×Int×Int:=(x,(LK m (m.bz.getD x.toNat aH.zero)).2)
theorem aow(m:aK)(k:Nat):gOf m (k:Int)=((k:Int),(LK m (m.bz.getD k aH.zero)).2):=by
 unfold gOf;rw[kE]
theorem aC2{m:aK}(hm:MOk m):M.pJ m az 0=some (match m.bz.findIdx? (fun c=>(LK m c).2.2 !=0)with
 |some k=>.inl (gOf m (k:Int))
 |none=>.inr ()):=
 iL (p:=fun c=>(LK m c).2.2 !=0) (F:=M.pJ m) (e:=()) (gOf m) m.bz (by have:=hm.acb;omega) (fun f k hk=>by
  rw[M.pJ,aow];have:=hm.acb;simp only[aBl hm hk,getD_lt hk,gZ,hk,eG,bQ,jR,jY,pq,dB hk (by omega:m.bz.length<2^62)]) (fun f=>by rw[M.pJ];simp)
theorem aC3{m:aK}(hm:MOk m):M.lM (m.bz.length:Int) m az 0=some (match m.bz.findIdx? (fun c=>(LK m c).2.2 !=0)with
 |some k=>.inl (gOf m (k:Int))
 |none=>.inr ()):=
 iL (p:=fun c=>(LK m c).2.2 !=0) (F:=M.lM (m.bz.length:Int) m) (e:=()) (gOf m) m.bz (by have:=hm.acb;omega) (fun f k hk=>by
  rw[M.lM,aow];have:=hm.acb;have hb:=aBn hm hk;simp only[hb,getD_lt hk,gZ,hk,eG,bQ,jR,jY,pq,dB hk (by omega:m.bz.length<2^62)]) (fun f=>by rw[M.lM];simp)
noncomputable def avY(m:aK):Int×Int×Int:=if YC m=true then aE6 m else(0,0,1)
theorem aJu(m:aK)(h:m.sz<=1048576):M.JC m=some (avY m):=by
 unfold M.JC avY;rw[aBp m h];simp only[jR,jY,pq,bQ];cases hb:YC m
 ·rfl
 ·rw[bI rfl,aC2 (aC1 hb)];unfold aE6;cases m.bz.findIdx? (fun c=>(LK m c).2.2 !=0)with
  |none=>rfl
  |some k=>simp only[Ad,gG,aow]
theorem aE7(m:aK)(h:m.sz<=1048576):M.Dq m=some (avY m):=by
 unfold M.Dq avY;rw[ajO m h];simp only[jR,jY,pq,bQ,jg];cases hb:YC m
 ·rfl
 ·have e:M.Dp m=some (aE6 m):=by
   unfold M.Dp aE6;rw[aC3 (aC1 hb)];cases m.bz.findIdx? (fun c=>(LK m c).2.2 !=0)with
   |none=>rfl
   |some k=>simp only[aow]
  rw[bI rfl,e];rfl
theorem aIK(m:aK)(h:m.sz<=1048576):M.Oq m=some ((avY m).2.2==0):=by
 unfold M.Oq M.V6;rw[aJu m h];rfl
theorem aIL(m:aK)(h:m.sz<=1048576):M.OI m=some ((avY m).2.2==0):=by
 unfold M.OI;rw[aE7 m h];rfl
end M
