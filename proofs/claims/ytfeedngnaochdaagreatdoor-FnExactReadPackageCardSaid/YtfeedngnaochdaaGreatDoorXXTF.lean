/-
  NAMES AND TYPES: what is right, in plain Lean.
-/
import Derived.Test.YtfeedngnaochdaaGreatDoorXXplA
import Derived.Test.YtfeedngnaochdaaGreatDoorXZ2M
import Derived.Test.YtfeedngnaochdaaGreatDoorXVER
set_option linter.unusedVariables false
namespace M
open Go.V (inB bT ai bB)
def pz(c:UInt8):Bool:=decide ((97:Int)<=((c.toNat:Nat):Int))&&decide (((c.toNat:Nat):Int)<=122)
def Ha(c:UInt8):Bool:=decide ((48:Int)<=((c.toNat:Nat):Int))&&decide (((c.toNat:Nat):Int)<=57)
def qT(c:UInt8):Bool:=((c.toNat:Nat):Int)==45
def pA(s:List UInt8)(k:Nat):Bool:=pz (s.getD k 0)||(decide (0<k)&&((Ha (s.getD k 0)||qT (s.getD k 0))&& !(qT (s.getD k 0)&&qT (s.getD (k-1) 0))))
def kH(s:List UInt8):Bool:=(List.range s.length).all (pA s)&&((decide (1<=s.length)&&decide (s.length<=12))&& !qT (s.getD (s.length-1) 0))
def ahz(l:List (List UInt8)):Bool:=(decide (1<=l.length)&&decide (l.length<=16))&&(nodupB l&&l.all kH)
end M
set_option linter.unusedSimpArgs false
namespace M
open Go.V (inB bT ai bB)
theorem BB{k n:Nat}(h0:0<k)(h:k<=n)(hn:n<2^62):Go.IntKind.wrap .i64 ((k:Int)-1)=((k-1:Nat):Int):=by
 rw[wrap_i64 (by omega) (by omega)];omega
theorem LY(s:List UInt8)(hs:s.length<=1048576):M.tq s=some (kH s):=by
 unfold M.tq;rw[Nl (p:=pA s) (F:=M.qU s (s.length:Int)) (e:=s) (b:=false) s.length (by omega) (fun f k hk=>by
  rw[M.qU];simp only[cH,dK,kY,hk,gW,af,bP,bc,cO,dB hk (fc hs),pA,pz,Ha,qT,He];generalize decide ((97:Int)<=(((s.getD k 0).toNat:Nat):Int))=a1;generalize decide ((((s.getD k 0).toNat:Nat):Int)<=122)=a2;generalize decide ((48:Int)<=(((s.getD k 0).toNat:Nat):Int))=a3;generalize decide ((((s.getD k 0).toNat:Nat):Int)<=57)=a4;generalize ((((s.getD k 0).toNat:Nat):Int)==45)=a5;rcases jP k with h0|h0
  ·subst h0;cases a1<;>cases a2<;>cases a3<;>cases a4<;>cases a5<;>simp
  ·have e0:((k:Int)==0)=false:=by rw[cN];omega
   have hk1:k-1<s.length:=by omega
   simp only[e0,BB h0 (Nat.le_of_lt hk) (fc hs),cH,dK,hk1,h0,gW];generalize ((((s.getD (k-1) 0).toNat:Nat):Int)==45)=a6;cases a1<;>cases a2<;>cases a3<;>cases a4<;>cases a5<;>cases a6<;>simp) (fun f=>by rw[M.qU];simp)]
 unfold kH;cases hall:(List.range s.length).all (pA s)
 ·simp
 ·simp only[od,He,bc];rcases jP s.length with h0|h0
  ·simp[h0]
  ·have h1:s.length-1<s.length:=by omega
   have e1:decide ((1:Int)<=((s.length:Nat):Int))=decide (1<=s.length):=by simp only[lG];omega
   have e2:decide (((s.length:Nat):Int)<=12)=decide (s.length<=12):=by simp only[lG];omega
   simp only[BB h0 (bH _) (fc hs),cH,dK,h1,gW,bP,cO,af,e1,e2,qT]
theorem Zj(s:List UInt8)(hs:s.length<=1048576):M.yV s=some (kH s):=by
 unfold M.yV;rcases jP s.length with h0|h0
 ·have:s=[]:=kU h0;subst this;rfl
 have h1:s.length-1<s.length:=by omega
 simp only[BB h0 (bH _) (fc hs),cH,dK,h1,Int.toNat_zero,gW,bP,cO,af];have hz:inB (0:Int) s.length=true:=by
  show inB ((0:Nat):Int) s.length=true
  rw[dK];simpa using h0
 simp only[hz,bP,cO,af];have e1:decide (((s.length:Nat):Int)<1)= !decide (1<=s.length):=by rw[<-pX];simp only[lG];omega
 have e2:decide ((12:Int)<((s.length:Nat):Int))= !decide (s.length<=12):=by rw[<-pX];simp only[lG];omega
 have e3:decide ((((s.getD 0 0).toNat:Nat):Int)<97)= !decide ((97:Int)<=(((s.getD 0 0).toNat:Nat):Int)):=by rw[<-pX];simp only[lG];omega
 have e4:decide ((122:Int)<(((s.getD 0 0).toNat:Nat):Int))= !decide ((((s.getD 0 0).toNat:Nat):Int)<=122):=by rw[<-pX];simp only[lG];omega
 rw[e1,e2,e3,e4];by_cases hlow:pz (s.getD 0 0)=true
 ·have hl:=hlow;simp only[pz,bz]at hl;rw[Nl (p:=pA s) (F:=M.tu s) (e:=()) (b:=false) s.length (by omega) (fun f k hk=>by
   rw[M.tu];have f1:decide ((((s.getD k 0).toNat:Nat):Int)<97)= !decide ((97:Int)<=(((s.getD k 0).toNat:Nat):Int)):=by rw[<-pX];simp only[lG];omega
   have f2:decide ((122:Int)<(((s.getD k 0).toNat:Nat):Int))= !decide ((((s.getD k 0).toNat:Nat):Int)<=122):=by rw[<-pX];simp only[lG];omega
   have f3:decide ((((s.getD k 0).toNat:Nat):Int)<48)= !decide ((48:Int)<=(((s.getD k 0).toNat:Nat):Int)):=by rw[<-pX];simp only[lG];omega
   have f4:decide ((57:Int)<(((s.getD k 0).toNat:Nat):Int))= !decide ((((s.getD k 0).toNat:Nat):Int)<=57):=by rw[<-pX];simp only[lG];omega
   simp only[cH,dK,kY,hk,gW,af,bP,bc,cO,dB hk (fc hs),pA,pz,Ha,qT,He,f1,f2,f3,f4];have dash:pz (s.getD k 0)=true->((((s.getD k 0).toNat:Nat):Int)==45)=false:=fun h=>by
    simp only[pz,bz,bN]at h;rw[cN];omega
   simp only[pz]at dash;rcases jP k with k0|k0
   ·subst k0;rw[hl.1,hl.2]at*;simp only[au]at dash;rw[dash trivial];simp
   ·have hk1:k-1<s.length:=by omega
    simp only[BB k0 (Nat.le_of_lt hk) (fc hs),cH,dK,hk1,k0,gW];generalize ((((s.getD (k-1) 0).toNat:Nat):Int)==45)=a6
    revert dash
    generalize decide ((97:Int)<=(((s.getD k 0).toNat:Nat):Int))=a1;generalize decide ((((s.getD k 0).toNat:Nat):Int)<=122)=a2;generalize decide ((48:Int)<=(((s.getD k 0).toNat:Nat):Int))=a3;generalize decide ((((s.getD k 0).toNat:Nat):Int)<=57)=a4;generalize ((((s.getD k 0).toNat:Nat):Int)==45)=a5;intro dash;cases a1<;>cases a2<;>cases a3<;>cases a4<;>cases a5<;>cases a6<;>simp at dash⊢) (fun f=>by rw[M.tu];simp)]
  rw[hl.1,hl.2];unfold kH qT;cases (List.range s.length).all (pA s)<;>cases decide (1<=s.length)<;>cases decide (s.length<=12)<;>cases ((((s.getD (s.length-1) 0).toNat:Nat):Int)==45)<;>rfl
 ·have hno:kH s=false:=by
   unfold kH;have:(List.range s.length).all (pA s)=false:=by
    rw[List.all_eq_false];refine⟨0,by simpa using h0,?_⟩;simp only[uC]at hlow;simp only[pA,hlow];intro h;cases h
   rw[this];rfl
  rw[hno];simp only[uC]at hlow;simp only[pz]at hlow;cases h3:decide ((97:Int)<=(((s.getD 0 0).toNat:Nat):Int))<;>cases h4:decide ((((s.getD 0 0).toNat:Nat):Int)<=122)<;>rw[h3,h4]at hlow<;>simp at hlow⊢
end M
namespace M
open Go.V (inB bT ai bB)
def oZ(s:List UInt8):Bool:=(dE.rf s).isSome
theorem abC(s:List UInt8):(match M.eR s with|(v,b)=>if b=true/\(0<=v/\v<=999)then some v.toNat else none)=dE.m5 s:=by
 unfold M.eR dE.m5;cases Go.Lib.parseIntB 64 s with
 |ok v=>
  simp only;by_cases h:Go.Lib.itoa v=s
  ·rw[aO h];simp only[h,true_and]
  ·rw[aX h];simp[h]
 |_=>simp
theorem Hg(s:List UInt8):(dE.m5 s=none/\((!(M.eR s).2)||(!(decide ((0:Int)<=(M.eR s).1)&&decide ((M.eR s).1<=999))))=true)\/∃n:Nat,dE.m5 s=some n/\n<=999/\(M.eR s).1=(n:Int)/\((!(M.eR s).2)||(!(decide ((0:Int)<=(M.eR s).1)&&decide ((M.eR s).1<=999))))=false:=by
 have h:=abC s;generalize M.eR s=p at h;obtain⟨v,b⟩:=p;simp only at h⊢;by_cases hc:b=true/\(0<=v/\v<=999)
 ·rw[aO hc]at h;exact .inr ⟨v.toNat,h.symm,by omega,by omega,by simp[hc.1,hc.2.1,hc.2.2]⟩
 ·rw[aX hc]at h;refine .inl ⟨h.symm,?_⟩;cases b
  ·rfl
  ·simp only[bQ,md,fK,Bool.and_eq_false_iff,iG];simp only[true_and]at hc;omega
theorem abD(s:List UInt8):∀p∈dE.ei s,p.length<=s.length:=by
 have key:∀(s:List UInt8),∀p∈dE.ei s,p.length<=s.length:=by
  intro s
  induction s with
  |nil=>intro p hp;simp[dE.ei]at hp;subst hp;simp
  |cons c r ih=>
   intro p hp;unfold dE.ei at hp;split at hp
   ·rcases fW.1 hp with rfl|hp
    ·simp
    ·have:=ih p hp;simp;omega
   ·split at hp
    ·rename_i x y e;rw[e]at ih;rcases fW.1 hp with rfl|hp
     ·have:=ih x (by simp);simp;omega
     ·have:=ih p (by simp[hp]);simp;omega
    ·simp at hp;subst hp;simp
 exact key s
theorem Zm(s:List UInt8)(h:s.length<=1048576):M.yW s=some (oZ s):=by
 have hs:M.strings_Split s [46]=some (dE.ei s):=by
  unfold M.strings_Split;have:decide (s.length<4294967281)=true:=by rw[bN];omega
  rw[this];rfl
 have hrd:∀p∈dE.ei s,M.oR p=some (M.eR p):=fun p hp=>by
  have:=abD s p hp;unfold M.oR;have:decide (p.length<=281474976710656)=true:=by rw[bN];omega
  rw[this];rfl
 have hv:∃v:Int×Bool,M.yX s=some v/\v.2=oZ s:=by
  unfold M.yX oZ dE.rf;rw[hs];simp only[aw,ay,bc,cO,af]
  match hp:dE.ei s,hrd with
  |[],_=>exact⟨_,rfl,rfl⟩
  |[a],_=>exact⟨_,rfl,rfl⟩
  |[a,b],_=>exact⟨_,rfl,rfl⟩
  |a::b::c::d::r,_=>
   have:((((a::b::c::d::r).length:Nat):Int) !=3)=true:=by
    simp only[dH,pW];omega
   rw[this];exact⟨_,rfl,rfl⟩
  |[a,b,c],hrd=>
    have h3:((((([a,b,c]:List (List UInt8)).length:Nat):Int) !=3))=false:=rfl;rw[h3];simp only[ar];obtain⟨f0,hf0⟩:∃f0,ai=f0+4:=⟨ai-4,by have:=bB;omega⟩;have ra:=hrd a (by simp);have rb:=hrd b (by simp);have rc:=hrd c (by simp);have st:∀(f:Nat)(n:Int)(k:Nat)(p:List UInt8)(hk:k<3),([a,b,c].getD k [])=p->M.oR p=some (M.eR p)->M.pB [a,b,c] ((([a,b,c]:List (List UInt8)).length:Nat):Int) (f+1) n (k:Int)=
     bif((!(M.eR p).2)||(!(decide ((0:Int)<=(M.eR p).1)&&decide ((M.eR p).1<=999))))then some (.inl (0,false))else M.pB [a,b,c] ((([a,b,c]:List (List UInt8)).length:Nat):Int) f (Go.IntKind.wrap .i64 (Go.IntKind.wrap .i64 (n*1000)+(M.eR p).1)) ((k+1:Nat):Int):=fun f n k p hk hg hr=>by
     rw[M.pB];have hlt:decide ((k:Int)<((([a,b,c]:List (List UInt8)).length:Nat):Int))=true:=by simp;omega
     have hin:inB (k:Int) ([a,b,c]:List (List UInt8)).length=true:=by rw[dK];simp;omega
     simp only[hlt,af,cH,hg,hr,aw,ay,hin,bc,cO,dB (show k<3 from hk) (by omega)]
    have e0:=st (f0+3) 0 0 a (by omega) rfl ra;rw[hf0];change M.pB [a,b,c] ((([a,b,c]:List (List UInt8)).length:Nat):Int) (f0+4) 0 0=_ at e0;rw[e0];rcases Hg a with⟨ha,ca⟩|⟨x,ha,hx,ea,ca⟩
    ·rw[ca,ha];exact⟨_,rfl,rfl⟩
    rw[ca,ha];have w1:Go.IntKind.wrap .i64 (Go.IntKind.wrap .i64 ((0:Int)*1000)+(M.eR a).1)=(x:Int):=by
     rw[ea,wrap_i64 (n:=0*1000) (by omega) (by omega),wrap_i64 (by omega) (by omega)];omega
    rw[ar,w1,st (f0+2) _ 1 b (by omega) rfl rb];rcases Hg b with⟨hb,cb⟩|⟨y,hb,hy,eb,cb⟩
    ·rw[cb,hb];exact⟨_,rfl,rfl⟩
    rw[cb,hb];have w2:Go.IntKind.wrap .i64 (Go.IntKind.wrap .i64 ((x:Int)*1000)+(M.eR b).1)=((x*1000+y:Nat):Int):=by
     rw[eb,wrap_i64 (show -9223372036854775808<=(x:Int)*1000 by omega) (by omega),wrap_i64 (by omega) (by omega)];omega
    rw[ar,w2,st (f0+1) _ 2 c (by omega) rfl rc];rcases Hg c with⟨hc,cc⟩|⟨z,hc,hz,ec,cc⟩
    ·rw[cc,hc];exact⟨_,rfl,rfl⟩
    rw[cc,hc];have w3:Go.IntKind.wrap .i64 (Go.IntKind.wrap .i64 (((x*1000+y:Nat):Int)*1000)+(M.eR c).1)=(((x*1000+y)*1000+z:Nat):Int):=by
     rw[ec,wrap_i64 (show -9223372036854775808<=((x*1000+y:Nat):Int)*1000 by omega) (by omega),wrap_i64 (by omega) (by omega)];omega
    rw[ar,w3,M.pB];exact⟨_,rfl,rfl⟩
 obtain⟨v,h1,h2⟩:=hv;unfold M.yW;rw[h1];simp only[ay,aw,cO,af,h2]
end M
namespace M
open Go.V (inB bT ai bB)
theorem Nn{n:Nat}(h:n<10):Go.IntKind.wrap .u8 (Go.IntKind.wrap .i64 ((48:Int)+(n:Int)))=((48+n:Nat):Int):=by
 rw[wrap_i64 (by omega) (by omega)];have:∀m:Fin 10,Go.IntKind.wrap .u8 ((48:Int)+((m.val:Nat):Int))=((48+m.val:Nat):Int):=by decide
 exact this ⟨n,h⟩
theorem Np{n:Nat}(h:n<10):Go.V.mz ((48+n:Nat):Int)=true:=by
 unfold Go.V.mz;simp only[bz,bN];omega
theorem Nq(n:Nat):Go.V.nu ((48+n:Nat):Int)=UInt8.ofNat (48+n):=by
 unfold Go.V.nu;rw[cH]
theorem Hh{n:Nat}(h:n<10)(f:Nat):M.nL (f+1) (n:Int)=some [UInt8.ofNat (48+n)]:=by
 show M.v8 (M.nL f) (n:Int)=_
 unfold M.v8;have:decide ((n:Int)<10)=true:=by rw[bN];omega
 simp only[this,Nn h,Np h,Nq];rfl
theorem Hj(a b:Nat):Int.tdiv (a:Int) (b:Int)=((a/b:Nat):Int):=(Int.ofNat_tdiv a b).symm
theorem Hk(a b:Nat):Int.tmod (a:Int) (b:Int)=((a%b:Nat):Int):=(Int.ofNat_tmod a b).symm
theorem sR{a b:List UInt8}(h:a.length+b.length<=4611686018427387904):Go.V.kq a b=true:=by
 unfold Go.V.kq;rw[bN];exact h
theorem Hl{n:Nat}(h:10<=n)(hn:n<1000)(f:Nat){x:List UInt8}(hx:M.nL f ((n/10:Nat):Int)=some x)(hl:x.length<=10):M.nL (f+1) (n:Int)=some (x++[UInt8.ofNat (48+n%10)]):=by
 show M.v8 (M.nL f) (n:Int)=_
 unfold M.v8;have h1:decide ((n:Int)<10)=false:=by rw[iG];omega
 have h2:Go.IntKind.wrap .i64 (Int.tdiv (n:Int) 10)=((n/10:Nat):Int):=by
  rw[show Int.tdiv (n:Int) 10=((n/10:Nat):Int)from Hj n 10,wrap_i64 (by omega) (by omega)]
 have h3:Int.tmod (n:Int) 10=((n%10:Nat):Int):=Hk n 10;have h4:n%10<10:=Nat.mod_lt _ (by decide);simp only[h1,h2,h3,hx,Nn h4,Np h4,Nq,aw,ay,ar,gV,List.map_nil];rw[sR (by simp;omega)];rfl
theorem Hm{n:Nat}(h:n<1000):M.tw (n:Int)=some (dE.dec n):=by
 obtain⟨f,hf⟩:∃f,ai=f+3:=⟨ai-3,by have:=bB;omega⟩;rw[show M.tw=M.nL ai from rfl,hf];unfold dE.dec;by_cases h1:n<10
 ·rw[aO h1];exact Hh h1 (f+2)
 ·rw[aX h1];by_cases h2:n<100
  ·rw[aO h2];have:=Hl (by omega) h (f+2) (Hh (show n/10<10 by omega) (f+1)) (by simp);simpa using this
  ·rw[aX h2];have a:=Hh (show n/100<10 by omega) f;have b:=Hl (n:=n/10) (by omega) (by omega) (f+1) (by rw[show n/10/10=n/100 by omega];exact a) (by simp);have:=Hl (by omega) h (f+2) b (by simp);simpa using this
theorem abE{n:Nat}(h:n<1000000000):M.yY (n:Int)=some (dE.jO n):=by
 unfold M.yY;have e1:Go.IntKind.wrap .i64 (Int.tdiv (n:Int) 1000000)=((n/1000000:Nat):Int):=by rw[show Int.tdiv (n:Int) 1000000=((n/1000000:Nat):Int)from Hj n 1000000,wrap_i64 (by omega) (by omega)]
 have e2:Int.tmod (Go.IntKind.wrap .i64 (Int.tdiv (n:Int) 1000)) 1000=((n/1000%1000:Nat):Int):=by
  rw[show Int.tdiv (n:Int) 1000=((n/1000:Nat):Int)from Hj n 1000,wrap_i64 (by omega) (by omega)];exact Hk (n/1000) 1000
 have e3:Int.tmod (n:Int) 1000=((n%1000:Nat):Int):=Hk n 1000;have l1:=dE.mZ (n:=n/1000000);have l2:=dE.mZ (n:=n/1000%1000);have l3:=dE.mZ (n:=n%1000);simp only[e1,e2,e3,Hm (show n/1000000<1000 by omega),Hm (show n/1000%1000<1000 by omega),Hm (show n%1000<1000 by omega),aw,ay];rw[sR (by simp;omega),sR (by simp;omega),sR (by simp;omega),sR (by simp;omega)];unfold dE.jO;simp
structure Nr (k n p d:Nat) (n':Int):Prop where
 fp:p<10^k
 fd:d<=k
 eq:d<=2->n'=(n:Int)
 d0:d=0->n=0
 d1:d=1->n<1001000000000000
 d2:d=2->n<2000000000000000000
theorem Hq(s:List UInt8):∀(g k n p d:Nat)(n':Int),k<=min s.length 12->min s.length 12-k<g->Nr k n p d n'->
 (dE.scan (n,p,d) ((s.take 12).drop k)=none/\M.nM s g n' (p:Int) (d:Int) (k:Int)=some (.inl (-1)))\/
 ∃(m q e:Nat)(m':Int),dE.scan (n,p,d) ((s.take 12).drop k)=some (m,q,e)/\M.nM s g n' (p:Int) (d:Int) (k:Int)=some (.inr (s,m',(q:Int),(e:Int)))/\Nr (min s.length 12) m q e m'
 |0,k,n,p,d,n',h1,h2,_=>by omega
 |g+1,k,n,p,d,n',h1,h2,hI=>by
  rw[M.nM];have hlen:(s.take 12).length=min s.length 12:=by rw[rn,Nat.min_comm]
  rcases cV k (min s.length 12)with hk|hk
  ·have hks:k<s.length:=by omega
   have hd:(s.take 12).drop k=s[k]::(s.take 12).drop (k+1):=by
    rw[gq (by rw[hlen];exact hk)];congr 1;rw[List.getElem_take]
   have ahA:p<1000000000000:=kj hI.fp (kX (Nat.pow_le_pow_right (by decide) (show k<=12 by omega)) (by decide));have c1:decide ((k:Int)<((s.length:Nat):Int))=true:=by rw[bN];omega
   have c2:decide ((k:Int)<12)=true:=by rw[bN];omega
   have c3:inB (k:Int) s.length=true:=by rw[dK];simpa using hks
   have hw:Go.IntKind.wrap .i64 ((k:Int)+1)=((k+1:Nat):Int):=by rw[wrap_i64 (by omega) (by omega)];omega
   rw[hd];simp only[c1,c2,c3,hw,cH,getD_lt hks,cO,bc,bP,af];rw[dE.scan];by_cases h46:s[k]=46
   ·rw[aO h46];have:((((s[k]).toNat:Nat):Int)==46)=true:=by rw[h46];decide
    rw[this,af];have hw2:Go.IntKind.wrap .i64 ((d:Int)+1)=((d+1:Nat):Int):=by have:=hI.fd;rw[wrap_i64 (by omega) (by omega)];omega
    rw[hw2];refine Hq s g (k+1) ((n+p)*1000) 0 (d+1) _ (by omega) (by omega) ⟨Nat.pow_pos (by decide),by have:=hI.fd;omega,fun hd2=>?_,fun h=>by omega,fun h=>?_,fun h=>?_⟩
    ·have hn:n<1001000000000000:=by
      rcases cV d 1 with h|h
      ·rw[hI.d0 (by omega)];decide
      ·exact hI.d1 (by omega)
     rw[hI.eq (by omega),wrap_i64 (n:=(n:Int)+(p:Int)) (by omega) (by omega),wrap_i64 (by omega) (by omega)];omega
    ·rw[hI.d0 (by omega)];omega
    ·have:=hI.d1 (by omega);omega
   ·rw[aX h46];have hne:((((s[k]).toNat:Nat):Int)==46)=false:=by
     rw[cN];intro e;exact h46 (UInt8.toNat.inj (by have:(46:UInt8).toNat=46:=rfl;omega))
    rw[hne,ar];by_cases hdig:48<=s[k].toNat/\s[k].toNat<=57
    ·rw[aO hdig];have d1:decide ((((s[k]).toNat:Nat):Int)<48)=false:=by rw[iG];omega
     have d2:decide ((57:Int)<(((s[k]).toNat:Nat):Int))=false:=by rw[iG];omega
     have hu:Go.IntKind.wrap .u8 ((((s[k]).toNat:Nat):Int)-48)=((s[k].toNat-48:Nat):Int):=by
      have:∀m:Fin 58,48<=m.val->Go.IntKind.wrap .u8 (((m.val:Nat):Int)-48)=((m.val-48:Nat):Int):=by decide
      exact this ⟨s[k].toNat,by omega⟩ hdig.1
     have hw3:Go.IntKind.wrap .i64 (Go.IntKind.wrap .i64 ((10:Int)*(p:Int))+Go.IntKind.wrap .i64 (((s[k].toNat-48:Nat):Int)))=((10*p+(s[k].toNat-48):Nat):Int):=by
      rw[wrap_i64 (n:=(10:Int)*(p:Int)) (by omega) (by omega),wrap_i64 (n:=((s[k].toNat-48:Nat):Int)) (by omega) (by omega),wrap_i64 (by omega) (by omega)];omega
     simp only[d1,d2,Dv,ar,hu,hw3];refine Hq s g (k+1) n (10*p+(s[k].toNat-48)) d n' (by omega) (by omega) ⟨?_,by have:=hI.fd;omega,hI.eq,hI.d0,hI.d1,hI.d2⟩;have:=hI.fp;rw[Nat.pow_succ];omega
    ·rw[aX hdig];have:(decide ((((s[k]).toNat:Nat):Int)<48)||decide ((57:Int)<(((s[k]).toNat:Nat):Int)))=true:=by
      rw[iH,bN,bN];omega
     rw[this];exact .inl ⟨rfl,rfl⟩
  ·have hk':k=min s.length 12:=by omega
   subst hk';have hd:(s.take 12).drop (min s.length 12)=[]:=by rw[<-hlen,wJ]
   have:(decide (((min s.length 12:Nat):Int)<((s.length:Nat):Int))&&decide (((min s.length 12:Nat):Int)<12))=false:=by
    rw[Bool.and_eq_false_iff,iG,iG];omega
   rw[this,hd];exact .inr ⟨n,p,d,n',rfl,rfl,hI⟩
theorem Zo(s:List UInt8):M.yZ s=some (oZ s):=by
 have key:∃r:Int,M.y5 s=some r/\decide (0<=r)=(dE.rh s).isSome:=by
  unfold M.y5 dE.rh;have hl:=Hq s ai 0 0 0 0 0 (eY _) (by have:=bB;omega) ⟨by simp,bH _,fun _=>rfl,fun _=>rfl,fun h=>by omega,fun h=>by omega⟩;rw[ft]at hl;rcases hl with⟨e1,e2⟩|⟨m,q,e,m',e1,e2,hI⟩
  ·have e2':M.nM s ai 0 0 0 0=_:=e2;rw[e1,e2'];exact⟨-1,rfl,rfl⟩
  ·have e2':M.nM s ai 0 0 0 0=_:=e2;rw[e1,e2'];simp only;have hq:q<1000000000000:=kj hI.fp (kX (Nat.pow_le_pow_right (by decide) (show min s.length 12<=12 by omega)) (by decide));by_cases he:e=2
   ·subst he;have hm:=hI.d2 rfl;have hw:Go.IntKind.wrap .i64 (m'+(q:Int))=((m+q:Nat):Int):=by
     rw[hI.eq (by omega),wrap_i64 (by omega) (by omega)];omega
    rw[hw];by_cases hc:q<=999/\m+q<1000000000
    ·have c1:((((2:Nat):Int) !=2)||decide ((999:Int)<(q:Int)))=false:=by
      rw[zH,iG];exact⟨rfl,by omega⟩
     have c2:(decide ((0:Int)<=((m+q:Nat):Int))&&decide (((m+q:Nat):Int)<=999999999))=true:=by
      rw[bz,bN,bN];omega
     rw[c1,c2,abE hc.2];by_cases ht:dE.jO (m+q)=s
     ·rw[aO ⟨rfl,hc.1,hc.2,ht⟩];refine⟨((m+q:Nat):Int),?_,by simp;omega⟩;simp[ht]
     ·rw[aX (fun h=>ht h.2.2.2)];refine⟨-1,?_,by simp⟩;have:(dE.jO (m+q)==s)=false:=by rw[cN];exact ht
      simp[this]
    ·rw[aX (fun h=>hc ⟨h.2.1,h.2.2.1⟩)];have c:(((((2:Nat):Int) !=2)||decide ((999:Int)<(q:Int)))|| !(decide ((0:Int)<=((m+q:Nat):Int))&&decide (((m+q:Nat):Int)<=999999999)))=true:=by
      rw[iH,iH,bN,fK,Bool.and_eq_false_iff,iG,iG];omega
     rw[c];exact⟨-1,by simp,by simp⟩
   ·rw[aX (fun h=>he h.1)];have c:((((e:Nat):Int) !=2))=true:=by rw[pW];omega
    rw[c];exact⟨-1,by simp,by simp⟩
 obtain⟨r,h1,h2⟩:=key;unfold M.yZ oZ;rw[h1,dE.VI];simp only[ay,aw,cO,af,h2]
end M
