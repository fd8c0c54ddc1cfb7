/-
  NAMES AND TYPES: what is right, in plain Lean.
-/
import Derived.Test.YtghkckfhaljjjaaGreatDoorXXplA
import Derived.Test.YtghkckfhaljjjaaGreatDoorXYCM
import Derived.Test.YtghkckfhaljjjaaGreatDoorXVER
set_option linter.unusedVariables false
namespace M
open Go.V (inB cg ad bz)
def qO(c:UInt8):Bool:=decide ((97:Int)<=((c.toNat:Nat):Int))&&decide (((c.toNat:Nat):Int)<=122)
def L1(c:UInt8):Bool:=decide ((48:Int)<=((c.toNat:Nat):Int))&&decide (((c.toNat:Nat):Int)<=57)
def sX(c:UInt8):Bool:=((c.toNat:Nat):Int)==45
def qP(s:List UInt8)(k:Nat):Bool:=qO (s.getD k 0)||(decide (0<k)&&((L1 (s.getD k 0)||sX (s.getD k 0))&& !(sX (s.getD k 0)&&sX (s.getD (k-1) 0))))
def lq(s:List UInt8):Bool:=(List.range s.length).all (qP s)&&((decide (1<=s.length)&&decide (s.length<=12))&& !sX (s.getD (s.length-1) 0))
def atP(l:List (List UInt8)):Bool:=(decide (1<=l.length)&&decide (l.length<=16))&&(nodupB l&&l.all lq)
end M
set_option linter.unusedSimpArgs false
namespace M
open Go.V (inB cg ad bz)
theorem Fh{k n:Nat}(h0:0<k)(h:k<=n)(hn:n<2^62):Go.IntKind.wrap .i64 ((k:Int)-1)=((k-1:Nat):Int):=by
 rw[wrap_i64 (by omega) (by omega)];omega
theorem Rn(s:List UInt8)(hs:s.length<=1048576):M.vj s=some (lq s):=by
 unfold M.vj;rw[TB (p:=qP s) (F:=M.sY s (s.length:Int)) (e:=s) (b:=false) s.length (by omega) (fun f k hk=>by
  rw[M.sY];simp only[bw,dD,kD,hk,ed,ae,cq,bU,dB,bZ hk (dY hs),qP,qO,L1,sX,xK];generalize decide ((97:Int)<=(((s.getD k 0).toNat:Nat):Int))=a1;generalize decide ((((s.getD k 0).toNat:Nat):Int)<=122)=a2;generalize decide ((48:Int)<=(((s.getD k 0).toNat:Nat):Int))=a3;generalize decide ((((s.getD k 0).toNat:Nat):Int)<=57)=a4;generalize ((((s.getD k 0).toNat:Nat):Int)==45)=a5;rcases mn k with h0|h0
  ·subst h0;cases a1<;>cases a2<;>cases a3<;>cases a4<;>cases a5<;>simp
  ·have e0:((k:Int)==0)=false:=by rw[cQ];omega
   have hk1:k-1<s.length:=by omega
   simp only[e0,Fh h0 (Nat.le_of_lt hk) (dY hs),bw,dD,hk1,h0,ed];generalize ((((s.getD (k-1) 0).toNat:Nat):Int)==45)=a6;cases a1<;>cases a2<;>cases a3<;>cases a4<;>cases a5<;>cases a6<;>simp) (fun f=>by rw[M.sY];simp)]
 unfold lq;cases hall:(List.range s.length).all (qP s)
 ·simp
 ·simp only[pW,xK,bU];rcases mn s.length with h0|h0
  ·simp[h0]
  ·have h1:s.length-1<s.length:=by omega
   have e1:decide ((1:Int)<=((s.length:Nat):Int))=decide (1<=s.length):=by simp only[kA];omega
   have e2:decide (((s.length:Nat):Int)<=12)=decide (s.length<=12):=by simp only[kA];omega
   simp only[Fh h0 (fh _) (dY hs),bw,dD,h1,ed,cq,dB,ae,e1,e2,sX]
theorem ahz(s:List UInt8)(hs:s.length<=1048576):M.A8 s=some (lq s):=by
 unfold M.A8;rcases mn s.length with h0|h0
 ·have:s=[]:=lS h0;subst this;rfl
 have h1:s.length-1<s.length:=by omega
 simp only[Fh h0 (fh _) (dY hs),bw,dD,h1,Int.toNat_zero,ed,cq,dB,ae];have hz:inB (0:Int) s.length=true:=by
  show inB ((0:Nat):Int) s.length=true
  rw[dD];simpa using h0
 simp only[hz,cq,dB,ae];have e1:decide (((s.length:Nat):Int)<1)= !decide (1<=s.length):=by rw[<-rH];simp only[kA];omega
 have e2:decide ((12:Int)<((s.length:Nat):Int))= !decide (s.length<=12):=by rw[<-rH];simp only[kA];omega
 have e3:decide ((((s.getD 0 0).toNat:Nat):Int)<97)= !decide ((97:Int)<=(((s.getD 0 0).toNat:Nat):Int)):=by rw[<-rH];simp only[kA];omega
 have e4:decide ((122:Int)<(((s.getD 0 0).toNat:Nat):Int))= !decide ((((s.getD 0 0).toNat:Nat):Int)<=122):=by rw[<-rH];simp only[kA];omega
 rw[e1,e2,e3,e4];by_cases hlow:qO (s.getD 0 0)=true
 ·have hl:=hlow;simp only[qO,cG]at hl;rw[TB (p:=qP s) (F:=M.vk s) (e:=()) (b:=false) s.length (by omega) (fun f k hk=>by
   rw[M.vk];have f1:decide ((((s.getD k 0).toNat:Nat):Int)<97)= !decide ((97:Int)<=(((s.getD k 0).toNat:Nat):Int)):=by rw[<-rH];simp only[kA];omega
   have f2:decide ((122:Int)<(((s.getD k 0).toNat:Nat):Int))= !decide ((((s.getD k 0).toNat:Nat):Int)<=122):=by rw[<-rH];simp only[kA];omega
   have f3:decide ((((s.getD k 0).toNat:Nat):Int)<48)= !decide ((48:Int)<=(((s.getD k 0).toNat:Nat):Int)):=by rw[<-rH];simp only[kA];omega
   have f4:decide ((57:Int)<(((s.getD k 0).toNat:Nat):Int))= !decide ((((s.getD k 0).toNat:Nat):Int)<=57):=by rw[<-rH];simp only[kA];omega
   simp only[bw,dD,kD,hk,ed,ae,cq,bU,dB,bZ hk (dY hs),qP,qO,L1,sX,xK,f1,f2,f3,f4];have dash:qO (s.getD k 0)=true->((((s.getD k 0).toNat:Nat):Int)==45)=false:=fun h=>by
    simp only[qO,cG,bB]at h;rw[cQ];omega
   simp only[qO]at dash;rcases mn k with k0|k0
   ·subst k0;rw[hl.1,hl.2]at*;simp only[al]at dash;rw[dash trivial];simp
   ·have hk1:k-1<s.length:=by omega
    simp only[Fh k0 (Nat.le_of_lt hk) (dY hs),bw,dD,hk1,k0,ed];generalize ((((s.getD (k-1) 0).toNat:Nat):Int)==45)=a6
    revert dash
    generalize decide ((97:Int)<=(((s.getD k 0).toNat:Nat):Int))=a1;generalize decide ((((s.getD k 0).toNat:Nat):Int)<=122)=a2;generalize decide ((48:Int)<=(((s.getD k 0).toNat:Nat):Int))=a3;generalize decide ((((s.getD k 0).toNat:Nat):Int)<=57)=a4;generalize ((((s.getD k 0).toNat:Nat):Int)==45)=a5;intro dash;cases a1<;>cases a2<;>cases a3<;>cases a4<;>cases a5<;>cases a6<;>simp at dash⊢) (fun f=>by rw[M.vk];simp)]
  rw[hl.1,hl.2];unfold lq sX;cases (List.range s.length).all (qP s)<;>cases decide (1<=s.length)<;>cases decide (s.length<=12)<;>cases ((((s.getD (s.length-1) 0).toNat:Nat):Int)==45)<;>rfl
 ·have hno:lq s=false:=by
   unfold lq;have:(List.range s.length).all (qP s)=false:=by
    rw[List.all_eq_false];refine⟨0,by simpa using h0,?_⟩;simp only[tQ]at hlow;simp only[qP,hlow];intro h;cases h
   rw[this];rfl
  rw[hno];simp only[tQ]at hlow;simp only[qO]at hlow;cases h3:decide ((97:Int)<=(((s.getD 0 0).toNat:Nat):Int))<;>cases h4:decide ((((s.getD 0 0).toNat:Nat):Int)<=122)<;>rw[h3,h4]at hlow<;>simp at hlow⊢
end M
namespace M
open Go.V (inB cg ad bz)
def sd(s:List UInt8):Bool:=(dQ.tJ s).isSome
theorem akf(s:List UInt8):(match M.fu s with|(v,b)=>if b=true/\(0<=v/\v<=999)then some v.toNat else none)=dQ.nZ s:=by
 unfold M.fu dQ.nZ;cases Go.Lib.parseIntB 64 s with
 |ok v=>
  simp only;by_cases h:Go.Lib.itoa v=s
  ·rw[aY h];simp only[h,true_and]
  ·rw[aT h];simp[h]
 |_=>simp
theorem L2(s:List UInt8):(dQ.nZ s=none/\((!(M.fu s).2)||(!(decide ((0:Int)<=(M.fu s).1)&&decide ((M.fu s).1<=999))))=true)\/∃n:Nat,dQ.nZ s=some n/\n<=999/\(M.fu s).1=(n:Int)/\((!(M.fu s).2)||(!(decide ((0:Int)<=(M.fu s).1)&&decide ((M.fu s).1<=999))))=false:=by
 have h:=akf s;generalize M.fu s=p at h;obtain⟨v,b⟩:=p;simp only at h⊢;by_cases hc:b=true/\(0<=v/\v<=999)
 ·rw[aY hc]at h;exact .inr ⟨v.toNat,h.symm,by omega,by omega,by simp[hc.1,hc.2.1,hc.2.2]⟩
 ·rw[aT hc]at h;refine .inl ⟨h.symm,?_⟩;cases b
  ·rfl
  ·simp only[dT,mm,fk,Bool.and_eq_false_iff,fi];simp only[true_and]at hc;omega
theorem akg(s:List UInt8):∀p∈dQ.eH s,p.length<=s.length:=by
 have key:∀(s:List UInt8),∀p∈dQ.eH s,p.length<=s.length:=by
  intro s
  induction s with
  |nil=>intro p hp;simp[dQ.eH]at hp;subst hp;simp
  |cons c r ih=>
   intro p hp;unfold dQ.eH at hp;split at hp
   ·rcases jm.1 hp with rfl|hp
    ·simp
    ·have:=ih p hp;simp;omega
   ·split at hp
    ·rename_i x y e;rw[e]at ih;rcases jm.1 hp with rfl|hp
     ·have:=ih x (by simp);simp;omega
     ·have:=ih p (by simp[hp]);simp;omega
    ·simp at hp;subst hp;simp
 exact key s
theorem ahC(s:List UInt8)(h:s.length<=1048576):M.A9 s=some (sd s):=by
 have hs:M.strings_Split s [46]=some (dQ.eH s):=by
  unfold M.strings_Split;have:decide (s.length<4294967281)=true:=by rw[bB];omega
  rw[this];rfl
 have hrd:∀p∈dQ.eH s,M.qj p=some (M.fu p):=fun p hp=>by
  have:=akg s p hp;unfold M.qj;have:decide (p.length<=281474976710656)=true:=by rw[bB];omega
  rw[this];rfl
 have hv:∃v:Int×Bool,M.Ba s=some v/\v.2=sd s:=by
  unfold M.Ba sd dQ.tJ;rw[hs];simp only[ay,aB,bU,dB,ae]
  match hp:dQ.eH s,hrd with
  |[],_=>exact⟨_,rfl,rfl⟩
  |[a],_=>exact⟨_,rfl,rfl⟩
  |[a,b],_=>exact⟨_,rfl,rfl⟩
  |a::b::c::d::r,_=>
   have:((((a::b::c::d::r).length:Nat):Int) !=3)=true:=by
    simp only[ak,yN];omega
   rw[this];exact⟨_,rfl,rfl⟩
  |[a,b,c],hrd=>
    have h3:((((([a,b,c]:List (List UInt8)).length:Nat):Int) !=3))=false:=rfl;rw[h3];simp only[aR];obtain⟨f0,hf0⟩:∃f0,ad=f0+4:=⟨ad-4,by have:=bz;omega⟩;have ra:=hrd a (by simp);have rb:=hrd b (by simp);have rc:=hrd c (by simp);have st:∀(f:Nat)(n:Int)(k:Nat)(p:List UInt8)(hk:k<3),([a,b,c].getD k [])=p->M.qj p=some (M.fu p)->M.qQ [a,b,c] ((([a,b,c]:List (List UInt8)).length:Nat):Int) (f+1) n (k:Int)=
     bif((!(M.fu p).2)||(!(decide ((0:Int)<=(M.fu p).1)&&decide ((M.fu p).1<=999))))then some (.inl (0,false))else M.qQ [a,b,c] ((([a,b,c]:List (List UInt8)).length:Nat):Int) f (Go.IntKind.wrap .i64 (Go.IntKind.wrap .i64 (n*1000)+(M.fu p).1)) ((k+1:Nat):Int):=fun f n k p hk hg hr=>by
     rw[M.qQ];have hlt:decide ((k:Int)<((([a,b,c]:List (List UInt8)).length:Nat):Int))=true:=by simp;omega
     have hin:inB (k:Int) ([a,b,c]:List (List UInt8)).length=true:=by rw[dD];simp;omega
     simp only[hlt,ae,bw,hg,hr,ay,aB,hin,bU,dB,bZ (show k<3 from hk) (by omega)]
    have e0:=st (f0+3) 0 0 a (by omega) rfl ra;rw[hf0];change M.qQ [a,b,c] ((([a,b,c]:List (List UInt8)).length:Nat):Int) (f0+4) 0 0=_ at e0;rw[e0];rcases L2 a with⟨ha,ca⟩|⟨x,ha,hx,ea,ca⟩
    ·rw[ca,ha];exact⟨_,rfl,rfl⟩
    rw[ca,ha];have w1:Go.IntKind.wrap .i64 (Go.IntKind.wrap .i64 ((0:Int)*1000)+(M.fu a).1)=(x:Int):=by
     rw[ea,wrap_i64 (n:=0*1000) (by omega) (by omega),wrap_i64 (by omega) (by omega)];omega
    rw[aR,w1,st (f0+2) _ 1 b (by omega) rfl rb];rcases L2 b with⟨hb,cb⟩|⟨y,hb,hy,eb,cb⟩
    ·rw[cb,hb];exact⟨_,rfl,rfl⟩
    rw[cb,hb];have w2:Go.IntKind.wrap .i64 (Go.IntKind.wrap .i64 ((x:Int)*1000)+(M.fu b).1)=((x*1000+y:Nat):Int):=by
     rw[eb,wrap_i64 (show -9223372036854775808<=(x:Int)*1000 by omega) (by omega),wrap_i64 (by omega) (by omega)];omega
    rw[aR,w2,st (f0+1) _ 2 c (by omega) rfl rc];rcases L2 c with⟨hc,cc⟩|⟨z,hc,hz,ec,cc⟩
    ·rw[cc,hc];exact⟨_,rfl,rfl⟩
    rw[cc,hc];have w3:Go.IntKind.wrap .i64 (Go.IntKind.wrap .i64 (((x*1000+y:Nat):Int)*1000)+(M.fu c).1)=(((x*1000+y)*1000+z:Nat):Int):=by
     rw[ec,wrap_i64 (show -9223372036854775808<=((x*1000+y:Nat):Int)*1000 by omega) (by omega),wrap_i64 (by omega) (by omega)];omega
    rw[aR,w3,M.qQ];exact⟨_,rfl,rfl⟩
 obtain⟨v,h1,h2⟩:=hv;unfold M.A9;rw[h1];simp only[aB,ay,dB,ae,h2]
end M
namespace M
open Go.V (inB cg ad bz)
theorem TC{n:Nat}(h:n<10):Go.IntKind.wrap .u8 (Go.IntKind.wrap .i64 ((48:Int)+(n:Int)))=((48+n:Nat):Int):=by
 rw[wrap_i64 (by omega) (by omega)];have:∀m:Fin 10,Go.IntKind.wrap .u8 ((48:Int)+((m.val:Nat):Int))=((48+m.val:Nat):Int):=by decide
 exact this ⟨n,h⟩
theorem TD{n:Nat}(h:n<10):Go.V.rq ((48+n:Nat):Int)=true:=by
 unfold Go.V.rq;simp only[cG,bB];omega
theorem TE(n:Nat):Go.V.ru ((48+n:Nat):Int)=UInt8.ofNat (48+n):=by
 unfold Go.V.ru;rw[bw]
theorem L6{n:Nat}(h:n<10)(f:Nat):M.px (f+1) (n:Int)=some [UInt8.ofNat (48+n)]:=by
 show M.xY (M.px f) (n:Int)=_
 unfold M.xY;have:decide ((n:Int)<10)=true:=by rw[bB];omega
 simp only[this,TC h,TD h,TE];rfl
theorem L8(a b:Nat):Int.tdiv (a:Int) (b:Int)=((a/b:Nat):Int):=(Int.ofNat_tdiv a b).symm
theorem L9(a b:Nat):Int.tmod (a:Int) (b:Int)=((a%b:Nat):Int):=(Int.ofNat_tmod a b).symm
theorem Bc{a b:List UInt8}(h:a.length+b.length<=4611686018427387904):Go.V.aw a b=true:=by
 unfold Go.V.aw;rw[bB];exact h
theorem Mc{n:Nat}(h:10<=n)(hn:n<1000)(f:Nat){x:List UInt8}(hx:M.px f ((n/10:Nat):Int)=some x)(hl:x.length<=10):M.px (f+1) (n:Int)=some (x++[UInt8.ofNat (48+n%10)]):=by
 show M.xY (M.px f) (n:Int)=_
 unfold M.xY;have h1:decide ((n:Int)<10)=false:=by rw[fi];omega
 have h2:Go.IntKind.wrap .i64 (Int.tdiv (n:Int) 10)=((n/10:Nat):Int):=by
  rw[show Int.tdiv (n:Int) 10=((n/10:Nat):Int)from L8 n 10,wrap_i64 (by omega) (by omega)]
 have h3:Int.tmod (n:Int) 10=((n%10:Nat):Int):=L9 n 10;have h4:n%10<10:=Nat.mod_lt _ (by decide);simp only[h1,h2,h3,hx,TC h4,TD h4,TE,ay,aB,aR,eG,List.map_nil];rw[Bc (by simp;omega)];rfl
theorem Md{n:Nat}(h:n<1000):M.vl (n:Int)=some (dQ.dec n):=by
 obtain⟨f,hf⟩:∃f,ad=f+3:=⟨ad-3,by have:=bz;omega⟩;rw[show M.vl=M.px ad from rfl,hf];unfold dQ.dec;by_cases h1:n<10
 ·rw[aY h1];exact L6 h1 (f+2)
 ·rw[aT h1];by_cases h2:n<100
  ·rw[aY h2];have:=Mc (by omega) h (f+2) (L6 (show n/10<10 by omega) (f+1)) (by simp);simpa using this
  ·rw[aT h2];have a:=L6 (show n/100<10 by omega) f;have b:=Mc (n:=n/10) (by omega) (by omega) (f+1) (by rw[show n/10/10=n/100 by omega];exact a) (by simp);have:=Mc (by omega) h (f+2) b (by simp);simpa using this
theorem akh{n:Nat}(h:n<1000000000):M.Bd (n:Int)=some (dQ.kr n):=by
 unfold M.Bd;have e1:Go.IntKind.wrap .i64 (Int.tdiv (n:Int) 1000000)=((n/1000000:Nat):Int):=by rw[show Int.tdiv (n:Int) 1000000=((n/1000000:Nat):Int)from L8 n 1000000,wrap_i64 (by omega) (by omega)]
 have e2:Int.tmod (Go.IntKind.wrap .i64 (Int.tdiv (n:Int) 1000)) 1000=((n/1000%1000:Nat):Int):=by
  rw[show Int.tdiv (n:Int) 1000=((n/1000:Nat):Int)from L8 n 1000,wrap_i64 (by omega) (by omega)];exact L9 (n/1000) 1000
 have e3:Int.tmod (n:Int) 1000=((n%1000:Nat):Int):=L9 n 1000;have l1:=dQ.nY (n:=n/1000000);have l2:=dQ.nY (n:=n/1000%1000);have l3:=dQ.nY (n:=n%1000);simp only[e1,e2,e3,Md (show n/1000000<1000 by omega),Md (show n/1000%1000<1000 by omega),Md (show n%1000<1000 by omega),ay,aB];rw[Bc (by simp;omega),Bc (by simp;omega),Bc (by simp;omega),Bc (by simp;omega)];unfold dQ.kr;simp
structure TF (k n p d:Nat) (n':Int):Prop where
 fp:p<10^k
 fd:d<=k
 eq:d<=2->n'=(n:Int)
 d0:d=0->n=0
 d1:d=1->n<1001000000000000
 d2:d=2->n<2000000000000000000
theorem Me(s:List UInt8):∀(g k n p d:Nat)(n':Int),k<=min s.length 12->min s.length 12-k<g->TF k n p d n'->
 (dQ.scan (n,p,d) ((s.take 12).drop k)=none/\M.py s g n' (p:Int) (d:Int) (k:Int)=some (.inl (-1)))\/
 ∃(m q e:Nat)(m':Int),dQ.scan (n,p,d) ((s.take 12).drop k)=some (m,q,e)/\M.py s g n' (p:Int) (d:Int) (k:Int)=some (.inr (s,m',(q:Int),(e:Int)))/\TF (min s.length 12) m q e m'
 |0,k,n,p,d,n',h1,h2,_=>by omega
 |g+1,k,n,p,d,n',h1,h2,hI=>by
  rw[M.py];have hlen:(s.take 12).length=min s.length 12:=by rw[om,Nat.min_comm]
  rcases cP k (min s.length 12)with hk|hk
  ·have hks:k<s.length:=by omega
   have hd:(s.take 12).drop k=s[k]::(s.take 12).drop (k+1):=by
    rw[rU (by rw[hlen];exact hk)];congr 1;rw[List.getElem_take]
   have atQ:p<1000000000000:=kY hI.fp (lU (Nat.pow_le_pow_right (by decide) (show k<=12 by omega)) (by decide));have c1:decide ((k:Int)<((s.length:Nat):Int))=true:=by rw[bB];omega
   have c2:decide ((k:Int)<12)=true:=by rw[bB];omega
   have c3:inB (k:Int) s.length=true:=by rw[dD];simpa using hks
   have hw:Go.IntKind.wrap .i64 ((k:Int)+1)=((k+1:Nat):Int):=by rw[wrap_i64 (by omega) (by omega)];omega
   rw[hd];simp only[c1,c2,c3,hw,bw,getD_lt hks,dB,bU,cq,ae];rw[dQ.scan];by_cases h46:s[k]=46
   ·rw[aY h46];have:((((s[k]).toNat:Nat):Int)==46)=true:=by rw[h46];decide
    rw[this,ae];have hw2:Go.IntKind.wrap .i64 ((d:Int)+1)=((d+1:Nat):Int):=by have:=hI.fd;rw[wrap_i64 (by omega) (by omega)];omega
    rw[hw2];refine Me s g (k+1) ((n+p)*1000) 0 (d+1) _ (by omega) (by omega) ⟨Nat.pow_pos (by decide),by have:=hI.fd;omega,fun hd2=>?_,fun h=>by omega,fun h=>?_,fun h=>?_⟩
    ·have hn:n<1001000000000000:=by
      rcases cP d 1 with h|h
      ·rw[hI.d0 (by omega)];decide
      ·exact hI.d1 (by omega)
     rw[hI.eq (by omega),wrap_i64 (n:=(n:Int)+(p:Int)) (by omega) (by omega),wrap_i64 (by omega) (by omega)];omega
    ·rw[hI.d0 (by omega)];omega
    ·have:=hI.d1 (by omega);omega
   ·rw[aT h46];have hne:((((s[k]).toNat:Nat):Int)==46)=false:=by
     rw[cQ];intro e;exact h46 (UInt8.toNat.inj (by have:(46:UInt8).toNat=46:=rfl;omega))
    rw[hne,aR];by_cases hdig:48<=s[k].toNat/\s[k].toNat<=57
    ·rw[aY hdig];have d1:decide ((((s[k]).toNat:Nat):Int)<48)=false:=by rw[fi];omega
     have d2:decide ((57:Int)<(((s[k]).toNat:Nat):Int))=false:=by rw[fi];omega
     have hu:Go.IntKind.wrap .u8 ((((s[k]).toNat:Nat):Int)-48)=((s[k].toNat-48:Nat):Int):=by
      have:∀m:Fin 58,48<=m.val->Go.IntKind.wrap .u8 (((m.val:Nat):Int)-48)=((m.val-48:Nat):Int):=by decide
      exact this ⟨s[k].toNat,by omega⟩ hdig.1
     have hw3:Go.IntKind.wrap .i64 (Go.IntKind.wrap .i64 ((10:Int)*(p:Int))+Go.IntKind.wrap .i64 (((s[k].toNat-48:Nat):Int)))=((10*p+(s[k].toNat-48):Nat):Int):=by
      rw[wrap_i64 (n:=(10:Int)*(p:Int)) (by omega) (by omega),wrap_i64 (n:=((s[k].toNat-48:Nat):Int)) (by omega) (by omega),wrap_i64 (by omega) (by omega)];omega
     simp only[d1,d2,lg,aR,hu,hw3];refine Me s g (k+1) n (10*p+(s[k].toNat-48)) d n' (by omega) (by omega) ⟨?_,by have:=hI.fd;omega,hI.eq,hI.d0,hI.d1,hI.d2⟩;have:=hI.fp;rw[Nat.pow_succ];omega
    ·rw[aT hdig];have:(decide ((((s[k]).toNat:Nat):Int)<48)||decide ((57:Int)<(((s[k]).toNat:Nat):Int)))=true:=by
      rw[ej,bB,bB];omega
     rw[this];exact .inl ⟨rfl,rfl⟩
  ·have hk':k=min s.length 12:=by omega
   subst hk';have hd:(s.take 12).drop (min s.length 12)=[]:=by rw[<-hlen,tY]
   have:(decide (((min s.length 12:Nat):Int)<((s.length:Nat):Int))&&decide (((min s.length 12:Nat):Int)<12))=false:=by
    rw[Bool.and_eq_false_iff,fi,fi];omega
   rw[this,hd];exact .inr ⟨n,p,d,n',rfl,rfl,hI⟩
theorem ahE(s:List UInt8):M.Be s=some (sd s):=by
 have key:∃r:Int,M.Bf s=some r/\decide (0<=r)=(dQ.tK s).isSome:=by
  unfold M.Bf dQ.tK;have hl:=Me s ad 0 0 0 0 0 (dN _) (by have:=bz;omega) ⟨by simp,fh _,fun _=>rfl,fun _=>rfl,fun h=>by omega,fun h=>by omega⟩;rw[lR]at hl;rcases hl with⟨e1,e2⟩|⟨m,q,e,m',e1,e2,hI⟩
  ·have e2':M.py s ad 0 0 0 0=_:=e2;rw[e1,e2'];exact⟨-1,rfl,rfl⟩
  ·have e2':M.py s ad 0 0 0 0=_:=e2;rw[e1,e2'];simp only;have hq:q<1000000000000:=kY hI.fp (lU (Nat.pow_le_pow_right (by decide) (show min s.length 12<=12 by omega)) (by decide));by_cases he:e=2
   ·subst he;have hm:=hI.d2 rfl;have hw:Go.IntKind.wrap .i64 (m'+(q:Int))=((m+q:Nat):Int):=by
     rw[hI.eq (by omega),wrap_i64 (by omega) (by omega)];omega
    rw[hw];by_cases hc:q<=999/\m+q<1000000000
    ·have c1:((((2:Nat):Int) !=2)||decide ((999:Int)<(q:Int)))=false:=by
      rw[jU,fi];exact⟨rfl,by omega⟩
     have c2:(decide ((0:Int)<=((m+q:Nat):Int))&&decide (((m+q:Nat):Int)<=999999999))=true:=by
      rw[cG,bB,bB];omega
     rw[c1,c2,akh hc.2];by_cases ht:dQ.kr (m+q)=s
     ·rw[aY ⟨rfl,hc.1,hc.2,ht⟩];refine⟨((m+q:Nat):Int),?_,by simp;omega⟩;simp[ht]
     ·rw[aT (fun h=>ht h.2.2.2)];refine⟨-1,?_,by simp⟩;have:(dQ.kr (m+q)==s)=false:=by rw[cQ];exact ht
      simp[this]
    ·rw[aT (fun h=>hc ⟨h.2.1,h.2.2.1⟩)];have c:(((((2:Nat):Int) !=2)||decide ((999:Int)<(q:Int)))|| !(decide ((0:Int)<=((m+q:Nat):Int))&&decide (((m+q:Nat):Int)<=999999999)))=true:=by
      rw[ej,ej,bB,fk,Bool.and_eq_false_iff,fi,fi];omega
     rw[c];exact⟨-1,by simp,by simp⟩
   ·rw[aT (fun h=>he h.1)];have c:((((e:Nat):Int) !=2))=true:=by rw[yN];omega
    rw[c];exact⟨-1,by simp,by simp⟩
 obtain⟨r,h1,h2⟩:=key;unfold M.Be sd;rw[h1,dQ.ad4];simp only[aB,ay,dB,ae,h2]
end M
