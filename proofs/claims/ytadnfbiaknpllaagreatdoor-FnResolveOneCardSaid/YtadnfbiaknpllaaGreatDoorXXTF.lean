/-
  NAMES AND TYPES: what is right, in plain Lean.
-/
import Derived.Test.YtadnfbiaknpllaaGreatDoorXXplA
import Derived.Test.YtadnfbiaknpllaaGreatDoorXZSM
import Derived.Test.YtadnfbiaknpllaaGreatDoorXVER
set_option linter.unusedVariables false
namespace M
open Go.V (inB bN ae aZ)
def sC(c:UInt8):Bool:=decide ((97:Int)<=((c.toNat:Nat):Int))&&decide (((c.toNat:Nat):Int)<=122)
def MV(c:UInt8):Bool:=decide ((48:Int)<=((c.toNat:Nat):Int))&&decide (((c.toNat:Nat):Int)<=57)
def uL(c:UInt8):Bool:=((c.toNat:Nat):Int)==45
def sD(s:List UInt8)(k:Nat):Bool:=sC (s.getD k 0)||(decide (0<k)&&((MV (s.getD k 0)||uL (s.getD k 0))&& !(uL (s.getD k 0)&&uL (s.getD (k-1) 0))))
def l7(s:List UInt8):Bool:=(List.range s.length).all (sD s)&&((decide (1<=s.length)&&decide (s.length<=12))&& !uL (s.getD (s.length-1) 0))
def arJ(l:List (List UInt8)):Bool:=(decide (1<=l.length)&&decide (l.length<=16))&&(nodupB l&&l.all l7)
end M
set_option linter.unusedSimpArgs false
namespace M
open Go.V (inB bN ae aZ)
theorem Gg{k n:Nat}(h0:0<k)(h:k<=n)(hn:n<2^62):Go.IntKind.wrap .i64 ((k:Int)-1)=((k-1:Nat):Int):=by
 rw[wrap_i64 (by omega) (by omega)];omega
theorem RZ(s:List UInt8)(hs:s.length<=1048576):M.wB s=some (l7 s):=by
 unfold M.wB;rw[UM (p:=sD s) (F:=M.uM s (s.length:Int)) (e:=s) (b:=false) s.length (by omega) (fun f k hk=>by
  rw[M.uM];simp only[bG,db,fP,hk,eG,ad,bh,bj,bQ,cT hk (iJ hs),sD,sC,MV,uL,yS];generalize decide ((97:Int)<=(((s.getD k 0).toNat:Nat):Int))=a1;generalize decide ((((s.getD k 0).toNat:Nat):Int)<=122)=a2;generalize decide ((48:Int)<=(((s.getD k 0).toNat:Nat):Int))=a3;generalize decide ((((s.getD k 0).toNat:Nat):Int)<=57)=a4;generalize ((((s.getD k 0).toNat:Nat):Int)==45)=a5;rcases pH k with h0|h0
  ·subst h0;cases a1<;>cases a2<;>cases a3<;>cases a4<;>cases a5<;>simp
  ·have e0:((k:Int)==0)=false:=by rw[cO];omega
   have hk1:k-1<s.length:=by omega
   simp only[e0,Gg h0 (Nat.le_of_lt hk) (iJ hs),bG,db,hk1,h0,eG];generalize ((((s.getD (k-1) 0).toNat:Nat):Int)==45)=a6;cases a1<;>cases a2<;>cases a3<;>cases a4<;>cases a5<;>cases a6<;>simp) (fun f=>by rw[M.uM];simp)]
 unfold l7;cases hall:(List.range s.length).all (sD s)
 ·simp
 ·simp only[Dx,yS,bj];rcases pH s.length with h0|h0
  ·simp[h0]
  ·have h1:s.length-1<s.length:=by omega
   have e1:decide ((1:Int)<=((s.length:Nat):Int))=decide (1<=s.length):=by simp only[mG];omega
   have e2:decide (((s.length:Nat):Int)<=12)=decide (s.length<=12):=by simp only[mG];omega
   simp only[Gg h0 (cq _) (iJ hs),bG,db,h1,eG,bh,bQ,ad,e1,e2,uL]
theorem agV(s:List UInt8)(hs:s.length<=1048576):M.C0 s=some (l7 s):=by
 unfold M.C0;rcases pH s.length with h0|h0
 ·have:s=[]:=mE h0;subst this;rfl
 have h1:s.length-1<s.length:=by omega
 simp only[Gg h0 (cq _) (iJ hs),bG,db,h1,Int.toNat_zero,eG,bh,bQ,ad];have hz:inB (0:Int) s.length=true:=by
  show inB ((0:Nat):Int) s.length=true
  rw[db];simpa using h0
 simp only[hz,bh,bQ,ad];have e1:decide (((s.length:Nat):Int)<1)= !decide (1<=s.length):=by rw[<-qV];simp only[mG];omega
 have e2:decide ((12:Int)<((s.length:Nat):Int))= !decide (s.length<=12):=by rw[<-qV];simp only[mG];omega
 have e3:decide ((((s.getD 0 0).toNat:Nat):Int)<97)= !decide ((97:Int)<=(((s.getD 0 0).toNat:Nat):Int)):=by rw[<-qV];simp only[mG];omega
 have e4:decide ((122:Int)<(((s.getD 0 0).toNat:Nat):Int))= !decide ((((s.getD 0 0).toNat:Nat):Int)<=122):=by rw[<-qV];simp only[mG];omega
 rw[e1,e2,e3,e4];by_cases hlow:sC (s.getD 0 0)=true
 ·have hl:=hlow;simp only[sC,bu]at hl;rw[UM (p:=sD s) (F:=M.wC s) (e:=()) (b:=false) s.length (by omega) (fun f k hk=>by
   rw[M.wC];have f1:decide ((((s.getD k 0).toNat:Nat):Int)<97)= !decide ((97:Int)<=(((s.getD k 0).toNat:Nat):Int)):=by rw[<-qV];simp only[mG];omega
   have f2:decide ((122:Int)<(((s.getD k 0).toNat:Nat):Int))= !decide ((((s.getD k 0).toNat:Nat):Int)<=122):=by rw[<-qV];simp only[mG];omega
   have f3:decide ((((s.getD k 0).toNat:Nat):Int)<48)= !decide ((48:Int)<=(((s.getD k 0).toNat:Nat):Int)):=by rw[<-qV];simp only[mG];omega
   have f4:decide ((57:Int)<(((s.getD k 0).toNat:Nat):Int))= !decide ((((s.getD k 0).toNat:Nat):Int)<=57):=by rw[<-qV];simp only[mG];omega
   simp only[bG,db,fP,hk,eG,ad,bh,bj,bQ,cT hk (iJ hs),sD,sC,MV,uL,yS,f1,f2,f3,f4];have dash:sC (s.getD k 0)=true->((((s.getD k 0).toNat:Nat):Int)==45)=false:=fun h=>by
    simp only[sC,bu,bX]at h;rw[cO];omega
   simp only[sC]at dash;rcases pH k with k0|k0
   ·subst k0;rw[hl.1,hl.2]at*;simp only[ak]at dash;rw[dash trivial];simp
   ·have hk1:k-1<s.length:=by omega
    simp only[Gg k0 (Nat.le_of_lt hk) (iJ hs),bG,db,hk1,k0,eG];generalize ((((s.getD (k-1) 0).toNat:Nat):Int)==45)=a6
    revert dash
    generalize decide ((97:Int)<=(((s.getD k 0).toNat:Nat):Int))=a1;generalize decide ((((s.getD k 0).toNat:Nat):Int)<=122)=a2;generalize decide ((48:Int)<=(((s.getD k 0).toNat:Nat):Int))=a3;generalize decide ((((s.getD k 0).toNat:Nat):Int)<=57)=a4;generalize ((((s.getD k 0).toNat:Nat):Int)==45)=a5;intro dash;cases a1<;>cases a2<;>cases a3<;>cases a4<;>cases a5<;>cases a6<;>simp at dash⊢) (fun f=>by rw[M.wC];simp)]
  rw[hl.1,hl.2];unfold l7 uL;cases (List.range s.length).all (sD s)<;>cases decide (1<=s.length)<;>cases decide (s.length<=12)<;>cases ((((s.getD (s.length-1) 0).toNat:Nat):Int)==45)<;>rfl
 ·have hno:l7 s=false:=by
   unfold l7;have:(List.range s.length).all (sD s)=false:=by
    rw[List.all_eq_false];refine⟨0,by simpa using h0,?_⟩;simp only[sQ]at hlow;simp only[sD,hlow];intro h;cases h
   rw[this];rfl
  rw[hno];simp only[sQ]at hlow;simp only[sC]at hlow;cases h3:decide ((97:Int)<=(((s.getD 0 0).toNat:Nat):Int))<;>cases h4:decide ((((s.getD 0 0).toNat:Nat):Int)<=122)<;>rw[h3,h4]at hlow<;>simp at hlow⊢
end M
namespace M
open Go.V (inB bN ae aZ)
def nC(s:List UInt8):Bool:=(cQ.ix s).isSome
theorem aj6(s:List UInt8):(match M.d5 s with|(v,b)=>if b=true/\(0<=v/\v<=999)then some v.toNat else none)=cQ.pE s:=by
 unfold M.d5 cQ.pE;cases Go.Lib.parseIntB 64 s with
 |ok v=>
  simp only;by_cases h:Go.Lib.itoa v=s
  ·rw[bf h];simp only[h,true_and]
  ·rw[bg h];simp[h]
 |_=>simp
theorem zf(s:List UInt8):(cQ.pE s=none/\((!(M.d5 s).2)||(!(decide ((0:Int)<=(M.d5 s).1)&&decide ((M.d5 s).1<=999))))=true)\/∃n:Nat,cQ.pE s=some n/\n<=999/\(M.d5 s).1=(n:Int)/\((!(M.d5 s).2)||(!(decide ((0:Int)<=(M.d5 s).1)&&decide ((M.d5 s).1<=999))))=false:=by
 have h:=aj6 s;generalize M.d5 s=p at h;obtain⟨v,b⟩:=p;simp only at h⊢;by_cases hc:b=true/\(0<=v/\v<=999)
 ·rw[bf hc]at h;exact .inr ⟨v.toNat,h.symm,by omega,by omega,by simp[hc.1,hc.2.1,hc.2.2]⟩
 ·rw[bg hc]at h;refine .inl ⟨h.symm,?_⟩;cases b
  ·rfl
  ·simp only[bV,ln,fb,Bool.and_eq_false_iff,fa];simp only[true_and]at hc;omega
theorem UD(s:List UInt8):∀p∈cQ.ef s,p.length<=s.length:=by
 have key:∀(s:List UInt8),∀p∈cQ.ef s,p.length<=s.length:=by
  intro s
  induction s with
  |nil=>intro p hp;simp[cQ.ef]at hp;subst hp;simp
  |cons c r ih=>
   intro p hp;unfold cQ.ef at hp;split at hp
   ·rcases fe.1 hp with rfl|hp
    ·simp
    ·have:=ih p hp;simp;omega
   ·split at hp
    ·rename_i x y e;rw[e]at ih;rcases fe.1 hp with rfl|hp
     ·have:=ih x (by simp);simp;omega
     ·have:=ih p (by simp[hp]);simp;omega
    ·simp at hp;subst hp;simp
 exact key s
theorem R9(s:List UInt8)(h:s.length<=1048576):M.wE s=some (nC s):=by
 have hs:M.strings_Split s [46]=some (cQ.ef s):=by
  unfold M.strings_Split;have:decide (s.length<4294967281)=true:=by rw[bX];omega
  rw[this];rfl
 have hrd:∀p∈cQ.ef s,M.nz p=some (M.d5 p):=fun p hp=>by
  have:=UD s p hp;unfold M.nz;have:decide (p.length<=281474976710656)=true:=by rw[bX];omega
  rw[this];rfl
 have hv:∃v:Int×Bool,M.nZ s=some v/\v.2=nC s:=by
  unfold M.nZ nC cQ.ix;rw[hs];simp only[an,ar,bj,bQ,ad]
  match hp:cQ.ef s,hrd with
  |[],_=>exact⟨_,rfl,rfl⟩
  |[a],_=>exact⟨_,rfl,rfl⟩
  |[a,b],_=>exact⟨_,rfl,rfl⟩
  |a::b::c::d::r,_=>
   have:((((a::b::c::d::r).length:Nat):Int) !=3)=true:=by
    simp only[aE,lR];omega
   rw[this];exact⟨_,rfl,rfl⟩
  |[a,b,c],hrd=>
    have h3:((((([a,b,c]:List (List UInt8)).length:Nat):Int) !=3))=false:=rfl;rw[h3];simp only[al];obtain⟨f0,hf0⟩:∃f0,ae=f0+4:=⟨ae-4,by have:=aZ;omega⟩;have ra:=hrd a (by simp);have rb:=hrd b (by simp);have rc:=hrd c (by simp);have st:∀(f:Nat)(n:Int)(k:Nat)(p:List UInt8)(hk:k<3),([a,b,c].getD k [])=p->M.nz p=some (M.d5 p)->M.my [a,b,c] ((([a,b,c]:List (List UInt8)).length:Nat):Int) (f+1) n (k:Int)=
     bif((!(M.d5 p).2)||(!(decide ((0:Int)<=(M.d5 p).1)&&decide ((M.d5 p).1<=999))))then some (.inl (0,false))else M.my [a,b,c] ((([a,b,c]:List (List UInt8)).length:Nat):Int) f (Go.IntKind.wrap .i64 (Go.IntKind.wrap .i64 (n*1000)+(M.d5 p).1)) ((k+1:Nat):Int):=fun f n k p hk hg hr=>by
     rw[M.my];have hlt:decide ((k:Int)<((([a,b,c]:List (List UInt8)).length:Nat):Int))=true:=by simp;omega
     have hin:inB (k:Int) ([a,b,c]:List (List UInt8)).length=true:=by rw[db];simp;omega
     simp only[hlt,ad,bG,hg,hr,an,ar,hin,bj,bQ,cT (show k<3 from hk) (by omega)]
    have e0:=st (f0+3) 0 0 a (by omega) rfl ra;rw[hf0];change M.my [a,b,c] ((([a,b,c]:List (List UInt8)).length:Nat):Int) (f0+4) 0 0=_ at e0;rw[e0];rcases zf a with⟨ha,ca⟩|⟨x,ha,hx,ea,ca⟩
    ·rw[ca,ha];exact⟨_,rfl,rfl⟩
    rw[ca,ha];have w1:Go.IntKind.wrap .i64 (Go.IntKind.wrap .i64 ((0:Int)*1000)+(M.d5 a).1)=(x:Int):=by
     rw[ea,wrap_i64 (n:=0*1000) (by omega) (by omega),wrap_i64 (by omega) (by omega)];omega
    rw[al,w1,st (f0+2) _ 1 b (by omega) rfl rb];rcases zf b with⟨hb,cb⟩|⟨y,hb,hy,eb,cb⟩
    ·rw[cb,hb];exact⟨_,rfl,rfl⟩
    rw[cb,hb];have w2:Go.IntKind.wrap .i64 (Go.IntKind.wrap .i64 ((x:Int)*1000)+(M.d5 b).1)=((x*1000+y:Nat):Int):=by
     rw[eb,wrap_i64 (show -9223372036854775808<=(x:Int)*1000 by omega) (by omega),wrap_i64 (by omega) (by omega)];omega
    rw[al,w2,st (f0+1) _ 2 c (by omega) rfl rc];rcases zf c with⟨hc,cc⟩|⟨z,hc,hz,ec,cc⟩
    ·rw[cc,hc];exact⟨_,rfl,rfl⟩
    rw[cc,hc];have w3:Go.IntKind.wrap .i64 (Go.IntKind.wrap .i64 (((x*1000+y:Nat):Int)*1000)+(M.d5 c).1)=(((x*1000+y)*1000+z:Nat):Int):=by
     rw[ec,wrap_i64 (show -9223372036854775808<=((x*1000+y:Nat):Int)*1000 by omega) (by omega),wrap_i64 (by omega) (by omega)];omega
    rw[al,w3,M.my];exact⟨_,rfl,rfl⟩
 obtain⟨v,h1,h2⟩:=hv;unfold M.wE;rw[h1];simp only[ar,an,bQ,ad,h2]
end M
namespace M
open Go.V (inB bN ae aZ)
theorem UN{n:Nat}(h:n<10):Go.IntKind.wrap .u8 (Go.IntKind.wrap .i64 ((48:Int)+(n:Int)))=((48+n:Nat):Int):=by
 rw[wrap_i64 (by omega) (by omega)];have:∀m:Fin 10,Go.IntKind.wrap .u8 ((48:Int)+((m.val:Nat):Int))=((48+m.val:Nat):Int):=by decide
 exact this ⟨n,h⟩
theorem UO{n:Nat}(h:n<10):Go.V.pZ ((48+n:Nat):Int)=true:=by
 unfold Go.V.pZ;simp only[bu,bX];omega
theorem UP(n:Nat):Go.V.qa ((48+n:Nat):Int)=UInt8.ofNat (48+n):=by
 unfold Go.V.qa;rw[bG]
theorem MW{n:Nat}(h:n<10)(f:Nat):M.qI (f+1) (n:Int)=some [UInt8.ofNat (48+n)]:=by
 show M.zj (M.qI f) (n:Int)=_
 unfold M.zj;have:decide ((n:Int)<10)=true:=by rw[bX];omega
 simp only[this,UN h,UO h,UP];rfl
theorem MX(a b:Nat):Int.tdiv (a:Int) (b:Int)=((a/b:Nat):Int):=(Int.ofNat_tdiv a b).symm
theorem MY(a b:Nat):Int.tmod (a:Int) (b:Int)=((a%b:Nat):Int):=(Int.ofNat_tmod a b).symm
theorem C2{a b:List UInt8}(h:a.length+b.length<=4611686018427387904):Go.V.au a b=true:=by
 unfold Go.V.au;rw[bX];exact h
theorem MZ{n:Nat}(h:10<=n)(hn:n<1000)(f:Nat){x:List UInt8}(hx:M.qI f ((n/10:Nat):Int)=some x)(hl:x.length<=10):M.qI (f+1) (n:Int)=some (x++[UInt8.ofNat (48+n%10)]):=by
 show M.zj (M.qI f) (n:Int)=_
 unfold M.zj;have h1:decide ((n:Int)<10)=false:=by rw[fa];omega
 have h2:Go.IntKind.wrap .i64 (Int.tdiv (n:Int) 10)=((n/10:Nat):Int):=by
  rw[show Int.tdiv (n:Int) 10=((n/10:Nat):Int)from MX n 10,wrap_i64 (by omega) (by omega)]
 have h3:Int.tmod (n:Int) 10=((n%10:Nat):Int):=MY n 10;have h4:n%10<10:=Nat.mod_lt _ (by decide);simp only[h1,h2,h3,hx,UN h4,UO h4,UP,an,ar,al,eR,List.map_nil];rw[C2 (by simp;omega)];rfl
theorem M1{n:Nat}(h:n<1000):M.wF (n:Int)=some (cQ.dec n):=by
 obtain⟨f,hf⟩:∃f,ae=f+3:=⟨ae-3,by have:=aZ;omega⟩;rw[show M.wF=M.qI ae from rfl,hf];unfold cQ.dec;by_cases h1:n<10
 ·rw[bf h1];exact MW h1 (f+2)
 ·rw[bg h1];by_cases h2:n<100
  ·rw[bf h2];have:=MZ (by omega) h (f+2) (MW (show n/10<10 by omega) (f+1)) (by simp);simpa using this
  ·rw[bg h2];have a:=MW (show n/100<10 by omega) f;have b:=MZ (n:=n/10) (by omega) (by omega) (f+1) (by rw[show n/10/10=n/100 by omega];exact a) (by simp);have:=MZ (by omega) h (f+2) b (by simp);simpa using this
theorem UE{n:Nat}(h:n<1000000000):M.C3 (n:Int)=some (cQ.jZ n):=by
 unfold M.C3;have e1:Go.IntKind.wrap .i64 (Int.tdiv (n:Int) 1000000)=((n/1000000:Nat):Int):=by rw[show Int.tdiv (n:Int) 1000000=((n/1000000:Nat):Int)from MX n 1000000,wrap_i64 (by omega) (by omega)]
 have e2:Int.tmod (Go.IntKind.wrap .i64 (Int.tdiv (n:Int) 1000)) 1000=((n/1000%1000:Nat):Int):=by
  rw[show Int.tdiv (n:Int) 1000=((n/1000:Nat):Int)from MX n 1000,wrap_i64 (by omega) (by omega)];exact MY (n/1000) 1000
 have e3:Int.tmod (n:Int) 1000=((n%1000:Nat):Int):=MY n 1000;have l1:=cQ.pD (n:=n/1000000);have l2:=cQ.pD (n:=n/1000%1000);have l3:=cQ.pD (n:=n%1000);simp only[e1,e2,e3,M1 (show n/1000000<1000 by omega),M1 (show n/1000%1000<1000 by omega),M1 (show n%1000<1000 by omega),an,ar];rw[C2 (by simp;omega),C2 (by simp;omega),C2 (by simp;omega),C2 (by simp;omega)];unfold cQ.jZ;simp
structure UQ (k n p d:Nat) (n':Int):Prop where
 fp:p<10^k
 fd:d<=k
 eq:d<=2->n'=(n:Int)
 d0:d=0->n=0
 d1:d=1->n<1001000000000000
 d2:d=2->n<2000000000000000000
theorem F5(s:List UInt8):∀(g k n p d:Nat)(n':Int),k<=min s.length 12->min s.length 12-k<g->UQ k n p d n'->
 (cQ.scan (n,p,d) ((s.take 12).drop k)=none/\M.oa s g n' (p:Int) (d:Int) (k:Int)=some (.inl (-1)))\/
 ∃(m q e:Nat)(m':Int),cQ.scan (n,p,d) ((s.take 12).drop k)=some (m,q,e)/\M.oa s g n' (p:Int) (d:Int) (k:Int)=some (.inr (s,m',(q:Int),(e:Int)))/\UQ (min s.length 12) m q e m'
 |0,k,n,p,d,n',h1,h2,_=>by omega
 |g+1,k,n,p,d,n',h1,h2,hI=>by
  rw[M.oa];have hlen:(s.take 12).length=min s.length 12:=by rw[ov,Nat.min_comm]
  rcases cU k (min s.length 12)with hk|hk
  ·have hks:k<s.length:=by omega
   have hd:(s.take 12).drop k=s[k]::(s.take 12).drop (k+1):=by
    rw[x8 (by rw[hlen];exact hk)];congr 1;rw[List.getElem_take]
   have arK:p<1000000000000:=kC hI.fp (lQ (Nat.pow_le_pow_right (by decide) (show k<=12 by omega)) (by decide));have c1:decide ((k:Int)<((s.length:Nat):Int))=true:=by rw[bX];omega
   have c2:decide ((k:Int)<12)=true:=by rw[bX];omega
   have c3:inB (k:Int) s.length=true:=by rw[db];simpa using hks
   have hw:Go.IntKind.wrap .i64 ((k:Int)+1)=((k+1:Nat):Int):=by rw[wrap_i64 (by omega) (by omega)];omega
   rw[hd];simp only[c1,c2,c3,hw,bG,getD_lt hks,bQ,bj,bh,ad];rw[cQ.scan];by_cases h46:s[k]=46
   ·rw[bf h46];have:((((s[k]).toNat:Nat):Int)==46)=true:=by rw[h46];decide
    rw[this,ad];have hw2:Go.IntKind.wrap .i64 ((d:Int)+1)=((d+1:Nat):Int):=by have:=hI.fd;rw[wrap_i64 (by omega) (by omega)];omega
    rw[hw2];refine F5 s g (k+1) ((n+p)*1000) 0 (d+1) _ (by omega) (by omega) ⟨Nat.pow_pos (by decide),by have:=hI.fd;omega,fun hd2=>?_,fun h=>by omega,fun h=>?_,fun h=>?_⟩
    ·have hn:n<1001000000000000:=by
      rcases cU d 1 with h|h
      ·rw[hI.d0 (by omega)];decide
      ·exact hI.d1 (by omega)
     rw[hI.eq (by omega),wrap_i64 (n:=(n:Int)+(p:Int)) (by omega) (by omega),wrap_i64 (by omega) (by omega)];omega
    ·rw[hI.d0 (by omega)];omega
    ·have:=hI.d1 (by omega);omega
   ·rw[bg h46];have hne:((((s[k]).toNat:Nat):Int)==46)=false:=by
     rw[cO];intro e;exact h46 (UInt8.toNat.inj (by have:(46:UInt8).toNat=46:=rfl;omega))
    rw[hne,al];by_cases hdig:48<=s[k].toNat/\s[k].toNat<=57
    ·rw[bf hdig];have d1:decide ((((s[k]).toNat:Nat):Int)<48)=false:=by rw[fa];omega
     have d2:decide ((57:Int)<(((s[k]).toNat:Nat):Int))=false:=by rw[fa];omega
     have hu:Go.IntKind.wrap .u8 ((((s[k]).toNat:Nat):Int)-48)=((s[k].toNat-48:Nat):Int):=by
      have:∀m:Fin 58,48<=m.val->Go.IntKind.wrap .u8 (((m.val:Nat):Int)-48)=((m.val-48:Nat):Int):=by decide
      exact this ⟨s[k].toNat,by omega⟩ hdig.1
     have hw3:Go.IntKind.wrap .i64 (Go.IntKind.wrap .i64 ((10:Int)*(p:Int))+Go.IntKind.wrap .i64 (((s[k].toNat-48:Nat):Int)))=((10*p+(s[k].toNat-48):Nat):Int):=by
      rw[wrap_i64 (n:=(10:Int)*(p:Int)) (by omega) (by omega),wrap_i64 (n:=((s[k].toNat-48:Nat):Int)) (by omega) (by omega),wrap_i64 (by omega) (by omega)];omega
     simp only[d1,d2,lP,al,hu,hw3];refine F5 s g (k+1) n (10*p+(s[k].toNat-48)) d n' (by omega) (by omega) ⟨?_,by have:=hI.fd;omega,hI.eq,hI.d0,hI.d1,hI.d2⟩;have:=hI.fp;rw[Nat.pow_succ];omega
    ·rw[bg hdig];have:(decide ((((s[k]).toNat:Nat):Int)<48)||decide ((57:Int)<(((s[k]).toNat:Nat):Int)))=true:=by
      rw[gu,bX,bX];omega
     rw[this];exact .inl ⟨rfl,rfl⟩
  ·have hk':k=min s.length 12:=by omega
   subst hk';have hd:(s.take 12).drop (min s.length 12)=[]:=by rw[<-hlen,xe]
   have:(decide (((min s.length 12:Nat):Int)<((s.length:Nat):Int))&&decide (((min s.length 12:Nat):Int)<12))=false:=by
    rw[Bool.and_eq_false_iff,fa,fa];omega
   rw[this,hd];exact .inr ⟨n,p,d,n',rfl,rfl,hI⟩
theorem agZ(s:List UInt8):M.C4 s=some (nC s):=by
 have key:∃r:Int,M.px s=some r/\decide (0<=r)=(cQ.pF s).isSome:=by
  unfold M.px cQ.pF;have hl:=F5 s ae 0 0 0 0 0 (cN _) (by have:=aZ;omega) ⟨by simp,cq _,fun _=>rfl,fun _=>rfl,fun h=>by omega,fun h=>by omega⟩;rw[ig]at hl;rcases hl with⟨e1,e2⟩|⟨m,q,e,m',e1,e2,hI⟩
  ·have e2':M.oa s ae 0 0 0 0=_:=e2;rw[e1,e2'];exact⟨-1,rfl,rfl⟩
  ·have e2':M.oa s ae 0 0 0 0=_:=e2;rw[e1,e2'];simp only;have hq:q<1000000000000:=kC hI.fp (lQ (Nat.pow_le_pow_right (by decide) (show min s.length 12<=12 by omega)) (by decide));by_cases he:e=2
   ·subst he;have hm:=hI.d2 rfl;have hw:Go.IntKind.wrap .i64 (m'+(q:Int))=((m+q:Nat):Int):=by
     rw[hI.eq (by omega),wrap_i64 (by omega) (by omega)];omega
    rw[hw];by_cases hc:q<=999/\m+q<1000000000
    ·have c1:((((2:Nat):Int) !=2)||decide ((999:Int)<(q:Int)))=false:=by
      rw[lj,fa];exact⟨rfl,by omega⟩
     have c2:(decide ((0:Int)<=((m+q:Nat):Int))&&decide (((m+q:Nat):Int)<=999999999))=true:=by
      rw[bu,bX,bX];omega
     rw[c1,c2,UE hc.2];by_cases ht:cQ.jZ (m+q)=s
     ·rw[bf ⟨rfl,hc.1,hc.2,ht⟩];refine⟨((m+q:Nat):Int),?_,by simp;omega⟩;simp[ht]
     ·rw[bg (fun h=>ht h.2.2.2)];refine⟨-1,?_,by simp⟩;have:(cQ.jZ (m+q)==s)=false:=by rw[cO];exact ht
      simp[this]
    ·rw[bg (fun h=>hc ⟨h.2.1,h.2.2.1⟩)];have c:(((((2:Nat):Int) !=2)||decide ((999:Int)<(q:Int)))|| !(decide ((0:Int)<=((m+q:Nat):Int))&&decide (((m+q:Nat):Int)<=999999999)))=true:=by
      rw[gu,gu,bX,fb,Bool.and_eq_false_iff,fa,fa];omega
     rw[c];exact⟨-1,by simp,by simp⟩
   ·rw[bg (fun h=>he h.1)];have c:((((e:Nat):Int) !=2))=true:=by rw[lR];omega
    rw[c];exact⟨-1,by simp,by simp⟩
 obtain⟨r,h1,h2⟩:=key;unfold M.C4 nC;rw[h1,cQ.Oz];simp only[ar,an,bQ,ad,h2]
end M
