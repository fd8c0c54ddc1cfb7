/-
  NAMES AND TYPES: what is right, in plain Lean.
-/
import Derived.Test.YtojfkjgemgjjkaaGreatDoorXXplA
import Derived.Test.YtojfkjgemgjjkaaGreatDoorXZQM
import Derived.Test.YtojfkjgemgjjkaaGreatDoorXVER
set_option linter.unusedVariables false
namespace M
open Go.V (inB bS ae bf)
def si(c:UInt8):Bool:=decide ((97:Int)<=((c.toNat:Nat):Int))&&decide (((c.toNat:Nat):Int)<=122)
def LX(c:UInt8):Bool:=decide ((48:Int)<=((c.toNat:Nat):Int))&&decide (((c.toNat:Nat):Int)<=57)
def uG(c:UInt8):Bool:=((c.toNat:Nat):Int)==45
def sj(s:List UInt8)(k:Nat):Bool:=si (s.getD k 0)||(decide (0<k)&&((LX (s.getD k 0)||uG (s.getD k 0))&& !(uG (s.getD k 0)&&uG (s.getD (k-1) 0))))
def l7(s:List UInt8):Bool:=(List.range s.length).all (sj s)&&((decide (1<=s.length)&&decide (s.length<=12))&& !uG (s.getD (s.length-1) 0))
def apZ(l:List (List UInt8)):Bool:=(decide (1<=l.length)&&decide (l.length<=16))&&(nodupB l&&l.all l7)
end M
set_option linter.unusedSimpArgs false
namespace M
open Go.V (inB bS ae bf)
theorem FH{k n:Nat}(h0:0<k)(h:k<=n)(hn:n<2^62):Go.IntKind.wrap .i64 ((k:Int)-1)=((k-1:Nat):Int):=by
 rw[wrap_i64 (by omega) (by omega)];omega
theorem Ri(s:List UInt8)(hs:s.length<=1048576):M.wu s=some (l7 s):=by
 unfold M.wu;rw[T8 (p:=sj s) (F:=M.uH s (s.length:Int)) (e:=s) (b:=false) s.length (by omega) (fun f k hk=>by
  rw[M.uH];simp only[bN,cZ,fY,hk,eB,ad,bu,bj,bM,da hk (iO hs),sj,si,LX,uG,yJ];generalize decide ((97:Int)<=(((s.getD k 0).toNat:Nat):Int))=a1;generalize decide ((((s.getD k 0).toNat:Nat):Int)<=122)=a2;generalize decide ((48:Int)<=(((s.getD k 0).toNat:Nat):Int))=a3;generalize decide ((((s.getD k 0).toNat:Nat):Int)<=57)=a4;generalize ((((s.getD k 0).toNat:Nat):Int)==45)=a5;rcases pB k with h0|h0
  ·subst h0;cases a1<;>cases a2<;>cases a3<;>cases a4<;>cases a5<;>simp
  ·have e0:((k:Int)==0)=false:=by rw[cL];omega
   have hk1:k-1<s.length:=by omega
   simp only[e0,FH h0 (Nat.le_of_lt hk) (iO hs),bN,cZ,hk1,h0,eB];generalize ((((s.getD (k-1) 0).toNat:Nat):Int)==45)=a6;cases a1<;>cases a2<;>cases a3<;>cases a4<;>cases a5<;>cases a6<;>simp) (fun f=>by rw[M.uH];simp)]
 unfold l7;cases hall:(List.range s.length).all (sj s)
 ·simp
 ·simp only[nc,yJ,bj];rcases pB s.length with h0|h0
  ·simp[h0]
  ·have h1:s.length-1<s.length:=by omega
   have e1:decide ((1:Int)<=((s.length:Nat):Int))=decide (1<=s.length):=by simp only[m8];omega
   have e2:decide (((s.length:Nat):Int)<=12)=decide (s.length<=12):=by simp only[m8];omega
   simp only[FH h0 (cu _) (iO hs),bN,cZ,h1,eB,bu,bM,ad,e1,e2,uG]
theorem afD(s:List UInt8)(hs:s.length<=1048576):M.CB s=some (l7 s):=by
 unfold M.CB;rcases pB s.length with h0|h0
 ·have:s=[]:=mE h0;subst this;rfl
 have h1:s.length-1<s.length:=by omega
 simp only[FH h0 (cu _) (iO hs),bN,cZ,h1,Int.toNat_zero,eB,bu,bM,ad];have hz:inB (0:Int) s.length=true:=by
  show inB ((0:Nat):Int) s.length=true
  rw[cZ];simpa using h0
 simp only[hz,bu,bM,ad];have e1:decide (((s.length:Nat):Int)<1)= !decide (1<=s.length):=by rw[<-sK];simp only[m8];omega
 have e2:decide ((12:Int)<((s.length:Nat):Int))= !decide (s.length<=12):=by rw[<-sK];simp only[m8];omega
 have e3:decide ((((s.getD 0 0).toNat:Nat):Int)<97)= !decide ((97:Int)<=(((s.getD 0 0).toNat:Nat):Int)):=by rw[<-sK];simp only[m8];omega
 have e4:decide ((122:Int)<(((s.getD 0 0).toNat:Nat):Int))= !decide ((((s.getD 0 0).toNat:Nat):Int)<=122):=by rw[<-sK];simp only[m8];omega
 rw[e1,e2,e3,e4];by_cases hlow:si (s.getD 0 0)=true
 ·have hl:=hlow;simp only[si,bz]at hl;rw[T8 (p:=sj s) (F:=M.wv s) (e:=()) (b:=false) s.length (by omega) (fun f k hk=>by
   rw[M.wv];have f1:decide ((((s.getD k 0).toNat:Nat):Int)<97)= !decide ((97:Int)<=(((s.getD k 0).toNat:Nat):Int)):=by rw[<-sK];simp only[m8];omega
   have f2:decide ((122:Int)<(((s.getD k 0).toNat:Nat):Int))= !decide ((((s.getD k 0).toNat:Nat):Int)<=122):=by rw[<-sK];simp only[m8];omega
   have f3:decide ((((s.getD k 0).toNat:Nat):Int)<48)= !decide ((48:Int)<=(((s.getD k 0).toNat:Nat):Int)):=by rw[<-sK];simp only[m8];omega
   have f4:decide ((57:Int)<(((s.getD k 0).toNat:Nat):Int))= !decide ((((s.getD k 0).toNat:Nat):Int)<=57):=by rw[<-sK];simp only[m8];omega
   simp only[bN,cZ,fY,hk,eB,ad,bu,bj,bM,da hk (iO hs),sj,si,LX,uG,yJ,f1,f2,f3,f4];have dash:si (s.getD k 0)=true->((((s.getD k 0).toNat:Nat):Int)==45)=false:=fun h=>by
    simp only[si,bz,ct]at h;rw[cL];omega
   simp only[si]at dash;rcases pB k with k0|k0
   ·subst k0;rw[hl.1,hl.2]at*;simp only[aj]at dash;rw[dash trivial];simp
   ·have hk1:k-1<s.length:=by omega
    simp only[FH k0 (Nat.le_of_lt hk) (iO hs),bN,cZ,hk1,k0,eB];generalize ((((s.getD (k-1) 0).toNat:Nat):Int)==45)=a6
    revert dash
    generalize decide ((97:Int)<=(((s.getD k 0).toNat:Nat):Int))=a1;generalize decide ((((s.getD k 0).toNat:Nat):Int)<=122)=a2;generalize decide ((48:Int)<=(((s.getD k 0).toNat:Nat):Int))=a3;generalize decide ((((s.getD k 0).toNat:Nat):Int)<=57)=a4;generalize ((((s.getD k 0).toNat:Nat):Int)==45)=a5;intro dash;cases a1<;>cases a2<;>cases a3<;>cases a4<;>cases a5<;>cases a6<;>simp at dash⊢) (fun f=>by rw[M.wv];simp)]
  rw[hl.1,hl.2];unfold l7 uG;cases (List.range s.length).all (sj s)<;>cases decide (1<=s.length)<;>cases decide (s.length<=12)<;>cases ((((s.getD (s.length-1) 0).toNat:Nat):Int)==45)<;>rfl
 ·have hno:l7 s=false:=by
   unfold l7;have:(List.range s.length).all (sj s)=false:=by
    rw[List.all_eq_false];refine⟨0,by simpa using h0,?_⟩;simp only[sG]at hlow;simp only[sj,hlow];intro h;cases h
   rw[this];rfl
  rw[hno];simp only[sG]at hlow;simp only[si]at hlow;cases h3:decide ((97:Int)<=(((s.getD 0 0).toNat:Nat):Int))<;>cases h4:decide ((((s.getD 0 0).toNat:Nat):Int)<=122)<;>rw[h3,h4]at hlow<;>simp at hlow⊢
end M
namespace M
open Go.V (inB bS ae bf)
def tB(s:List UInt8):Bool:=(dX.uQ s).isSome
theorem aiQ(s:List UInt8):(match M.fK s with|(v,b)=>if b=true/\(0<=v/\v<=999)then some v.toNat else none)=dX.pz s:=by
 unfold M.fK dX.pz;cases Go.Lib.parseIntB 64 s with
 |ok v=>
  simp only;by_cases h:Go.Lib.itoa v=s
  ·rw[aT h];simp only[h,zF]
  ·rw[aP h];simp[h]
 |_=>simp
theorem LY(s:List UInt8):(dX.pz s=none/\((!(M.fK s).2)||(!(decide ((0:Int)<=(M.fK s).1)&&decide ((M.fK s).1<=999))))=true)\/∃n:Nat,dX.pz s=some n/\n<=999/\(M.fK s).1=(n:Int)/\((!(M.fK s).2)||(!(decide ((0:Int)<=(M.fK s).1)&&decide ((M.fK s).1<=999))))=false:=by
 have h:=aiQ s;generalize M.fK s=p at h;obtain⟨v,b⟩:=p;simp only at h⊢;by_cases hc:b=true/\(0<=v/\v<=999)
 ·rw[aT hc]at h;exact .inr ⟨v.toNat,h.symm,by omega,by omega,by simp[hc.1,hc.2.1,hc.2.2]⟩
 ·rw[aP hc]at h;refine .inl ⟨h.symm,?_⟩;cases b
  ·rfl
  ·simp only[b9,na,ga,Bool.and_eq_false_iff,fE];simp only[zF]at hc;omega
theorem aiR(s:List UInt8):∀p∈dX.eN s,p.length<=s.length:=by
 have key:∀(s:List UInt8),∀p∈dX.eN s,p.length<=s.length:=by
  intro s
  induction s with
  |nil=>intro p hp;simp[dX.eN]at hp;subst hp;simp
  |cons c r ih=>
   intro p hp;unfold dX.eN at hp;split at hp
   ·rcases eY.1 hp with rfl|hp
    ·simp
    ·have:=ih p hp;simp;omega
   ·split at hp
    ·rename_i x y e;rw[e]at ih;rcases eY.1 hp with rfl|hp
     ·have:=ih x (by simp);simp;omega
     ·have:=ih p (by simp[hp]);simp;omega
    ·simp at hp;subst hp;simp
 exact key s
theorem afG(s:List UInt8)(h:s.length<=1048576):M.CC s=some (tB s):=by
 have hs:M.strings_Split s [46]=some (dX.eN s):=by
  unfold M.strings_Split;have:decide (s.length<4294967281)=true:=by rw[ct];omega
  rw[this];rfl
 have hrd:∀p∈dX.eN s,M.rA p=some (M.fK p):=fun p hp=>by
  have:=aiR s p hp;unfold M.rA;have:decide (p.length<=281474976710656)=true:=by rw[ct];omega
  rw[this];rfl
 have hv:∃v:Int×Bool,M.CE s=some v/\v.2=tB s:=by
  unfold M.CE tB dX.uQ;rw[hs];simp only[ak,an,bj,bM,ad]
  match hp:dX.eN s,hrd with
  |[],_=>exact⟨_,rfl,rfl⟩
  |[a],_=>exact⟨_,rfl,rfl⟩
  |[a,b],_=>exact⟨_,rfl,rfl⟩
  |a::b::c::d::r,_=>
   have:((((a::b::c::d::r).length:Nat):Int) !=3)=true:=by
    simp only[aC,pE];omega
   rw[this];exact⟨_,rfl,rfl⟩
  |[a,b,c],hrd=>
    have h3:((((([a,b,c]:List (List UInt8)).length:Nat):Int) !=3))=false:=rfl;rw[h3];simp only[al];obtain⟨f0,hf0⟩:∃f0,ae=f0+4:=⟨ae-4,by have:=bf;omega⟩;have ra:=hrd a (by simp);have rb:=hrd b (by simp);have rc:=hrd c (by simp);have st:∀(f:Nat)(n:Int)(k:Nat)(p:List UInt8)(hk:k<3),([a,b,c].getD k [])=p->M.rA p=some (M.fK p)->M.sk [a,b,c] ((([a,b,c]:List (List UInt8)).length:Nat):Int) (f+1) n (k:Int)=
     bif((!(M.fK p).2)||(!(decide ((0:Int)<=(M.fK p).1)&&decide ((M.fK p).1<=999))))then some (.inl (0,false))else M.sk [a,b,c] ((([a,b,c]:List (List UInt8)).length:Nat):Int) f (Go.IntKind.wrap .i64 (Go.IntKind.wrap .i64 (n*1000)+(M.fK p).1)) ((k+1:Nat):Int):=fun f n k p hk hg hr=>by
     rw[M.sk];have hlt:decide ((k:Int)<((([a,b,c]:List (List UInt8)).length:Nat):Int))=true:=by simp;omega
     have hin:inB (k:Int) ([a,b,c]:List (List UInt8)).length=true:=by rw[cZ];simp;omega
     simp only[hlt,ad,bN,hg,hr,ak,an,hin,bj,bM,da (show k<3 from hk) (by omega)]
    have e0:=st (f0+3) 0 0 a (by omega) rfl ra;rw[hf0];change M.sk [a,b,c] ((([a,b,c]:List (List UInt8)).length:Nat):Int) (f0+4) 0 0=_ at e0;rw[e0];rcases LY a with⟨ha,ca⟩|⟨x,ha,hx,ea,ca⟩
    ·rw[ca,ha];exact⟨_,rfl,rfl⟩
    rw[ca,ha];have w1:Go.IntKind.wrap .i64 (Go.IntKind.wrap .i64 ((0:Int)*1000)+(M.fK a).1)=(x:Int):=by
     rw[ea,wrap_i64 (n:=0*1000) (by omega) (by omega),wrap_i64 (by omega) (by omega)];omega
    rw[al,w1,st (f0+2) _ 1 b (by omega) rfl rb];rcases LY b with⟨hb,cb⟩|⟨y,hb,hy,eb,cb⟩
    ·rw[cb,hb];exact⟨_,rfl,rfl⟩
    rw[cb,hb];have w2:Go.IntKind.wrap .i64 (Go.IntKind.wrap .i64 ((x:Int)*1000)+(M.fK b).1)=((x*1000+y:Nat):Int):=by
     rw[eb,wrap_i64 (show -9223372036854775808<=(x:Int)*1000 by omega) (by omega),wrap_i64 (by omega) (by omega)];omega
    rw[al,w2,st (f0+1) _ 2 c (by omega) rfl rc];rcases LY c with⟨hc,cc⟩|⟨z,hc,hz,ec,cc⟩
    ·rw[cc,hc];exact⟨_,rfl,rfl⟩
    rw[cc,hc];have w3:Go.IntKind.wrap .i64 (Go.IntKind.wrap .i64 (((x*1000+y:Nat):Int)*1000)+(M.fK c).1)=(((x*1000+y)*1000+z:Nat):Int):=by
     rw[ec,wrap_i64 (show -9223372036854775808<=((x*1000+y:Nat):Int)*1000 by omega) (by omega),wrap_i64 (by omega) (by omega)];omega
    rw[al,w3,M.sk];exact⟨_,rfl,rfl⟩
 obtain⟨v,h1,h2⟩:=hv;unfold M.CC;rw[h1];simp only[an,ak,bM,ad,h2]
end M
namespace M
open Go.V (inB bS ae bf)
theorem T9{n:Nat}(h:n<10):Go.IntKind.wrap .u8 (Go.IntKind.wrap .i64 ((48:Int)+(n:Int)))=((48+n:Nat):Int):=by
 rw[wrap_i64 (by omega) (by omega)];have:∀m:Fin 10,Go.IntKind.wrap .u8 ((48:Int)+((m.val:Nat):Int))=((48+m.val:Nat):Int):=by decide
 exact this ⟨n,h⟩
theorem Ua{n:Nat}(h:n<10):Go.V.pT ((48+n:Nat):Int)=true:=by
 unfold Go.V.pT;simp only[bz,ct];omega
theorem Ub(n:Nat):Go.V.pV ((48+n:Nat):Int)=UInt8.ofNat (48+n):=by
 unfold Go.V.pV;rw[bN]
theorem LZ{n:Nat}(h:n<10)(f:Nat):M.qC (f+1) (n:Int)=some [UInt8.ofNat (48+n)]:=by
 show M.yZ (M.qC f) (n:Int)=_
 unfold M.yZ;have:decide ((n:Int)<10)=true:=by rw[ct];omega
 simp only[this,T9 h,Ua h,Ub];rfl
theorem L0(a b:Nat):Int.tdiv (a:Int) (b:Int)=((a/b:Nat):Int):=(Int.ofNat_tdiv a b).symm
theorem L1(a b:Nat):Int.tmod (a:Int) (b:Int)=((a%b:Nat):Int):=(Int.ofNat_tmod a b).symm
theorem CG{a b:List UInt8}(h:a.length+b.length<=4611686018427387904):Go.V.ar a b=true:=by
 unfold Go.V.ar;rw[ct];exact h
theorem L2{n:Nat}(h:10<=n)(hn:n<1000)(f:Nat){x:List UInt8}(hx:M.qC f ((n/10:Nat):Int)=some x)(hl:x.length<=10):M.qC (f+1) (n:Int)=some (x++[UInt8.ofNat (48+n%10)]):=by
 show M.yZ (M.qC f) (n:Int)=_
 unfold M.yZ;have h1:decide ((n:Int)<10)=false:=by rw[fE];omega
 have h2:Go.IntKind.wrap .i64 (Int.tdiv (n:Int) 10)=((n/10:Nat):Int):=by
  rw[show Int.tdiv (n:Int) 10=((n/10:Nat):Int)from L0 n 10,wrap_i64 (by omega) (by omega)]
 have h3:Int.tmod (n:Int) 10=((n%10:Nat):Int):=L1 n 10;have h4:n%10<10:=Nat.mod_lt _ (by decide);simp only[h1,h2,h3,hx,T9 h4,Ua h4,Ub,ak,an,al,eQ,List.map_nil];rw[CG (by simp;omega)];rfl
theorem L6{n:Nat}(h:n<1000):M.wx (n:Int)=some (dX.dec n):=by
 obtain⟨f,hf⟩:∃f,ae=f+3:=⟨ae-3,by have:=bf;omega⟩;rw[show M.wx=M.qC ae from rfl,hf];unfold dX.dec;by_cases h1:n<10
 ·rw[aT h1];exact LZ h1 (f+2)
 ·rw[aP h1];by_cases h2:n<100
  ·rw[aT h2];have:=L2 (by omega) h (f+2) (LZ (show n/10<10 by omega) (f+1)) (by simp);simpa using this
  ·rw[aP h2];have a:=LZ (show n/100<10 by omega) f;have b:=L2 (n:=n/10) (by omega) (by omega) (f+1) (by rw[show n/10/10=n/100 by omega];exact a) (by simp);have:=L2 (by omega) h (f+2) b (by simp);simpa using this
theorem aiS{n:Nat}(h:n<1000000000):M.CH (n:Int)=some (dX.ll n):=by
 unfold M.CH;have e1:Go.IntKind.wrap .i64 (Int.tdiv (n:Int) 1000000)=((n/1000000:Nat):Int):=by rw[show Int.tdiv (n:Int) 1000000=((n/1000000:Nat):Int)from L0 n 1000000,wrap_i64 (by omega) (by omega)]
 have e2:Int.tmod (Go.IntKind.wrap .i64 (Int.tdiv (n:Int) 1000)) 1000=((n/1000%1000:Nat):Int):=by
  rw[show Int.tdiv (n:Int) 1000=((n/1000:Nat):Int)from L0 n 1000,wrap_i64 (by omega) (by omega)];exact L1 (n/1000) 1000
 have e3:Int.tmod (n:Int) 1000=((n%1000:Nat):Int):=L1 n 1000;have l1:=dX.py (n:=n/1000000);have l2:=dX.py (n:=n/1000%1000);have l3:=dX.py (n:=n%1000);simp only[e1,e2,e3,L6 (show n/1000000<1000 by omega),L6 (show n/1000%1000<1000 by omega),L6 (show n%1000<1000 by omega),ak,an];rw[CG (by simp;omega),CG (by simp;omega),CG (by simp;omega),CG (by simp;omega)];unfold dX.ll;simp
structure Uc (k n p d:Nat) (n':Int):Prop where
 fp:p<10^k
 fd:d<=k
 eq:d<=2->n'=(n:Int)
 d0:d=0->n=0
 d1:d=1->n<1001000000000000
 d2:d=2->n<2000000000000000000
theorem L8(s:List UInt8):∀(g k n p d:Nat)(n':Int),k<=min s.length 12->min s.length 12-k<g->Uc k n p d n'->
 (dX.scan (n,p,d) ((s.take 12).drop k)=none/\M.qD s g n' (p:Int) (d:Int) (k:Int)=some (.inl (-1)))\/
 ∃(m q e:Nat)(m':Int),dX.scan (n,p,d) ((s.take 12).drop k)=some (m,q,e)/\M.qD s g n' (p:Int) (d:Int) (k:Int)=some (.inr (s,m',(q:Int),(e:Int)))/\Uc (min s.length 12) m q e m'
 |0,k,n,p,d,n',h1,h2,_=>by omega
 |g+1,k,n,p,d,n',h1,h2,hI=>by
  rw[M.qD];have hlen:(s.take 12).length=min s.length 12:=by rw[sF,Nat.min_comm]
  rcases cQ k (min s.length 12)with hk|hk
  ·have hks:k<s.length:=by omega
   have hd:(s.take 12).drop k=s[k]::(s.take 12).drop (k+1):=by
    rw[xR (by rw[hlen];exact hk)];congr 1;rw[List.getElem_take]
   have ap0:p<1000000000000:=lq hI.fp (mG (Nat.pow_le_pow_right (by decide) (show k<=12 by omega)) (by decide));have c1:decide ((k:Int)<((s.length:Nat):Int))=true:=by rw[ct];omega
   have c2:decide ((k:Int)<12)=true:=by rw[ct];omega
   have c3:inB (k:Int) s.length=true:=by rw[cZ];simpa using hks
   have hw:Go.IntKind.wrap .i64 ((k:Int)+1)=((k+1:Nat):Int):=by rw[wrap_i64 (by omega) (by omega)];omega
   rw[hd];simp only[c1,c2,c3,hw,bN,getD_lt hks,bM,bj,bu,ad];rw[dX.scan];by_cases h46:s[k]=46
   ·rw[aT h46];have:((((s[k]).toNat:Nat):Int)==46)=true:=by rw[h46];decide
    rw[this,ad];have hw2:Go.IntKind.wrap .i64 ((d:Int)+1)=((d+1:Nat):Int):=by have:=hI.fd;rw[wrap_i64 (by omega) (by omega)];omega
    rw[hw2];refine L8 s g (k+1) ((n+p)*1000) 0 (d+1) _ (by omega) (by omega) ⟨Nat.pow_pos (by decide),by have:=hI.fd;omega,fun hd2=>?_,fun h=>by omega,fun h=>?_,fun h=>?_⟩
    ·have hn:n<1001000000000000:=by
      rcases cQ d 1 with h|h
      ·rw[hI.d0 (by omega)];decide
      ·exact hI.d1 (by omega)
     rw[hI.eq (by omega),wrap_i64 (n:=(n:Int)+(p:Int)) (by omega) (by omega),wrap_i64 (by omega) (by omega)];omega
    ·rw[hI.d0 (by omega)];omega
    ·have:=hI.d1 (by omega);omega
   ·rw[aP h46];have hne:((((s[k]).toNat:Nat):Int)==46)=false:=by
     rw[cL];intro e;exact h46 (UInt8.toNat.inj (by have:(46:UInt8).toNat=46:=rfl;omega))
    rw[hne,al];by_cases hdig:48<=s[k].toNat/\s[k].toNat<=57
    ·rw[aT hdig];have d1:decide ((((s[k]).toNat:Nat):Int)<48)=false:=by rw[fE];omega
     have d2:decide ((57:Int)<(((s[k]).toNat:Nat):Int))=false:=by rw[fE];omega
     have hu:Go.IntKind.wrap .u8 ((((s[k]).toNat:Nat):Int)-48)=((s[k].toNat-48:Nat):Int):=by
      have:∀m:Fin 58,48<=m.val->Go.IntKind.wrap .u8 (((m.val:Nat):Int)-48)=((m.val-48:Nat):Int):=by decide
      exact this ⟨s[k].toNat,by omega⟩ hdig.1
     have hw3:Go.IntKind.wrap .i64 (Go.IntKind.wrap .i64 ((10:Int)*(p:Int))+Go.IntKind.wrap .i64 (((s[k].toNat-48:Nat):Int)))=((10*p+(s[k].toNat-48):Nat):Int):=by
      rw[wrap_i64 (n:=(10:Int)*(p:Int)) (by omega) (by omega),wrap_i64 (n:=((s[k].toNat-48:Nat):Int)) (by omega) (by omega),wrap_i64 (by omega) (by omega)];omega
     simp only[d1,d2,lT,al,hu,hw3];refine L8 s g (k+1) n (10*p+(s[k].toNat-48)) d n' (by omega) (by omega) ⟨?_,by have:=hI.fd;omega,hI.eq,hI.d0,hI.d1,hI.d2⟩;have:=hI.fp;rw[Nat.pow_succ];omega
    ·rw[aP hdig];have:(decide ((((s[k]).toNat:Nat):Int)<48)||decide ((57:Int)<(((s[k]).toNat:Nat):Int)))=true:=by
      rw[ia,ct,ct];omega
     rw[this];exact .inl ⟨rfl,rfl⟩
  ·have hk':k=min s.length 12:=by omega
   subst hk';have hd:(s.take 12).drop (min s.length 12)=[]:=by rw[<-hlen,wZ]
   have:(decide (((min s.length 12:Nat):Int)<((s.length:Nat):Int))&&decide (((min s.length 12:Nat):Int)<12))=false:=by
    rw[Bool.and_eq_false_iff,fE,fE];omega
   rw[this,hd];exact .inr ⟨n,p,d,n',rfl,rfl,hI⟩
theorem afI(s:List UInt8):M.CJ s=some (tB s):=by
 have key:∃r:Int,M.CL s=some r/\decide (0<=r)=(dX.uR s).isSome:=by
  unfold M.CL dX.uR;have hl:=L8 s ae 0 0 0 0 0 (cM _) (by have:=bf;omega) ⟨by simp,cu _,fun _=>rfl,fun _=>rfl,fun h=>by omega,fun h=>by omega⟩;rw[jj]at hl;rcases hl with⟨e1,e2⟩|⟨m,q,e,m',e1,e2,hI⟩
  ·have e2':M.qD s ae 0 0 0 0=_:=e2;rw[e1,e2'];exact⟨-1,rfl,rfl⟩
  ·have e2':M.qD s ae 0 0 0 0=_:=e2;rw[e1,e2'];simp only;have hq:q<1000000000000:=lq hI.fp (mG (Nat.pow_le_pow_right (by decide) (show min s.length 12<=12 by omega)) (by decide));by_cases he:e=2
   ·subst he;have hm:=hI.d2 rfl;have hw:Go.IntKind.wrap .i64 (m'+(q:Int))=((m+q:Nat):Int):=by
     rw[hI.eq (by omega),wrap_i64 (by omega) (by omega)];omega
    rw[hw];by_cases hc:q<=999/\m+q<1000000000
    ·have c1:((((2:Nat):Int) !=2)||decide ((999:Int)<(q:Int)))=false:=by
      rw[lR,fE];exact⟨rfl,by omega⟩
     have c2:(decide ((0:Int)<=((m+q:Nat):Int))&&decide (((m+q:Nat):Int)<=999999999))=true:=by
      rw[bz,ct,ct];omega
     rw[c1,c2,aiS hc.2];by_cases ht:dX.ll (m+q)=s
     ·rw[aT ⟨rfl,hc.1,hc.2,ht⟩];refine⟨((m+q:Nat):Int),?_,by simp;omega⟩;simp[ht]
     ·rw[aP (fun h=>ht h.2.2.2)];refine⟨-1,?_,by simp⟩;have:(dX.ll (m+q)==s)=false:=by rw[cL];exact ht
      simp[this]
    ·rw[aP (fun h=>hc ⟨h.2.1,h.2.2.1⟩)];have c:(((((2:Nat):Int) !=2)||decide ((999:Int)<(q:Int)))|| !(decide ((0:Int)<=((m+q:Nat):Int))&&decide (((m+q:Nat):Int)<=999999999)))=true:=by
      rw[ia,ia,ct,ga,Bool.and_eq_false_iff,fE,fE];omega
     rw[c];exact⟨-1,by simp,by simp⟩
   ·rw[aP (fun h=>he h.1)];have c:((((e:Nat):Int) !=2))=true:=by rw[pE];omega
    rw[c];exact⟨-1,by simp,by simp⟩
 obtain⟨r,h1,h2⟩:=key;unfold M.CJ tB;rw[h1,dX.ab2];simp only[an,ak,bM,ad,h2]
end M
