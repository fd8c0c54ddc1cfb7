/-
  NAMES AND TYPES: what is right, in plain Lean.
-/
import Derived.Test.YtiacpoahkccfaaaGreatDoorXXplA
import Derived.Test.YtiacpoahkccfaaaGreatDoorXXRM
import Derived.Test.YtiacpoahkccfaaaGreatDoorXVER
set_option linter.unusedVariables false
namespace M
open Go.V (inB bS ad bA)
def ry(c:UInt8):Bool:=decide ((97:Int)<=((c.toNat:Nat):Int))&&decide (((c.toNat:Nat):Int)<=122)
def Nh(c:UInt8):Bool:=decide ((48:Int)<=((c.toNat:Nat):Int))&&decide (((c.toNat:Nat):Int)<=57)
def ub(c:UInt8):Bool:=((c.toNat:Nat):Int)==45
def rz(s:List UInt8)(k:Nat):Bool:=ry (s.getD k 0)||(decide (0<k)&&((Nh (s.getD k 0)||ub (s.getD k 0))&& !(ub (s.getD k 0)&&ub (s.getD (k-1) 0))))
def lG(s:List UInt8):Bool:=(List.range s.length).all (rz s)&&((decide (1<=s.length)&&decide (s.length<=12))&& !ub (s.getD (s.length-1) 0))
def asP(l:List (List UInt8)):Bool:=(decide (1<=l.length)&&decide (l.length<=16))&&(nodupB l&&l.all lG)
end M
set_option linter.unusedSimpArgs false
namespace M
open Go.V (inB bS ad bA)
theorem Ig{k n:Nat}(h0:0<k)(h:k<=n)(hn:n<2^62):Go.IntKind.wrap .i64 ((k:Int)-1)=((k-1:Nat):Int):=by
 rw[wrap_i64 (by omega) (by omega)];omega
theorem Q7(s:List UInt8)(hs:s.length<=1048576):M.wc s=some (lG s):=by
 unfold M.wc;rw[acQ (p:=rz s) (F:=M.tR s (s.length:Int)) (e:=s) (b:=false) s.length (by omega) (fun f k hk=>by
  rw[M.tR];simp only[cg,dH,gV,hk,eO,ae,du,bu,eB,cA hk (eJ hs),rz,ry,Nh,ub,yi];generalize decide ((97:Int)<=(((s.getD k 0).toNat:Nat):Int))=a1;generalize decide ((((s.getD k 0).toNat:Nat):Int)<=122)=a2;generalize decide ((48:Int)<=(((s.getD k 0).toNat:Nat):Int))=a3;generalize decide ((((s.getD k 0).toNat:Nat):Int)<=57)=a4;generalize ((((s.getD k 0).toNat:Nat):Int)==45)=a5;rcases qf k with h0|h0
  ·subst h0;cases a1<;>cases a2<;>cases a3<;>cases a4<;>cases a5<;>simp
  ·have e0:((k:Int)==0)=false:=by rw[bE];omega
   have hk1:k-1<s.length:=by omega
   simp only[e0,Ig h0 (Nat.le_of_lt hk) (eJ hs),cg,dH,hk1,h0,eO];generalize ((((s.getD (k-1) 0).toNat:Nat):Int)==45)=a6;cases a1<;>cases a2<;>cases a3<;>cases a4<;>cases a5<;>cases a6<;>simp) (fun f=>by rw[M.tR];simp)]
 unfold lG;cases hall:(List.range s.length).all (rz s)
 ·simp
 ·simp only[DJ,yi,bu];rcases qf s.length with h0|h0
  ·simp[h0]
  ·have h1:s.length-1<s.length:=by omega
   have e1:decide ((1:Int)<=((s.length:Nat):Int))=decide (1<=s.length):=by simp only[js];omega
   have e2:decide (((s.length:Nat):Int)<=12)=decide (s.length<=12):=by simp only[js];omega
   simp only[Ig h0 (cw _) (eJ hs),cg,dH,h1,eO,du,eB,ae,e1,e2,ub]
theorem ag2(s:List UInt8)(hs:s.length<=1048576):M.CP s=some (lG s):=by
 unfold M.CP;rcases qf s.length with h0|h0
 ·have:s=[]:=dS h0;subst this;rfl
 have h1:s.length-1<s.length:=by omega
 simp only[Ig h0 (cw _) (eJ hs),cg,dH,h1,Int.toNat_zero,eO,du,eB,ae];have hz:inB (0:Int) s.length=true:=by
  show inB ((0:Nat):Int) s.length=true
  rw[dH];simpa using h0
 simp only[hz,du,eB,ae];have e1:decide (((s.length:Nat):Int)<1)= !decide (1<=s.length):=by rw[<-uv];simp only[js];omega
 have e2:decide ((12:Int)<((s.length:Nat):Int))= !decide (s.length<=12):=by rw[<-uv];simp only[js];omega
 have e3:decide ((((s.getD 0 0).toNat:Nat):Int)<97)= !decide ((97:Int)<=(((s.getD 0 0).toNat:Nat):Int)):=by rw[<-uv];simp only[js];omega
 have e4:decide ((122:Int)<(((s.getD 0 0).toNat:Nat):Int))= !decide ((((s.getD 0 0).toNat:Nat):Int)<=122):=by rw[<-uv];simp only[js];omega
 rw[e1,e2,e3,e4];by_cases hlow:ry (s.getD 0 0)=true
 ·have hl:=hlow;simp only[ry,cC]at hl;rw[acQ (p:=rz s) (F:=M.wb s) (e:=()) (b:=false) s.length (by omega) (fun f k hk=>by
   rw[M.wb];have f1:decide ((((s.getD k 0).toNat:Nat):Int)<97)= !decide ((97:Int)<=(((s.getD k 0).toNat:Nat):Int)):=by rw[<-uv];simp only[js];omega
   have f2:decide ((122:Int)<(((s.getD k 0).toNat:Nat):Int))= !decide ((((s.getD k 0).toNat:Nat):Int)<=122):=by rw[<-uv];simp only[js];omega
   have f3:decide ((((s.getD k 0).toNat:Nat):Int)<48)= !decide ((48:Int)<=(((s.getD k 0).toNat:Nat):Int)):=by rw[<-uv];simp only[js];omega
   have f4:decide ((57:Int)<(((s.getD k 0).toNat:Nat):Int))= !decide ((((s.getD k 0).toNat:Nat):Int)<=57):=by rw[<-uv];simp only[js];omega
   simp only[cg,dH,gV,hk,eO,ae,du,bu,eB,cA hk (eJ hs),rz,ry,Nh,ub,yi,f1,f2,f3,f4];have dash:ry (s.getD k 0)=true->((((s.getD k 0).toNat:Nat):Int)==45)=false:=fun h=>by
    simp only[ry,cC,cz]at h;rw[bE];omega
   simp only[ry]at dash;rcases qf k with k0|k0
   ·subst k0;rw[hl.1,hl.2]at*;simp only[ak]at dash;rw[dash trivial];simp
   ·have hk1:k-1<s.length:=by omega
    simp only[Ig k0 (Nat.le_of_lt hk) (eJ hs),cg,dH,hk1,k0,eO];generalize ((((s.getD (k-1) 0).toNat:Nat):Int)==45)=a6
    revert dash
    generalize decide ((97:Int)<=(((s.getD k 0).toNat:Nat):Int))=a1;generalize decide ((((s.getD k 0).toNat:Nat):Int)<=122)=a2;generalize decide ((48:Int)<=(((s.getD k 0).toNat:Nat):Int))=a3;generalize decide ((((s.getD k 0).toNat:Nat):Int)<=57)=a4;generalize ((((s.getD k 0).toNat:Nat):Int)==45)=a5;intro dash;cases a1<;>cases a2<;>cases a3<;>cases a4<;>cases a5<;>cases a6<;>simp at dash⊢) (fun f=>by rw[M.wb];simp)]
  rw[hl.1,hl.2];unfold lG ub;cases (List.range s.length).all (rz s)<;>cases decide (1<=s.length)<;>cases decide (s.length<=12)<;>cases ((((s.getD (s.length-1) 0).toNat:Nat):Int)==45)<;>rfl
 ·have hno:lG s=false:=by
   unfold lG;have:(List.range s.length).all (rz s)=false:=by
    rw[List.all_eq_false];refine⟨0,by simpa using h0,?_⟩;simp only[mw]at hlow;simp only[rz,hlow];intro h;cases h
   rw[this];rfl
  rw[hno];simp only[mw]at hlow;simp only[ry]at hlow;cases h3:decide ((97:Int)<=(((s.getD 0 0).toNat:Nat):Int))<;>cases h4:decide ((((s.getD 0 0).toNat:Nat):Int)<=122)<;>rw[h3,h4]at hlow<;>simp at hlow⊢
end M
namespace M
open Go.V (inB bS ad bA)
def sw(s:List UInt8):Bool:=(dY.uc s).isSome
theorem asn(s:List UInt8):(match M.fA s with|(v,b)=>if b=true/\(0<=v/\v<=999)then some v.toNat else none)=dY.om s:=by
 unfold M.fA dY.om;cases Go.Lib.parseIntB 64 s with
 |ok v=>
  simp only;by_cases h:Go.Lib.itoa v=s
  ·rw[dP h];simp only[h,true_and]
  ·rw[gq h];simp[h]
 |_=>simp
theorem Ni(s:List UInt8):(dY.om s=none/\((!(M.fA s).2)||(!(decide ((0:Int)<=(M.fA s).1)&&decide ((M.fA s).1<=999))))=true)\/∃n:Nat,dY.om s=some n/\n<=999/\(M.fA s).1=(n:Int)/\((!(M.fA s).2)||(!(decide ((0:Int)<=(M.fA s).1)&&decide ((M.fA s).1<=999))))=false:=by
 have h:=asn s;generalize M.fA s=p at h;obtain⟨v,b⟩:=p;simp only at h⊢;by_cases hc:b=true/\(0<=v/\v<=999)
 ·rw[dP hc]at h;exact .inr ⟨v.toNat,h.symm,by omega,by omega,by simp[hc.1,hc.2.1,hc.2.2]⟩
 ·rw[gq hc]at h;refine .inl ⟨h.symm,?_⟩;cases b
  ·rfl
  ·simp only[cO,l6,fE,Bool.and_eq_false_iff,dR];simp only[true_and]at hc;omega
theorem aso(s:List UInt8):∀p∈dY.eP s,p.length<=s.length:=by
 have key:∀(s:List UInt8),∀p∈dY.eP s,p.length<=s.length:=by
  intro s
  induction s with
  |nil=>intro p hp;simp[dY.eP]at hp;subst hp;simp
  |cons c r ih=>
   intro p hp;unfold dY.eP at hp;split at hp
   ·rcases fF.1 hp with rfl|hp
    ·simp
    ·have:=ih p hp;simp;omega
   ·split at hp
    ·rename_i x y e;rw[e]at ih;rcases fF.1 hp with rfl|hp
     ·have:=ih x (by simp);simp;omega
     ·have:=ih p (by simp[hp]);simp;omega
    ·simp at hp;subst hp;simp
 exact key s
theorem ag5(s:List UInt8)(h:s.length<=1048576):M.CW s=some (sw s):=by
 have hs:M.strings_Split s [46]=some (dY.eP s):=by
  unfold M.strings_Split;have:decide (s.length<4294967281)=true:=by rw[cz];omega
  rw[this];rfl
 have hrd:∀p∈dY.eP s,M.qB p=some (M.fA p):=fun p hp=>by
  have:=aso s p hp;unfold M.qB;have:decide (p.length<=281474976710656)=true:=by rw[cz];omega
  rw[this];rfl
 have hv:∃v:Int×Bool,M.CV s=some v/\v.2=sw s:=by
  unfold M.CV sw dY.uc;rw[hs];simp only[aw,al,bu,eB,ae]
  match hp:dY.eP s,hrd with
  |[],_=>exact⟨_,rfl,rfl⟩
  |[a],_=>exact⟨_,rfl,rfl⟩
  |[a,b],_=>exact⟨_,rfl,rfl⟩
  |a::b::c::d::r,_=>
   have:((((a::b::c::d::r).length:Nat):Int) !=3)=true:=by
    simp only[aU,zj];omega
   rw[this];exact⟨_,rfl,rfl⟩
  |[a,b,c],hrd=>
    have h3:((((([a,b,c]:List (List UInt8)).length:Nat):Int) !=3))=false:=rfl;rw[h3];simp only[aj];obtain⟨f0,hf0⟩:∃f0,ad=f0+4:=⟨ad-4,by have:=bA;omega⟩;have ra:=hrd a (by simp);have rb:=hrd b (by simp);have rc:=hrd c (by simp);have st:∀(f:Nat)(n:Int)(k:Nat)(p:List UInt8)(hk:k<3),([a,b,c].getD k [])=p->M.qB p=some (M.fA p)->M.rn [a,b,c] ((([a,b,c]:List (List UInt8)).length:Nat):Int) (f+1) n (k:Int)=
     bif((!(M.fA p).2)||(!(decide ((0:Int)<=(M.fA p).1)&&decide ((M.fA p).1<=999))))then some (.inl (0,false))else M.rn [a,b,c] ((([a,b,c]:List (List UInt8)).length:Nat):Int) f (Go.IntKind.wrap .i64 (Go.IntKind.wrap .i64 (n*1000)+(M.fA p).1)) ((k+1:Nat):Int):=fun f n k p hk hg hr=>by
     rw[M.rn];have hlt:decide ((k:Int)<((([a,b,c]:List (List UInt8)).length:Nat):Int))=true:=by simp;omega
     have hin:inB (k:Int) ([a,b,c]:List (List UInt8)).length=true:=by rw[dH];simp;omega
     simp only[hlt,ae,cg,hg,hr,aw,al,hin,bu,eB,cA (show k<3 from hk) (by omega)]
    have e0:=st (f0+3) 0 0 a (by omega) rfl ra;rw[hf0];change M.rn [a,b,c] ((([a,b,c]:List (List UInt8)).length:Nat):Int) (f0+4) 0 0=_ at e0;rw[e0];rcases Ni a with⟨ha,ca⟩|⟨x,ha,hx,ea,ca⟩
    ·rw[ca,ha];exact⟨_,rfl,rfl⟩
    rw[ca,ha];have w1:Go.IntKind.wrap .i64 (Go.IntKind.wrap .i64 ((0:Int)*1000)+(M.fA a).1)=(x:Int):=by
     rw[ea,wrap_i64 (n:=0*1000) (by omega) (by omega),wrap_i64 (by omega) (by omega)];omega
    rw[aj,w1,st (f0+2) _ 1 b (by omega) rfl rb];rcases Ni b with⟨hb,cb⟩|⟨y,hb,hy,eb,cb⟩
    ·rw[cb,hb];exact⟨_,rfl,rfl⟩
    rw[cb,hb];have w2:Go.IntKind.wrap .i64 (Go.IntKind.wrap .i64 ((x:Int)*1000)+(M.fA b).1)=((x*1000+y:Nat):Int):=by
     rw[eb,wrap_i64 (show -9223372036854775808<=(x:Int)*1000 by omega) (by omega),wrap_i64 (by omega) (by omega)];omega
    rw[aj,w2,st (f0+1) _ 2 c (by omega) rfl rc];rcases Ni c with⟨hc,cc⟩|⟨z,hc,hz,ec,cc⟩
    ·rw[cc,hc];exact⟨_,rfl,rfl⟩
    rw[cc,hc];have w3:Go.IntKind.wrap .i64 (Go.IntKind.wrap .i64 (((x*1000+y:Nat):Int)*1000)+(M.fA c).1)=(((x*1000+y)*1000+z:Nat):Int):=by
     rw[ec,wrap_i64 (show -9223372036854775808<=((x*1000+y:Nat):Int)*1000 by omega) (by omega),wrap_i64 (by omega) (by omega)];omega
    rw[aj,w3,M.rn];exact⟨_,rfl,rfl⟩
 obtain⟨v,h1,h2⟩:=hv;unfold M.CW;rw[h1];simp only[al,aw,eB,ae,h2]
end M
namespace M
open Go.V (inB bS ad bA)
theorem acR{n:Nat}(h:n<10):Go.IntKind.wrap .u8 (Go.IntKind.wrap .i64 ((48:Int)+(n:Int)))=((48+n:Nat):Int):=by
 rw[wrap_i64 (by omega) (by omega)];have:∀m:Fin 10,Go.IntKind.wrap .u8 ((48:Int)+((m.val:Nat):Int))=((48+m.val:Nat):Int):=by decide
 exact this ⟨n,h⟩
theorem acS{n:Nat}(h:n<10):Go.V.rJ ((48+n:Nat):Int)=true:=by
 unfold Go.V.rJ;simp only[cC,cz];omega
theorem acT(n:Nat):Go.V.rK ((48+n:Nat):Int)=UInt8.ofNat (48+n):=by
 unfold Go.V.rK;rw[cg]
theorem Nj{n:Nat}(h:n<10)(f:Nat):M.pQ (f+1) (n:Int)=some [UInt8.ofNat (48+n)]:=by
 show M.yN (M.pQ f) (n:Int)=_
 unfold M.yN;have:decide ((n:Int)<10)=true:=by rw[cz];omega
 simp only[this,acR h,acS h,acT];rfl
theorem Nk(a b:Nat):Int.tdiv (a:Int) (b:Int)=((a/b:Nat):Int):=(Int.ofNat_tdiv a b).symm
theorem Nl(a b:Nat):Int.tmod (a:Int) (b:Int)=((a%b:Nat):Int):=(Int.ofNat_tmod a b).symm
theorem C7{a b:List UInt8}(h:a.length+b.length<=4611686018427387904):Go.V.av a b=true:=by
 unfold Go.V.av;rw[cz];exact h
theorem Nn{n:Nat}(h:10<=n)(hn:n<1000)(f:Nat){x:List UInt8}(hx:M.pQ f ((n/10:Nat):Int)=some x)(hl:x.length<=10):M.pQ (f+1) (n:Int)=some (x++[UInt8.ofNat (48+n%10)]):=by
 show M.yN (M.pQ f) (n:Int)=_
 unfold M.yN;have h1:decide ((n:Int)<10)=false:=by rw[dR];omega
 have h2:Go.IntKind.wrap .i64 (Int.tdiv (n:Int) 10)=((n/10:Nat):Int):=by
  rw[show Int.tdiv (n:Int) 10=((n/10:Nat):Int)from Nk n 10,wrap_i64 (by omega) (by omega)]
 have h3:Int.tmod (n:Int) 10=((n%10:Nat):Int):=Nl n 10;have h4:n%10<10:=Nat.mod_lt _ (by decide);simp only[h1,h2,h3,hx,acR h4,acS h4,acT,aw,al,aj,fy,List.map_nil];rw[C7 (by simp;omega)];rfl
theorem Np{n:Nat}(h:n<1000):M.we (n:Int)=some (dY.dec n):=by
 obtain⟨f,hf⟩:∃f,ad=f+3:=⟨ad-3,by have:=bA;omega⟩;rw[show M.we=M.pQ ad from rfl,hf];unfold dY.dec;by_cases h1:n<10
 ·rw[dP h1];exact Nj h1 (f+2)
 ·rw[gq h1];by_cases h2:n<100
  ·rw[dP h2];have:=Nn (by omega) h (f+2) (Nj (show n/10<10 by omega) (f+1)) (by simp);simpa using this
  ·rw[gq h2];have a:=Nj (show n/100<10 by omega) f;have b:=Nn (n:=n/10) (by omega) (by omega) (f+1) (by rw[show n/10/10=n/100 by omega];exact a) (by simp);have:=Nn (by omega) h (f+2) b (by simp);simpa using this
theorem asq{n:Nat}(h:n<1000000000):M.CQ (n:Int)=some (dY.kA n):=by
 unfold M.CQ;have e1:Go.IntKind.wrap .i64 (Int.tdiv (n:Int) 1000000)=((n/1000000:Nat):Int):=by rw[show Int.tdiv (n:Int) 1000000=((n/1000000:Nat):Int)from Nk n 1000000,wrap_i64 (by omega) (by omega)]
 have e2:Int.tmod (Go.IntKind.wrap .i64 (Int.tdiv (n:Int) 1000)) 1000=((n/1000%1000:Nat):Int):=by
  rw[show Int.tdiv (n:Int) 1000=((n/1000:Nat):Int)from Nk n 1000,wrap_i64 (by omega) (by omega)];exact Nl (n/1000) 1000
 have e3:Int.tmod (n:Int) 1000=((n%1000:Nat):Int):=Nl n 1000;have l1:=dY.oj (n:=n/1000000);have l2:=dY.oj (n:=n/1000%1000);have l3:=dY.oj (n:=n%1000);simp only[e1,e2,e3,Np (show n/1000000<1000 by omega),Np (show n/1000%1000<1000 by omega),Np (show n%1000<1000 by omega),aw,al];rw[C7 (by simp;omega),C7 (by simp;omega),C7 (by simp;omega),C7 (by simp;omega)];unfold dY.kA;simp
structure acU (k n p d:Nat) (n':Int):Prop where
 fp:p<10^k
 fd:d<=k
 eq:d<=2->n'=(n:Int)
 d0:d=0->n=0
 d1:d=1->n<1001000000000000
 d2:d=2->n<2000000000000000000
theorem Nq(s:List UInt8):∀(g k n p d:Nat)(n':Int),k<=min s.length 12->min s.length 12-k<g->acU k n p d n'->
 (dY.scan (n,p,d) ((s.take 12).drop k)=none/\M.pP s g n' (p:Int) (d:Int) (k:Int)=some (.inl (-1)))\/
 ∃(m q e:Nat)(m':Int),dY.scan (n,p,d) ((s.take 12).drop k)=some (m,q,e)/\M.pP s g n' (p:Int) (d:Int) (k:Int)=some (.inr (s,m',(q:Int),(e:Int)))/\acU (min s.length 12) m q e m'
 |0,k,n,p,d,n',h1,h2,_=>by omega
 |g+1,k,n,p,d,n',h1,h2,hI=>by
  rw[M.pP];have hlen:(s.take 12).length=min s.length 12:=by rw[qe,Nat.min_comm]
  rcases cP k (min s.length 12)with hk|hk
  ·have hks:k<s.length:=by omega
   have hd:(s.take 12).drop k=s[k]::(s.take 12).drop (k+1):=by
    rw[sj (by rw[hlen];exact hk)];congr 1;rw[List.getElem_take]
   have asQ:p<1000000000000:=fS hI.fp (mD (Nat.pow_le_pow_right (by decide) (show k<=12 by omega)) (by decide));have c1:decide ((k:Int)<((s.length:Nat):Int))=true:=by rw[cz];omega
   have c2:decide ((k:Int)<12)=true:=by rw[cz];omega
   have c3:inB (k:Int) s.length=true:=by rw[dH];simpa using hks
   have hw:Go.IntKind.wrap .i64 ((k:Int)+1)=((k+1:Nat):Int):=by rw[wrap_i64 (by omega) (by omega)];omega
   rw[hd];simp only[c1,c2,c3,hw,cg,getD_lt hks,eB,bu,du,ae];rw[dY.scan];by_cases h46:s[k]=46
   ·rw[dP h46];have:((((s[k]).toNat:Nat):Int)==46)=true:=by rw[h46];decide
    rw[this,ae];have hw2:Go.IntKind.wrap .i64 ((d:Int)+1)=((d+1:Nat):Int):=by have:=hI.fd;rw[wrap_i64 (by omega) (by omega)];omega
    rw[hw2];refine Nq s g (k+1) ((n+p)*1000) 0 (d+1) _ (by omega) (by omega) ⟨Nat.pow_pos (by decide),by have:=hI.fd;omega,fun hd2=>?_,fun h=>by omega,fun h=>?_,fun h=>?_⟩
    ·have hn:n<1001000000000000:=by
      rcases cP d 1 with h|h
      ·rw[hI.d0 (by omega)];decide
      ·exact hI.d1 (by omega)
     rw[hI.eq (by omega),wrap_i64 (n:=(n:Int)+(p:Int)) (by omega) (by omega),wrap_i64 (by omega) (by omega)];omega
    ·rw[hI.d0 (by omega)];omega
    ·have:=hI.d1 (by omega);omega
   ·rw[gq h46];have hne:((((s[k]).toNat:Nat):Int)==46)=false:=by
     rw[bE];intro e;exact h46 (UInt8.toNat.inj (by have:(46:UInt8).toNat=46:=rfl;omega))
    rw[hne,aj];by_cases hdig:48<=s[k].toNat/\s[k].toNat<=57
    ·rw[dP hdig];have d1:decide ((((s[k]).toNat:Nat):Int)<48)=false:=by rw[dR];omega
     have d2:decide ((57:Int)<(((s[k]).toNat:Nat):Int))=false:=by rw[dR];omega
     have hu:Go.IntKind.wrap .u8 ((((s[k]).toNat:Nat):Int)-48)=((s[k].toNat-48:Nat):Int):=by
      have:∀m:Fin 58,48<=m.val->Go.IntKind.wrap .u8 (((m.val:Nat):Int)-48)=((m.val-48:Nat):Int):=by decide
      exact this ⟨s[k].toNat,by omega⟩ hdig.1
     have hw3:Go.IntKind.wrap .i64 (Go.IntKind.wrap .i64 ((10:Int)*(p:Int))+Go.IntKind.wrap .i64 (((s[k].toNat-48:Nat):Int)))=((10*p+(s[k].toNat-48):Nat):Int):=by
      rw[wrap_i64 (n:=(10:Int)*(p:Int)) (by omega) (by omega),wrap_i64 (n:=((s[k].toNat-48:Nat):Int)) (by omega) (by omega),wrap_i64 (by omega) (by omega)];omega
     simp only[d1,d2,rI,aj,hu,hw3];refine Nq s g (k+1) n (10*p+(s[k].toNat-48)) d n' (by omega) (by omega) ⟨?_,by have:=hI.fd;omega,hI.eq,hI.d0,hI.d1,hI.d2⟩;have:=hI.fp;rw[Nat.pow_succ];omega
    ·rw[gq hdig];have:(decide ((((s[k]).toNat:Nat):Int)<48)||decide ((57:Int)<(((s[k]).toNat:Nat):Int)))=true:=by
      rw[fG,cz,cz];omega
     rw[this];exact .inl ⟨rfl,rfl⟩
  ·have hk':k=min s.length 12:=by omega
   subst hk';have hd:(s.take 12).drop (min s.length 12)=[]:=by rw[<-hlen,l7]
   have:(decide (((min s.length 12:Nat):Int)<((s.length:Nat):Int))&&decide (((min s.length 12:Nat):Int)<12))=false:=by
    rw[Bool.and_eq_false_iff,dR,dR];omega
   rw[this,hd];exact .inr ⟨n,p,d,n',rfl,rfl,hI⟩
theorem ag7(s:List UInt8):M.CU s=some (sw s):=by
 have key:∃r:Int,M.CS s=some r/\decide (0<=r)=(dY.ud s).isSome:=by
  unfold M.CS dY.ud;have hl:=Nq s ad 0 0 0 0 0 (jr _) (by have:=bA;omega) ⟨by simp,cw _,fun _=>rfl,fun _=>rfl,fun h=>by omega,fun h=>by omega⟩;rw[ll]at hl;rcases hl with⟨e1,e2⟩|⟨m,q,e,m',e1,e2,hI⟩
  ·have e2':M.pP s ad 0 0 0 0=_:=e2;rw[e1,e2'];exact⟨-1,rfl,rfl⟩
  ·have e2':M.pP s ad 0 0 0 0=_:=e2;rw[e1,e2'];simp only;have hq:q<1000000000000:=fS hI.fp (mD (Nat.pow_le_pow_right (by decide) (show min s.length 12<=12 by omega)) (by decide));by_cases he:e=2
   ·subst he;have hm:=hI.d2 rfl;have hw:Go.IntKind.wrap .i64 (m'+(q:Int))=((m+q:Nat):Int):=by
     rw[hI.eq (by omega),wrap_i64 (by omega) (by omega)];omega
    rw[hw];by_cases hc:q<=999/\m+q<1000000000
    ·have c1:((((2:Nat):Int) !=2)||decide ((999:Int)<(q:Int)))=false:=by
      rw[ox,dR];exact⟨rfl,by omega⟩
     have c2:(decide ((0:Int)<=((m+q:Nat):Int))&&decide (((m+q:Nat):Int)<=999999999))=true:=by
      rw[cC,cz,cz];omega
     rw[c1,c2,asq hc.2];by_cases ht:dY.kA (m+q)=s
     ·rw[dP ⟨rfl,hc.1,hc.2,ht⟩];refine⟨((m+q:Nat):Int),?_,by simp;omega⟩;simp[ht]
     ·rw[gq (fun h=>ht h.2.2.2)];refine⟨-1,?_,by simp⟩;have:(dY.kA (m+q)==s)=false:=by rw[bE];exact ht
      simp[this]
    ·rw[gq (fun h=>hc ⟨h.2.1,h.2.2.1⟩)];have c:(((((2:Nat):Int) !=2)||decide ((999:Int)<(q:Int)))|| !(decide ((0:Int)<=((m+q:Nat):Int))&&decide (((m+q:Nat):Int)<=999999999)))=true:=by
      rw[fG,fG,cz,fE,Bool.and_eq_false_iff,dR,dR];omega
     rw[c];exact⟨-1,by simp,by simp⟩
   ·rw[gq (fun h=>he h.1)];have c:((((e:Nat):Int) !=2))=true:=by rw[zj];omega
    rw[c];exact⟨-1,by simp,by simp⟩
 obtain⟨r,h1,h2⟩:=key;unfold M.CU sw;rw[h1,dY.adl];simp only[al,aw,eB,ae,h2]
end M
