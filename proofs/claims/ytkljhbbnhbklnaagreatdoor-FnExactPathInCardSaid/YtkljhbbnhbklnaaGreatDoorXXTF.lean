/-
  NAMES AND TYPES: what is right, in plain Lean.
-/
import Derived.Test.YtkljhbbnhbklnaaGreatDoorXXplA
import Derived.Test.YtkljhbbnhbklnaaGreatDoorXZCM
import Derived.Test.YtkljhbbnhbklnaaGreatDoorXVER
set_option linter.unusedVariables false
namespace M
open Go.V (inB bV ah bq)
def ri(c:UInt8):Bool:=decide ((97:Int)<=((c.toNat:Nat):Int))&&decide (((c.toNat:Nat):Int)<=122)
def NI(c:UInt8):Bool:=decide ((48:Int)<=((c.toNat:Nat):Int))&&decide (((c.toNat:Nat):Int)<=57)
def tp(c:UInt8):Bool:=((c.toNat:Nat):Int)==45
def rj(s:List UInt8)(k:Nat):Bool:=ri (s.getD k 0)||(decide (0<k)&&((NI (s.getD k 0)||tp (s.getD k 0))&& !(tp (s.getD k 0)&&tp (s.getD (k-1) 0))))
def ib(s:List UInt8):Bool:=(List.range s.length).all (rj s)&&((decide (1<=s.length)&&decide (s.length<=12))&& !tp (s.getD (s.length-1) 0))
def awv(l:List (List UInt8)):Bool:=(decide (1<=l.length)&&decide (l.length<=16))&&(nodupB l&&l.all ib)
end M
set_option linter.unusedSimpArgs false
namespace M
open Go.V (inB bV ah bq)
theorem Gm{k n:Nat}(h0:0<k)(h:k<=n)(hn:n<2^62):Go.IntKind.wrap .i64 ((k:Int)-1)=((k-1:Nat):Int):=by
 rw[wrap_i64 (by omega) (by omega)];omega
theorem E1(s:List UInt8)(hs:s.length<=1048576):M.pK s=some (ib s):=by
 unfold M.pK;rw[U5 (p:=rj s) (F:=M.tq s (s.length:Int)) (e:=s) (b:=false) s.length (by omega) (fun f k hk=>by
  rw[M.tq];simp only[bP,dA,fL,hk,ed,ad,bo,bA,cT,bS hk (dZ hs),rj,ri,NI,tp,x7];generalize decide ((97:Int)<=(((s.getD k 0).toNat:Nat):Int))=a1;generalize decide ((((s.getD k 0).toNat:Nat):Int)<=122)=a2;generalize decide ((48:Int)<=(((s.getD k 0).toNat:Nat):Int))=a3;generalize decide ((((s.getD k 0).toNat:Nat):Int)<=57)=a4;generalize ((((s.getD k 0).toNat:Nat):Int)==45)=a5;rcases ox k with h0|h0
  ·subst h0;cases a1<;>cases a2<;>cases a3<;>cases a4<;>cases a5<;>simp
  ·have e0:((k:Int)==0)=false:=by rw[cM];omega
   have hk1:k-1<s.length:=by omega
   simp only[e0,Gm h0 (Nat.le_of_lt hk) (dZ hs),bP,dA,hk1,h0,ed];generalize ((((s.getD (k-1) 0).toNat:Nat):Int)==45)=a6;cases a1<;>cases a2<;>cases a3<;>cases a4<;>cases a5<;>cases a6<;>simp) (fun f=>by rw[M.tq];simp)]
 unfold ib;cases hall:(List.range s.length).all (rj s)
 ·simp
 ·simp only[qa,x7,bA];rcases ox s.length with h0|h0
  ·simp[h0]
  ·have h1:s.length-1<s.length:=by omega
   have e1:decide ((1:Int)<=((s.length:Nat):Int))=decide (1<=s.length):=by simp only[ml];omega
   have e2:decide (((s.length:Nat):Int)<=12)=decide (s.length<=12):=by simp only[ml];omega
   simp only[Gm h0 (ct _) (dZ hs),bP,dA,h1,ed,bo,cT,ad,e1,e2,tp]
theorem MN(s:List UInt8)(hs:s.length<=1048576):M.BP s=some (ib s):=by
 unfold M.BP;rcases ox s.length with h0|h0
 ·have:s=[]:=lV h0;subst this;rfl
 have h1:s.length-1<s.length:=by omega
 simp only[Gm h0 (ct _) (dZ hs),bP,dA,h1,Int.toNat_zero,ed,bo,cT,ad];have hz:inB (0:Int) s.length=true:=by
  show inB ((0:Nat):Int) s.length=true
  rw[dA];simpa using h0
 simp only[hz,bo,cT,ad];have e1:decide (((s.length:Nat):Int)<1)= !decide (1<=s.length):=by rw[<-rJ];simp only[ml];omega
 have e2:decide ((12:Int)<((s.length:Nat):Int))= !decide (s.length<=12):=by rw[<-rJ];simp only[ml];omega
 have e3:decide ((((s.getD 0 0).toNat:Nat):Int)<97)= !decide ((97:Int)<=(((s.getD 0 0).toNat:Nat):Int)):=by rw[<-rJ];simp only[ml];omega
 have e4:decide ((122:Int)<(((s.getD 0 0).toNat:Nat):Int))= !decide ((((s.getD 0 0).toNat:Nat):Int)<=122):=by rw[<-rJ];simp only[ml];omega
 rw[e1,e2,e3,e4];by_cases hlow:ri (s.getD 0 0)=true
 ·have hl:=hlow;simp only[ri,bB]at hl;rw[U5 (p:=rj s) (F:=M.vz s) (e:=()) (b:=false) s.length (by omega) (fun f k hk=>by
   rw[M.vz];have f1:decide ((((s.getD k 0).toNat:Nat):Int)<97)= !decide ((97:Int)<=(((s.getD k 0).toNat:Nat):Int)):=by rw[<-rJ];simp only[ml];omega
   have f2:decide ((122:Int)<(((s.getD k 0).toNat:Nat):Int))= !decide ((((s.getD k 0).toNat:Nat):Int)<=122):=by rw[<-rJ];simp only[ml];omega
   have f3:decide ((((s.getD k 0).toNat:Nat):Int)<48)= !decide ((48:Int)<=(((s.getD k 0).toNat:Nat):Int)):=by rw[<-rJ];simp only[ml];omega
   have f4:decide ((57:Int)<(((s.getD k 0).toNat:Nat):Int))= !decide ((((s.getD k 0).toNat:Nat):Int)<=57):=by rw[<-rJ];simp only[ml];omega
   simp only[bP,dA,fL,hk,ed,ad,bo,bA,cT,bS hk (dZ hs),rj,ri,NI,tp,x7,f1,f2,f3,f4];have dash:ri (s.getD k 0)=true->((((s.getD k 0).toNat:Nat):Int)==45)=false:=fun h=>by
    simp only[ri,bB,bU]at h;rw[cM];omega
   simp only[ri]at dash;rcases ox k with k0|k0
   ·subst k0;rw[hl.1,hl.2]at*;simp only[al]at dash;rw[dash trivial];simp
   ·have hk1:k-1<s.length:=by omega
    simp only[Gm k0 (Nat.le_of_lt hk) (dZ hs),bP,dA,hk1,k0,ed];generalize ((((s.getD (k-1) 0).toNat:Nat):Int)==45)=a6
    revert dash
    generalize decide ((97:Int)<=(((s.getD k 0).toNat:Nat):Int))=a1;generalize decide ((((s.getD k 0).toNat:Nat):Int)<=122)=a2;generalize decide ((48:Int)<=(((s.getD k 0).toNat:Nat):Int))=a3;generalize decide ((((s.getD k 0).toNat:Nat):Int)<=57)=a4;generalize ((((s.getD k 0).toNat:Nat):Int)==45)=a5;intro dash;cases a1<;>cases a2<;>cases a3<;>cases a4<;>cases a5<;>cases a6<;>simp at dash⊢) (fun f=>by rw[M.vz];simp)]
  rw[hl.1,hl.2];unfold ib tp;cases (List.range s.length).all (rj s)<;>cases decide (1<=s.length)<;>cases decide (s.length<=12)<;>cases ((((s.getD (s.length-1) 0).toNat:Nat):Int)==45)<;>rfl
 ·have hno:ib s=false:=by
   unfold ib;have:(List.range s.length).all (rj s)=false:=by
    rw[List.all_eq_false];refine⟨0,by simpa using h0,?_⟩;simp only[mn]at hlow;simp only[rj,hlow];intro h;cases h
   rw[this];rfl
  rw[hno];simp only[mn]at hlow;simp only[ri]at hlow;cases h3:decide ((97:Int)<=(((s.getD 0 0).toNat:Nat):Int))<;>cases h4:decide ((((s.getD 0 0).toNat:Nat):Int)<=122)<;>rw[h3,h4]at hlow<;>simp at hlow⊢
end M
namespace M
open Go.V (inB bV ah bq)
def km(s:List UInt8):Bool:=(cK.ig s).isSome
theorem amm(s:List UInt8):(match M.dX s with|(v,b)=>if b=true/\(0<=v/\v<=999)then some v.toNat else none)=cK.ou s:=by
 unfold M.dX cK.ou;cases Go.Lib.parseIntB 64 s with
 |ok v=>
  simp only;by_cases h:Go.Lib.itoa v=s
  ·rw[ba h];simp only[h,true_and]
  ·rw[aX h];simp[h]
 |_=>simp
theorem yh(s:List UInt8):(cK.ou s=none/\((!(M.dX s).2)||(!(decide ((0:Int)<=(M.dX s).1)&&decide ((M.dX s).1<=999))))=true)\/∃n:Nat,cK.ou s=some n/\n<=999/\(M.dX s).1=(n:Int)/\((!(M.dX s).2)||(!(decide ((0:Int)<=(M.dX s).1)&&decide ((M.dX s).1<=999))))=false:=by
 have h:=amm s;generalize M.dX s=p at h;obtain⟨v,b⟩:=p;simp only at h⊢;by_cases hc:b=true/\(0<=v/\v<=999)
 ·rw[ba hc]at h;exact .inr ⟨v.toNat,h.symm,by omega,by omega,by simp[hc.1,hc.2.1,hc.2.2]⟩
 ·rw[aX hc]at h;refine .inl ⟨h.symm,?_⟩;cases b
  ·rfl
  ·simp only[bM,jV,fK,Bool.and_eq_false_iff,eV];simp only[true_and]at hc;omega
theorem UW(s:List UInt8):∀p∈cK.d6 s,p.length<=s.length:=by
 have key:∀(s:List UInt8),∀p∈cK.d6 s,p.length<=s.length:=by
  intro s
  induction s with
  |nil=>intro p hp;simp[cK.d6]at hp;subst hp;simp
  |cons c r ih=>
   intro p hp;unfold cK.d6 at hp;split at hp
   ·rcases gp.1 hp with rfl|hp
    ·simp
    ·have:=ih p hp;simp;omega
   ·split at hp
    ·rename_i x y e;rw[e]at ih;rcases gp.1 hp with rfl|hp
     ·have:=ih x (by simp);simp;omega
     ·have:=ih p (by simp[hp]);simp;omega
    ·simp at hp;subst hp;simp
 exact key s
theorem MQ(s:List UInt8)(h:s.length<=1048576):M.rk s=some (km s):=by
 have hs:M.strings_Split s [46]=some (cK.d6 s):=by
  unfold M.strings_Split;have:decide (s.length<4294967281)=true:=by rw[bU];omega
  rw[this];rfl
 have hrd:∀p∈cK.d6 s,M.mG p=some (M.dX p):=fun p hp=>by
  have:=UW s p hp;unfold M.mG;have:decide (p.length<=281474976710656)=true:=by rw[bU];omega
  rw[this];rfl
 have hv:∃v:Int×Bool,M.m5 s=some v/\v.2=km s:=by
  unfold M.m5 km cK.ig;rw[hs];simp only[av,aw,bA,cT,ad]
  match hp:cK.d6 s,hrd with
  |[],_=>exact⟨_,rfl,rfl⟩
  |[a],_=>exact⟨_,rfl,rfl⟩
  |[a,b],_=>exact⟨_,rfl,rfl⟩
  |a::b::c::d::r,_=>
   have:((((a::b::c::d::r).length:Nat):Int) !=3)=true:=by
    simp only[aU,yU];omega
   rw[this];exact⟨_,rfl,rfl⟩
  |[a,b,c],hrd=>
    have h3:((((([a,b,c]:List (List UInt8)).length:Nat):Int) !=3))=false:=rfl;rw[h3];simp only[ak];obtain⟨f0,hf0⟩:∃f0,ah=f0+4:=⟨ah-4,by have:=bq;omega⟩;have ra:=hrd a (by simp);have rb:=hrd b (by simp);have rc:=hrd c (by simp);have st:∀(f:Nat)(n:Int)(k:Nat)(p:List UInt8)(hk:k<3),([a,b,c].getD k [])=p->M.mG p=some (M.dX p)->M.lS [a,b,c] ((([a,b,c]:List (List UInt8)).length:Nat):Int) (f+1) n (k:Int)=
     bif((!(M.dX p).2)||(!(decide ((0:Int)<=(M.dX p).1)&&decide ((M.dX p).1<=999))))then some (.inl (0,false))else M.lS [a,b,c] ((([a,b,c]:List (List UInt8)).length:Nat):Int) f (Go.IntKind.wrap .i64 (Go.IntKind.wrap .i64 (n*1000)+(M.dX p).1)) ((k+1:Nat):Int):=fun f n k p hk hg hr=>by
     rw[M.lS];have hlt:decide ((k:Int)<((([a,b,c]:List (List UInt8)).length:Nat):Int))=true:=by simp;omega
     have hin:inB (k:Int) ([a,b,c]:List (List UInt8)).length=true:=by rw[dA];simp;omega
     simp only[hlt,ad,bP,hg,hr,av,aw,hin,bA,cT,bS (show k<3 from hk) (by omega)]
    have e0:=st (f0+3) 0 0 a (by omega) rfl ra;rw[hf0];change M.lS [a,b,c] ((([a,b,c]:List (List UInt8)).length:Nat):Int) (f0+4) 0 0=_ at e0;rw[e0];rcases yh a with⟨ha,ca⟩|⟨x,ha,hx,ea,ca⟩
    ·rw[ca,ha];exact⟨_,rfl,rfl⟩
    rw[ca,ha];have w1:Go.IntKind.wrap .i64 (Go.IntKind.wrap .i64 ((0:Int)*1000)+(M.dX a).1)=(x:Int):=by
     rw[ea,wrap_i64 (n:=0*1000) (by omega) (by omega),wrap_i64 (by omega) (by omega)];omega
    rw[ak,w1,st (f0+2) _ 1 b (by omega) rfl rb];rcases yh b with⟨hb,cb⟩|⟨y,hb,hy,eb,cb⟩
    ·rw[cb,hb];exact⟨_,rfl,rfl⟩
    rw[cb,hb];have w2:Go.IntKind.wrap .i64 (Go.IntKind.wrap .i64 ((x:Int)*1000)+(M.dX b).1)=((x*1000+y:Nat):Int):=by
     rw[eb,wrap_i64 (show -9223372036854775808<=(x:Int)*1000 by omega) (by omega),wrap_i64 (by omega) (by omega)];omega
    rw[ak,w2,st (f0+1) _ 2 c (by omega) rfl rc];rcases yh c with⟨hc,cc⟩|⟨z,hc,hz,ec,cc⟩
    ·rw[cc,hc];exact⟨_,rfl,rfl⟩
    rw[cc,hc];have w3:Go.IntKind.wrap .i64 (Go.IntKind.wrap .i64 (((x*1000+y:Nat):Int)*1000)+(M.dX c).1)=(((x*1000+y)*1000+z:Nat):Int):=by
     rw[ec,wrap_i64 (show -9223372036854775808<=((x*1000+y:Nat):Int)*1000 by omega) (by omega),wrap_i64 (by omega) (by omega)];omega
    rw[ak,w3,M.lS];exact⟨_,rfl,rfl⟩
 obtain⟨v,h1,h2⟩:=hv;unfold M.rk;rw[h1];simp only[aw,av,cT,ad,h2]
end M
namespace M
open Go.V (inB bV ah bq)
theorem U6{n:Nat}(h:n<10):Go.IntKind.wrap .u8 (Go.IntKind.wrap .i64 ((48:Int)+(n:Int)))=((48+n:Nat):Int):=by
 rw[wrap_i64 (by omega) (by omega)];have:∀m:Fin 10,Go.IntKind.wrap .u8 ((48:Int)+((m.val:Nat):Int))=((48+m.val:Nat):Int):=by decide
 exact this ⟨n,h⟩
theorem U7{n:Nat}(h:n<10):Go.V.sg ((48+n:Nat):Int)=true:=by
 unfold Go.V.sg;simp only[bB,bU];omega
theorem U8(n:Nat):Go.V.si ((48+n:Nat):Int)=UInt8.ofNat (48+n):=by
 unfold Go.V.si;rw[bP]
theorem NJ{n:Nat}(h:n<10)(f:Nat):M.pL (f+1) (n:Int)=some [UInt8.ofNat (48+n)]:=by
 show M.yj (M.pL f) (n:Int)=_
 unfold M.yj;have:decide ((n:Int)<10)=true:=by rw[bU];omega
 simp only[this,U6 h,U7 h,U8];rfl
theorem NK(a b:Nat):Int.tdiv (a:Int) (b:Int)=((a/b:Nat):Int):=(Int.ofNat_tdiv a b).symm
theorem NL(a b:Nat):Int.tmod (a:Int) (b:Int)=((a%b:Nat):Int):=(Int.ofNat_tmod a b).symm
theorem BQ{a b:List UInt8}(h:a.length+b.length<=4611686018427387904):Go.V.az a b=true:=by
 unfold Go.V.az;rw[bU];exact h
theorem NM{n:Nat}(h:10<=n)(hn:n<1000)(f:Nat){x:List UInt8}(hx:M.pL f ((n/10:Nat):Int)=some x)(hl:x.length<=10):M.pL (f+1) (n:Int)=some (x++[UInt8.ofNat (48+n%10)]):=by
 show M.yj (M.pL f) (n:Int)=_
 unfold M.yj;have h1:decide ((n:Int)<10)=false:=by rw[eV];omega
 have h2:Go.IntKind.wrap .i64 (Int.tdiv (n:Int) 10)=((n/10:Nat):Int):=by
  rw[show Int.tdiv (n:Int) 10=((n/10:Nat):Int)from NK n 10,wrap_i64 (by omega) (by omega)]
 have h3:Int.tmod (n:Int) 10=((n%10:Nat):Int):=NL n 10;have h4:n%10<10:=Nat.mod_lt _ (by decide);simp only[h1,h2,h3,hx,U6 h4,U7 h4,U8,av,aw,ak,eN,List.map_nil];rw[BQ (by simp;omega)];rfl
theorem NN{n:Nat}(h:n<1000):M.vA (n:Int)=some (cK.dec n):=by
 obtain⟨f,hf⟩:∃f,ah=f+3:=⟨ah-3,by have:=bq;omega⟩;rw[show M.vA=M.pL ah from rfl,hf];unfold cK.dec;by_cases h1:n<10
 ·rw[ba h1];exact NJ h1 (f+2)
 ·rw[aX h1];by_cases h2:n<100
  ·rw[ba h2];have:=NM (by omega) h (f+2) (NJ (show n/10<10 by omega) (f+1)) (by simp);simpa using this
  ·rw[aX h2];have a:=NJ (show n/100<10 by omega) f;have b:=NM (n:=n/10) (by omega) (by omega) (f+1) (by rw[show n/10/10=n/100 by omega];exact a) (by simp);have:=NM (by omega) h (f+2) b (by simp);simpa using this
theorem UX{n:Nat}(h:n<1000000000):M.BR (n:Int)=some (cK.jF n):=by
 unfold M.BR;have e1:Go.IntKind.wrap .i64 (Int.tdiv (n:Int) 1000000)=((n/1000000:Nat):Int):=by rw[show Int.tdiv (n:Int) 1000000=((n/1000000:Nat):Int)from NK n 1000000,wrap_i64 (by omega) (by omega)]
 have e2:Int.tmod (Go.IntKind.wrap .i64 (Int.tdiv (n:Int) 1000)) 1000=((n/1000%1000:Nat):Int):=by
  rw[show Int.tdiv (n:Int) 1000=((n/1000:Nat):Int)from NK n 1000,wrap_i64 (by omega) (by omega)];exact NL (n/1000) 1000
 have e3:Int.tmod (n:Int) 1000=((n%1000:Nat):Int):=NL n 1000;have l1:=cK.ot (n:=n/1000000);have l2:=cK.ot (n:=n/1000%1000);have l3:=cK.ot (n:=n%1000);simp only[e1,e2,e3,NN (show n/1000000<1000 by omega),NN (show n/1000%1000<1000 by omega),NN (show n%1000<1000 by omega),av,aw];rw[BQ (by simp;omega),BQ (by simp;omega),BQ (by simp;omega),BQ (by simp;omega)];unfold cK.jF;simp
structure U9 (k n p d:Nat) (n':Int):Prop where
 fp:p<10^k
 fd:d<=k
 eq:d<=2->n'=(n:Int)
 d0:d=0->n=0
 d1:d=1->n<1001000000000000
 d2:d=2->n<2000000000000000000
theorem Gf(s:List UInt8):∀(g k n p d:Nat)(n':Int),k<=min s.length 12->min s.length 12-k<g->U9 k n p d n'->
 (cK.scan (n,p,d) ((s.take 12).drop k)=none/\M.m6 s g n' (p:Int) (d:Int) (k:Int)=some (.inl (-1)))\/
 ∃(m q e:Nat)(m':Int),cK.scan (n,p,d) ((s.take 12).drop k)=some (m,q,e)/\M.m6 s g n' (p:Int) (d:Int) (k:Int)=some (.inr (s,m',(q:Int),(e:Int)))/\U9 (min s.length 12) m q e m'
 |0,k,n,p,d,n',h1,h2,_=>by omega
 |g+1,k,n,p,d,n',h1,h2,hI=>by
  rw[M.m6];have hlen:(s.take 12).length=min s.length 12:=by rw[ni,Nat.min_comm]
  rcases cN k (min s.length 12)with hk|hk
  ·have hks:k<s.length:=by omega
   have hd:(s.take 12).drop k=s[k]::(s.take 12).drop (k+1):=by
    rw[sn (by rw[hlen];exact hk)];congr 1;rw[List.getElem_take]
   have aww:p<1000000000000:=jU hI.fp (kG (Nat.pow_le_pow_right (by decide) (show k<=12 by omega)) (by decide));have c1:decide ((k:Int)<((s.length:Nat):Int))=true:=by rw[bU];omega
   have c2:decide ((k:Int)<12)=true:=by rw[bU];omega
   have c3:inB (k:Int) s.length=true:=by rw[dA];simpa using hks
   have hw:Go.IntKind.wrap .i64 ((k:Int)+1)=((k+1:Nat):Int):=by rw[wrap_i64 (by omega) (by omega)];omega
   rw[hd];simp only[c1,c2,c3,hw,bP,getD_lt hks,cT,bA,bo,ad];rw[cK.scan];by_cases h46:s[k]=46
   ·rw[ba h46];have:((((s[k]).toNat:Nat):Int)==46)=true:=by rw[h46];decide
    rw[this,ad];have hw2:Go.IntKind.wrap .i64 ((d:Int)+1)=((d+1:Nat):Int):=by have:=hI.fd;rw[wrap_i64 (by omega) (by omega)];omega
    rw[hw2];refine Gf s g (k+1) ((n+p)*1000) 0 (d+1) _ (by omega) (by omega) ⟨Nat.pow_pos (by decide),by have:=hI.fd;omega,fun hd2=>?_,fun h=>by omega,fun h=>?_,fun h=>?_⟩
    ·have hn:n<1001000000000000:=by
      rcases cN d 1 with h|h
      ·rw[hI.d0 (by omega)];decide
      ·exact hI.d1 (by omega)
     rw[hI.eq (by omega),wrap_i64 (n:=(n:Int)+(p:Int)) (by omega) (by omega),wrap_i64 (by omega) (by omega)];omega
    ·rw[hI.d0 (by omega)];omega
    ·have:=hI.d1 (by omega);omega
   ·rw[aX h46];have hne:((((s[k]).toNat:Nat):Int)==46)=false:=by
     rw[cM];intro e;exact h46 (UInt8.toNat.inj (by have:(46:UInt8).toNat=46:=rfl;omega))
    rw[hne,ak];by_cases hdig:48<=s[k].toNat/\s[k].toNat<=57
    ·rw[ba hdig];have d1:decide ((((s[k]).toNat:Nat):Int)<48)=false:=by rw[eV];omega
     have d2:decide ((57:Int)<(((s[k]).toNat:Nat):Int))=false:=by rw[eV];omega
     have hu:Go.IntKind.wrap .u8 ((((s[k]).toNat:Nat):Int)-48)=((s[k].toNat-48:Nat):Int):=by
      have:∀m:Fin 58,48<=m.val->Go.IntKind.wrap .u8 (((m.val:Nat):Int)-48)=((m.val-48:Nat):Int):=by decide
      exact this ⟨s[k].toNat,by omega⟩ hdig.1
     have hw3:Go.IntKind.wrap .i64 (Go.IntKind.wrap .i64 ((10:Int)*(p:Int))+Go.IntKind.wrap .i64 (((s[k].toNat-48:Nat):Int)))=((10*p+(s[k].toNat-48):Nat):Int):=by
      rw[wrap_i64 (n:=(10:Int)*(p:Int)) (by omega) (by omega),wrap_i64 (n:=((s[k].toNat-48:Nat):Int)) (by omega) (by omega),wrap_i64 (by omega) (by omega)];omega
     simp only[d1,d2,ln,ak,hu,hw3];refine Gf s g (k+1) n (10*p+(s[k].toNat-48)) d n' (by omega) (by omega) ⟨?_,by have:=hI.fd;omega,hI.eq,hI.d0,hI.d1,hI.d2⟩;have:=hI.fp;rw[Nat.pow_succ];omega
    ·rw[aX hdig];have:(decide ((((s[k]).toNat:Nat):Int)<48)||decide ((57:Int)<(((s[k]).toNat:Nat):Int)))=true:=by
      rw[gi,bU,bU];omega
     rw[this];exact .inl ⟨rfl,rfl⟩
  ·have hk':k=min s.length 12:=by omega
   subst hk';have hd:(s.take 12).drop (min s.length 12)=[]:=by rw[<-hlen,ue]
   have:(decide (((min s.length 12:Nat):Int)<((s.length:Nat):Int))&&decide (((min s.length 12:Nat):Int)<12))=false:=by
    rw[Bool.and_eq_false_iff,eV,eV];omega
   rw[this,hd];exact .inr ⟨n,p,d,n',rfl,rfl,hI⟩
theorem Tn(s:List UInt8):M.vB s=some (km s):=by
 have key:∃r:Int,M.nY s=some r/\decide (0<=r)=(cK.ov s).isSome:=by
  unfold M.nY cK.ov;have hl:=Gf s ah 0 0 0 0 0 (dL _) (by have:=bq;omega) ⟨by simp,ct _,fun _=>rfl,fun _=>rfl,fun h=>by omega,fun h=>by omega⟩;rw[gX]at hl;rcases hl with⟨e1,e2⟩|⟨m,q,e,m',e1,e2,hI⟩
  ·have e2':M.m6 s ah 0 0 0 0=_:=e2;rw[e1,e2'];exact⟨-1,rfl,rfl⟩
  ·have e2':M.m6 s ah 0 0 0 0=_:=e2;rw[e1,e2'];simp only;have hq:q<1000000000000:=jU hI.fp (kG (Nat.pow_le_pow_right (by decide) (show min s.length 12<=12 by omega)) (by decide));by_cases he:e=2
   ·subst he;have hm:=hI.d2 rfl;have hw:Go.IntKind.wrap .i64 (m'+(q:Int))=((m+q:Nat):Int):=by
     rw[hI.eq (by omega),wrap_i64 (by omega) (by omega)];omega
    rw[hw];by_cases hc:q<=999/\m+q<1000000000
    ·have c1:((((2:Nat):Int) !=2)||decide ((999:Int)<(q:Int)))=false:=by
      rw[kD,eV];exact⟨rfl,by omega⟩
     have c2:(decide ((0:Int)<=((m+q:Nat):Int))&&decide (((m+q:Nat):Int)<=999999999))=true:=by
      rw[bB,bU,bU];omega
     rw[c1,c2,UX hc.2];by_cases ht:cK.jF (m+q)=s
     ·rw[ba ⟨rfl,hc.1,hc.2,ht⟩];refine⟨((m+q:Nat):Int),?_,by simp;omega⟩;simp[ht]
     ·rw[aX (fun h=>ht h.2.2.2)];refine⟨-1,?_,by simp⟩;have:(cK.jF (m+q)==s)=false:=by rw[cM];exact ht
      simp[this]
    ·rw[aX (fun h=>hc ⟨h.2.1,h.2.2.1⟩)];have c:(((((2:Nat):Int) !=2)||decide ((999:Int)<(q:Int)))|| !(decide ((0:Int)<=((m+q:Nat):Int))&&decide (((m+q:Nat):Int)<=999999999)))=true:=by
      rw[gi,gi,bU,fK,Bool.and_eq_false_iff,eV,eV];omega
     rw[c];exact⟨-1,by simp,by simp⟩
   ·rw[aX (fun h=>he h.1)];have c:((((e:Nat):Int) !=2))=true:=by rw[yU];omega
    rw[c];exact⟨-1,by simp,by simp⟩
 obtain⟨r,h1,h2⟩:=key;unfold M.vB km;rw[h1,cK.Po];simp only[aw,av,cT,ad,h2]
end M
