/-
  VERSIONS: what the program and the reference find of them.
-/
import Derived.Test.YthggbkhhdgnmaaaGreatDoorXETP
import Derived.Test.YthggbkhhdgnmaaaGreatDoorXVER
set_option linter.unusedVariables false
set_option linter.unusedSimpArgs false
namespace M
open Go.V (inB cA ae bS)
def ml(s:List UInt8):Bool:=(dP.wj s).isSome
theorem awY(s:List UInt8):(match M.fh s with|(v,b)=>if b=true/\(0<=v/\v<=999)then some v.toNat else none)=dP.pd s:=by
 unfold M.fh dP.pd;cases Go.Lib.parseIntB 64 s with
 |ok v=>
  simp only;by_cases h:Go.Lib.itoa v=s
  ·rw[aF h];simp only[h,wk]
  ·rw[ax h];simp[h]
 |_=>simp
theorem NU(s:List UInt8):(dP.pd s=none/\((!(M.fh s).2)||(!(decide ((0:Int)<=(M.fh s).1)&&decide ((M.fh s).1<=999))))=true)\/∃n:Nat,dP.pd s=some n/\n<=999/\(M.fh s).1=(n:Int)/\((!(M.fh s).2)||(!(decide ((0:Int)<=(M.fh s).1)&&decide ((M.fh s).1<=999))))=false:=by
 have h:=awY s;generalize M.fh s=p at h;obtain⟨v,b⟩:=p;simp only at h⊢;by_cases hc:b=true/\(0<=v/\v<=999)
 ·rw[aF hc]at h;exact .inr ⟨v.toNat,h.symm,by omega,by omega,by simp[hc.1,hc.2.1,hc.2.2]⟩
 ·rw[ax hc]at h;refine .inl ⟨h.symm,?_⟩;cases b
  ·rfl
  ·simp only[dE,gm,fk,Bool.and_eq_false_iff,ew];simp only[wk]at hc;omega
theorem awZ(s:List UInt8):∀p∈dP.eF s,p.length<=s.length:=by
 have key:∀(s:List UInt8),∀p∈dP.eF s,p.length<=s.length:=by
  intro s
  induction s with
  |nil=>intro p hp;simp[dP.eF]at hp;subst hp;simp
  |cons c r ih=>
   intro p hp;unfold dP.eF at hp;split at hp
   ·rcases eH.1 hp with rfl|hp
    ·simp
    ·have:=ih p hp;simp;omega
   ·split at hp
    ·rename_i x y e;rw[e]at ih;rcases eH.1 hp with rfl|hp
     ·have:=ih x (by simp);simp;omega
     ·have:=ih p (by simp[hp]);simp;omega
    ·simp at hp;subst hp;simp
 exact key s
theorem Sz(s:List UInt8)(h:s.length<=1048576):M.uE s=some (ml s):=by
 have hs:M.strings_Split s [46]=some (dP.eF s):=by
  unfold M.strings_Split;have:decide (s.length<4294967281)=true:=by rw[bu];omega
  rw[this];rfl
 have hrd:∀p∈dP.eF s,M.pR p=some (M.fh p):=fun p hp=>by
  have:=awZ s p hp;unfold M.pR;have:decide (p.length<=281474976710656)=true:=by rw[bu];omega
  rw[this];rfl
 have hv:∃v:Int×Bool,M.Az s=some v/\v.2=ml s:=by
  unfold M.Az ml dP.wj;rw[hs];simp only[aZ,bf,bj,aS,aG]
  match hp:dP.eF s,hrd with
  |[],_=>exact⟨_,rfl,rfl⟩
  |[a],_=>exact⟨_,rfl,rfl⟩
  |[a,b],_=>exact⟨_,rfl,rfl⟩
  |a::b::c::d::r,_=>
   have:((((a::b::c::d::r).length:Nat):Int) !=3)=true:=by
    simp only[cD,iu];omega
   rw[this];exact⟨_,rfl,rfl⟩
  |[a,b,c],hrd=>
    have h3:((((([a,b,c]:List (List UInt8)).length:Nat):Int) !=3))=false:=rfl;rw[h3];simp only[bM];obtain⟨f0,hf0⟩:∃f0,ae=f0+4:=⟨ae-4,by have:=bS;omega⟩;have ra:=hrd a (by simp);have rb:=hrd b (by simp);have rc:=hrd c (by simp);have st:∀(f:Nat)(n:Int)(k:Nat)(p:List UInt8)(hk:k<3),([a,b,c].getD k [])=p->M.pR p=some (M.fh p)->M.pQ [a,b,c] ((([a,b,c]:List (List UInt8)).length:Nat):Int) (f+1) n (k:Int)=
     bif((!(M.fh p).2)||(!(decide ((0:Int)<=(M.fh p).1)&&decide ((M.fh p).1<=999))))then some (.inl (0,false))else M.pQ [a,b,c] ((([a,b,c]:List (List UInt8)).length:Nat):Int) f (Go.IntKind.wrap .i64 (Go.IntKind.wrap .i64 (n*1000)+(M.fh p).1)) ((k+1:Nat):Int):=fun f n k p hk hg hr=>by
     rw[M.pQ];have hlt:decide ((k:Int)<((([a,b,c]:List (List UInt8)).length:Nat):Int))=true:=by simp;omega
     have hin:inB (k:Int) ([a,b,c]:List (List UInt8)).length=true:=by rw[bz];simp;omega
     simp only[hlt,aG,bn,hg,hr,aZ,bf,hin,bj,aS,bE (show k<3 from hk) (by omega)]
    have e0:=st (f0+3) 0 0 a (by omega) rfl ra;rw[hf0];change M.pQ [a,b,c] ((([a,b,c]:List (List UInt8)).length:Nat):Int) (f0+4) 0 0=_ at e0;rw[e0];rcases NU a with⟨ha,ca⟩|⟨x,ha,hx,ea,ca⟩
    ·rw[ca,ha];exact⟨_,rfl,rfl⟩
    rw[ca,ha];have w1:Go.IntKind.wrap .i64 (Go.IntKind.wrap .i64 ((0:Int)*1000)+(M.fh a).1)=(x:Int):=by
     rw[ea,wrap_i64 (n:=0*1000) (by omega) (by omega),wrap_i64 (by omega) (by omega)];omega
    rw[bM,w1,st (f0+2) _ 1 b (by omega) rfl rb];rcases NU b with⟨hb,cb⟩|⟨y,hb,hy,eb,cb⟩
    ·rw[cb,hb];exact⟨_,rfl,rfl⟩
    rw[cb,hb];have w2:Go.IntKind.wrap .i64 (Go.IntKind.wrap .i64 ((x:Int)*1000)+(M.fh b).1)=((x*1000+y:Nat):Int):=by
     rw[eb,wrap_i64 (show -9223372036854775808<=(x:Int)*1000 by omega) (by omega),wrap_i64 (by omega) (by omega)];omega
    rw[bM,w2,st (f0+1) _ 2 c (by omega) rfl rc];rcases NU c with⟨hc,cc⟩|⟨z,hc,hz,ec,cc⟩
    ·rw[cc,hc];exact⟨_,rfl,rfl⟩
    rw[cc,hc];have w3:Go.IntKind.wrap .i64 (Go.IntKind.wrap .i64 (((x*1000+y:Nat):Int)*1000)+(M.fh c).1)=(((x*1000+y)*1000+z:Nat):Int):=by
     rw[ec,wrap_i64 (show -9223372036854775808<=((x*1000+y:Nat):Int)*1000 by omega) (by omega),wrap_i64 (by omega) (by omega)];omega
    rw[bM,w3,M.pQ];exact⟨_,rfl,rfl⟩
 obtain⟨v,h1,h2⟩:=hv;unfold M.uE;rw[h1];simp only[bf,aZ,aS,aG,h2]
end M
namespace M
open Go.V (inB cA ae bS)
theorem agL{n:Nat}(h:n<10):Go.IntKind.wrap .u8 (Go.IntKind.wrap .i64 ((48:Int)+(n:Int)))=((48+n:Nat):Int):=by
 rw[wrap_i64 (by omega) (by omega)];have:∀m:Fin 10,Go.IntKind.wrap .u8 ((48:Int)+((m.val:Nat):Int))=((48+m.val:Nat):Int):=by decide
 exact this ⟨n,h⟩
theorem agM{n:Nat}(h:n<10):Go.V.m8 ((48+n:Nat):Int)=true:=by
 unfold Go.V.m8;simp only[bJ,bu];omega
theorem agN(n:Nat):Go.V.pe ((48+n:Nat):Int)=UInt8.ofNat (48+n):=by
 unfold Go.V.pe;rw[bn]
theorem NV{n:Nat}(h:n<10)(f:Nat):M.oS (f+1) (n:Int)=some [UInt8.ofNat (48+n)]:=by
 show M.yE (M.oS f) (n:Int)=_
 unfold M.yE;have:decide ((n:Int)<10)=true:=by rw[bu];omega
 simp only[this,agL h,agM h,agN];rfl
theorem NW(a b:Nat):Int.tdiv (a:Int) (b:Int)=((a/b:Nat):Int):=(Int.ofNat_tdiv a b).symm
theorem NY(a b:Nat):Int.tmod (a:Int) (b:Int)=((a%b:Nat):Int):=(Int.ofNat_tmod a b).symm
theorem m9{a b:List UInt8}(h:a.length+b.length<=4611686018427387904):Go.V.ka a b=true:=by
 unfold Go.V.ka;rw[bu];exact h
theorem NZ{n:Nat}(h:10<=n)(hn:n<1000)(f:Nat){x:List UInt8}(hx:M.oS f ((n/10:Nat):Int)=some x)(hl:x.length<=10):M.oS (f+1) (n:Int)=some (x++[UInt8.ofNat (48+n%10)]):=by
 show M.yE (M.oS f) (n:Int)=_
 unfold M.yE;have h1:decide ((n:Int)<10)=false:=by rw[ew];omega
 have h2:Go.IntKind.wrap .i64 (Int.tdiv (n:Int) 10)=((n/10:Nat):Int):=by
  rw[show Int.tdiv (n:Int) 10=((n/10:Nat):Int)from NW n 10,wrap_i64 (by omega) (by omega)]
 have h3:Int.tmod (n:Int) 10=((n%10:Nat):Int):=NY n 10;have h4:n%10<10:=Nat.mod_lt _ (by decide);simp only[h1,h2,h3,hx,agL h4,agM h4,agN,aZ,bf,bM,jo,List.map_nil];rw[m9 (by simp;omega)];rfl
theorem N1{n:Nat}(h:n<1000):M.we (n:Int)=some (dP.dec n):=by
 obtain⟨f,hf⟩:∃f,ae=f+3:=⟨ae-3,by have:=bS;omega⟩;rw[show M.we=M.oS ae from rfl,hf];unfold dP.dec;by_cases h1:n<10
 ·rw[aF h1];exact NV h1 (f+2)
 ·rw[ax h1];by_cases h2:n<100
  ·rw[aF h2];have:=NZ (by omega) h (f+2) (NV (show n/10<10 by omega) (f+1)) (by simp);simpa using this
  ·rw[ax h2];have a:=NV (show n/100<10 by omega) f;have b:=NZ (n:=n/10) (by omega) (by omega) (f+1) (by rw[show n/10/10=n/100 by omega];exact a) (by simp);have:=NZ (by omega) h (f+2) b (by simp);simpa using this
theorem aw0{n:Nat}(h:n<1000000000):M.D2 (n:Int)=some (dP.kb n):=by
 unfold M.D2;have e1:Go.IntKind.wrap .i64 (Int.tdiv (n:Int) 1000000)=((n/1000000:Nat):Int):=by rw[show Int.tdiv (n:Int) 1000000=((n/1000000:Nat):Int)from NW n 1000000,wrap_i64 (by omega) (by omega)]
 have e2:Int.tmod (Go.IntKind.wrap .i64 (Int.tdiv (n:Int) 1000)) 1000=((n/1000%1000:Nat):Int):=by
  rw[show Int.tdiv (n:Int) 1000=((n/1000:Nat):Int)from NW n 1000,wrap_i64 (by omega) (by omega)];exact NY (n/1000) 1000
 have e3:Int.tmod (n:Int) 1000=((n%1000:Nat):Int):=NY n 1000;have l1:=dP.pf (n:=n/1000000);have l2:=dP.pf (n:=n/1000%1000);have l3:=dP.pf (n:=n%1000);simp only[e1,e2,e3,N1 (show n/1000000<1000 by omega),N1 (show n/1000%1000<1000 by omega),N1 (show n%1000<1000 by omega),aZ,bf];rw[m9 (by simp;omega),m9 (by simp;omega),m9 (by simp;omega),m9 (by simp;omega)];unfold dP.kb;simp
structure agO (k n p d:Nat) (n':Int):Prop where
 fp:p<10^k
 fd:d<=k
 eq:d<=2->n'=(n:Int)
 d0:d=0->n=0
 d1:d=1->n<1001000000000000
 d2:d=2->n<2000000000000000000
theorem N2(s:List UInt8):∀(g k n p d:Nat)(n':Int),k<=min s.length 12->min s.length 12-k<g->agO k n p d n'->
 (dP.scan (n,p,d) ((s.take 12).drop k)=none/\M.oR s g n' (p:Int) (d:Int) (k:Int)=some (.inl (-1)))\/
 ∃(m q e:Nat)(m':Int),dP.scan (n,p,d) ((s.take 12).drop k)=some (m,q,e)/\M.oR s g n' (p:Int) (d:Int) (k:Int)=some (.inr (s,m',(q:Int),(e:Int)))/\agO (min s.length 12) m q e m'
 |0,k,n,p,d,n',h1,h2,_=>by omega
 |g+1,k,n,p,d,n',h1,h2,hI=>by
  rw[M.oR];have hlen:(s.take 12).length=min s.length 12:=by rw[iw,Nat.min_comm]
  rcases cJ k (min s.length 12)with hk|hk
  ·have hks:k<s.length:=by omega
   have hd:(s.take 12).drop k=s[k]::(s.take 12).drop (k+1):=by
    rw[eD (by rw[hlen];exact hk)];congr 1;rw[List.getElem_take]
   have aCY:p<1000000000000:=kd hI.fp (cN (Nat.pow_le_pow_right (by decide) (show k<=12 by omega)) (by decide));have c1:decide ((k:Int)<((s.length:Nat):Int))=true:=by rw[bu];omega
   have c2:decide ((k:Int)<12)=true:=by rw[bu];omega
   have c3:inB (k:Int) s.length=true:=by rw[bz];simpa using hks
   have hw:Go.IntKind.wrap .i64 ((k:Int)+1)=((k+1:Nat):Int):=by rw[wrap_i64 (by omega) (by omega)];omega
   rw[hd];simp only[c1,c2,c3,hw,bn,getD_lt hks,aS,bj,cC,aG];rw[dP.scan];by_cases h46:s[k]=46
   ·rw[aF h46];have:((((s[k]).toNat:Nat):Int)==46)=true:=by rw[h46];decide
    rw[this,aG];have hw2:Go.IntKind.wrap .i64 ((d:Int)+1)=((d+1:Nat):Int):=by have:=hI.fd;rw[wrap_i64 (by omega) (by omega)];omega
    rw[hw2];refine N2 s g (k+1) ((n+p)*1000) 0 (d+1) _ (by omega) (by omega) ⟨Nat.pow_pos (by decide),by have:=hI.fd;omega,fun hd2=>?_,fun h=>by omega,fun h=>?_,fun h=>?_⟩
    ·have hn:n<1001000000000000:=by
      rcases cJ d 1 with h|h
      ·rw[hI.d0 (by omega)];decide
      ·exact hI.d1 (by omega)
     rw[hI.eq (by omega),wrap_i64 (n:=(n:Int)+(p:Int)) (by omega) (by omega),wrap_i64 (by omega) (by omega)];omega
    ·rw[hI.d0 (by omega)];omega
    ·have:=hI.d1 (by omega);omega
   ·rw[ax h46];have hne:((((s[k]).toNat:Nat):Int)==46)=false:=by
     rw[eI];intro e;exact h46 (UInt8.toNat.inj (by have:(46:UInt8).toNat=46:=rfl;omega))
    rw[hne,bM];by_cases hdig:48<=s[k].toNat/\s[k].toNat<=57
    ·rw[aF hdig];have d1:decide ((((s[k]).toNat:Nat):Int)<48)=false:=by rw[ew];omega
     have d2:decide ((57:Int)<(((s[k]).toNat:Nat):Int))=false:=by rw[ew];omega
     have hu:Go.IntKind.wrap .u8 ((((s[k]).toNat:Nat):Int)-48)=((s[k].toNat-48:Nat):Int):=by
      have:∀m:Fin 58,48<=m.val->Go.IntKind.wrap .u8 (((m.val:Nat):Int)-48)=((m.val-48:Nat):Int):=by decide
      exact this ⟨s[k].toNat,by omega⟩ hdig.1
     have hw3:Go.IntKind.wrap .i64 (Go.IntKind.wrap .i64 ((10:Int)*(p:Int))+Go.IntKind.wrap .i64 (((s[k].toNat-48:Nat):Int)))=((10*p+(s[k].toNat-48):Nat):Int):=by
      rw[wrap_i64 (n:=(10:Int)*(p:Int)) (by omega) (by omega),wrap_i64 (n:=((s[k].toNat-48:Nat):Int)) (by omega) (by omega),wrap_i64 (by omega) (by omega)];omega
     simp only[d1,d2,mf,bM,hu,hw3];refine N2 s g (k+1) n (10*p+(s[k].toNat-48)) d n' (by omega) (by omega) ⟨?_,by have:=hI.fd;omega,hI.eq,hI.d0,hI.d1,hI.d2⟩;have:=hI.fp;rw[Nat.pow_succ];omega
    ·rw[ax hdig];have:(decide ((((s[k]).toNat:Nat):Int)<48)||decide ((57:Int)<(((s[k]).toNat:Nat):Int)))=true:=by
      rw[eM,bu,bu];omega
     rw[this];exact .inl ⟨rfl,rfl⟩
  ·have hk':k=min s.length 12:=by omega
   subst hk';have hd:(s.take 12).drop (min s.length 12)=[]:=by rw[<-hlen,gG]
   have:(decide (((min s.length 12:Nat):Int)<((s.length:Nat):Int))&&decide (((min s.length 12:Nat):Int)<12))=false:=by
    rw[Bool.and_eq_false_iff,ew,ew];omega
   rw[this,hd];exact .inr ⟨n,p,d,n',rfl,rfl,hI⟩
theorem Su(s:List UInt8):M.u0 s=some (ml s):=by
 have key:∃r:Int,M.D3 s=some r/\decide (0<=r)=(dP.wm s).isSome:=by
  unfold M.D3 dP.wm;have hl:=N2 s ae 0 0 0 0 0 (cU _) (by have:=bS;omega) ⟨by simp,cr _,fun _=>rfl,fun _=>rfl,fun h=>by omega,fun h=>by omega⟩;rw[fW]at hl;rcases hl with⟨e1,e2⟩|⟨m,q,e,m',e1,e2,hI⟩
  ·have e2':M.oR s ae 0 0 0 0=_:=e2;rw[e1,e2'];exact⟨-1,rfl,rfl⟩
  ·have e2':M.oR s ae 0 0 0 0=_:=e2;rw[e1,e2'];simp only;have hq:q<1000000000000:=kd hI.fp (cN (Nat.pow_le_pow_right (by decide) (show min s.length 12<=12 by omega)) (by decide));by_cases he:e=2
   ·subst he;have hm:=hI.d2 rfl;have hw:Go.IntKind.wrap .i64 (m'+(q:Int))=((m+q:Nat):Int):=by
     rw[hI.eq (by omega),wrap_i64 (by omega) (by omega)];omega
    rw[hw];by_cases hc:q<=999/\m+q<1000000000
    ·have c1:((((2:Nat):Int) !=2)||decide ((999:Int)<(q:Int)))=false:=by
      rw[yI,ew];exact⟨rfl,by omega⟩
     have c2:(decide ((0:Int)<=((m+q:Nat):Int))&&decide (((m+q:Nat):Int)<=999999999))=true:=by
      rw[bJ,bu,bu];omega
     rw[c1,c2,aw0 hc.2];by_cases ht:dP.kb (m+q)=s
     ·rw[aF ⟨rfl,hc.1,hc.2,ht⟩];refine⟨((m+q:Nat):Int),?_,by simp;omega⟩;simp[ht]
     ·rw[ax (fun h=>ht h.2.2.2)];refine⟨-1,?_,by simp⟩;have:(dP.kb (m+q)==s)=false:=by rw[eI];exact ht
      simp[this]
    ·rw[ax (fun h=>hc ⟨h.2.1,h.2.2.1⟩)];have c:(((((2:Nat):Int) !=2)||decide ((999:Int)<(q:Int)))|| !(decide ((0:Int)<=((m+q:Nat):Int))&&decide (((m+q:Nat):Int)<=999999999)))=true:=by
      rw[eM,eM,bu,fk,Bool.and_eq_false_iff,ew,ew];omega
     rw[c];exact⟨-1,by simp,by simp⟩
   ·rw[ax (fun h=>he h.1)];have c:((((e:Nat):Int) !=2))=true:=by rw[iu];omega
    rw[c];exact⟨-1,by simp,by simp⟩
 obtain⟨r,h1,h2⟩:=key;unfold M.u0 ml;rw[h1,dP.aw1];simp only[bf,aZ,aS,aG,h2]
end M
namespace M
open Go.V (inB cA ae bS)
mutual
def fX:aa->List (List UInt8)
 |.mk k n l kids=>(if te (.mk k n l kids)then[n]else[])++ja kids
def ja:List aa->List (List UInt8)
 |[]=>[]
 |x::r=>fX x++ja r
end
theorem N3(t:aa):fX t=(if te t then[t.Name]else[])++ja t.Kids:=by cases t;rfl
mutual
def yJ:aa->List (List UInt8)
 |.mk k n l kids=>(if n==[]then[]else[n])++qn kids
def qn:List aa->List (List UInt8)
 |[]=>[]
 |x::r=>yJ x++qn r
end
theorem agP(t:aa):yJ t=(if t.Name==[]then[]else[t.Name])++qn t.Kids:=by cases t;rfl
theorem N4:∀l:List aa,(∀x∈l,(fX x).length<=dV x)->(ja l).length<=dB l
 |[],_=>cr _
 |x::r,h=>by
  have:=h x (by simp);have:=N4 r fun y hy=>h y (by simp[hy])
  simp only[ja,dB,ek];omega
theorem agQ:∀(n:Nat)(t:aa),t.sz<n->(fX t).length<=dV t
 |0,t,h=>by omega
 |n+1,t,h=>by
  rw[N3,qo,ek];have:=N4 t.Kids fun x hx=>agQ n x (by have:=aa.iL hx;omega)
  split
  ·simp;omega
  ·simp;omega
theorem yK(t:aa):(fX t).length<=dV t:=agQ _ t (D7 _)
theorem agR:∀(n:Nat)(t:aa),t.sz<n->eN t=true->fX t=yJ t
 |0,t,h,_=>by omega
 |n+1,t,h,hs=>by
  rw[N3,agP];have hk:∀l:List aa,(∀x∈l,x∈t.Kids)->ja l=qn l:=by
   intro l
   induction l with
   |nil=>intro _;rfl
   |cons x r ih=>
    intro hl;have hx:=hl x (by simp);rw[yL,bJ,D8,ee]at hs;simp only[ja,qn];rw[ih fun y hy=>hl y (by simp[hy]),agR n x (by have:=aa.iL hx;omega) (hs.2 x hx)]
  rw[hk t.Kids fun _ h=>h];congr 1;rw[yL,bJ]at hs;have h1:=hs.1;unfold pg at h1;simp only[bJ]at h1;have h2:=h1.1.2;cases hn:te t
  ·rw[hn]at h2;simp only[gJ,gw]at h2⊢;rw[aF h2]
  ·rw[hn]at h2;simp only[pt]at h2⊢;have:(t.Name==[])=false:=by
    rw[eI];intro e;rw[e]at h2;revert h2;decide
   rw[this];rfl
theorem agS{t:aa}(h:eN t=true):fX t=yJ t:=agR _ t (D7 _) h
theorem N5:∀(m:Nat)(t:aa),t.sz<m->t.sz<=1048576->M.pV m t=some (fX t)
 |0,t,h,_=>by omega
 |m+1,t,h,hN=>by
  show M.FZ (M.pV m) t=_
  unfold M.FZ;have hl:=aa.ke hN;have hsum:=D9 (aa.yM hN);have hkl:∀k,k<=t.Kids.length->(ja (t.Kids.take k)).length<=dB t.Kids:=fun k hk=>
   cN (N4 _ fun x _=>yK x) (aw2 _ _)
  have key:∀f k (pre:List (List UInt8)),pre.length<=1->k<=t.Kids.length->t.Kids.length-k<f->M.pU (M.pV m) t.Kids (t.Kids.length:Int) f (k:Int) (pre++ja (t.Kids.take k))=some (pre++ja t.Kids):=by
   intro f
   induction f with
   |zero=>intro k pre _ h1 h2;omega
   |succ f ih=>
    intro k pre hp h1 h2;rw[M.pU];rcases cJ k t.Kids.length with hk|hk
    ·have hx:=aa.iL (bK hk);have hc:=N5 m t.Kids[k] (by omega) (by omega);have hlen:=hkl k h1;have hlx:(fX t.Kids[k]).length<=dB t.Kids:=cN (yK _) (N6 _ _ (bK hk));have hd:decide ((pre++ja (t.Kids.take k)).length+(fX t.Kids[k]).length<=1073741824)=true:=by rw[bu,ek];omega
     have ht:ja (t.Kids.take (k+1))=ja (t.Kids.take k)++fX t.Kids[k]:=by
      have app:∀(a b:List aa),ja (a++b)=ja a++ja b:=fun a b=>by
       induction a with
       |nil=>rfl
       |cons x r ih=>simp only[mM,ja,ih,mO]
      rw[kK,cw hk,app];simp[ja]
     simp only[aa.ai,getD_lt hk,hc,bn,bz,bU,hk,bD,aG,bj,aS,bE hk (cu hl),aZ,bf,hd];rw[mO,<-ht];exact ih (k+1) pre hp (by omega) (by omega)
    ·have:k=t.Kids.length:=by omega
     subst this;simp
  have e1:=key ae 0 [t.Name] (by simp) (cU _) (by have:=bS;omega);have e2:=key ae 0 [] (by simp) (cU _) (by have:=bS;omega);rw[List.take_zero]at e1 e2;have e1':M.pU (M.pV m) t.Kids (t.Kids.length:Int) ae 0 ([]++[t.Name])=_:=e1;have e2':M.pU (M.pV m) t.Kids (t.Kids.length:Int) ae 0 []=_:=e2;rw[e1',e2',N3];have hnb:((t.Kind==20)||(t.Kind==21))=te t:=rfl;rw[hnb];cases te t<;>simp
def kf(f:av):List (List UInt8):=fX f.Result++f.Params.flatMap fun p=>fX p.aI
theorem N7{t:aa}(h:gz t=true):dV t<=24:=by
 unfold gz at h;simp only[bJ,bu]at h;exact h.1.2
theorem agT{l:List al}(h:aB al.sz l<=1048576):∀k,((l.take k).flatMap fun p=>fX p.aI).length<=aB al.sz l+l.length:=fun k=>by
 have key:∀l:List al,(l.flatMap fun p=>fX p.aI).length<=aB al.sz l+l.length:=by
  intro l
  induction l with
  |nil=>simp
  |cons p r ih=>
   have h1:=yK p.aI;have h2:=Ea p.aI;have h3:=al.bL p;simp only[List.flatMap_cons,ek,aB,cD];omega
 have h1:=key (l.take k);have h2:aB al.sz (l.take k)<=aB al.sz l:=by
  have:∀(l:List al) k,aB al.sz (l.take k)<=aB al.sz l:=by
   intro l
   induction l with
   |nil=>intro k;simp
   |cons x r ih=>
    intro k;cases k with
    |zero=>simp[aB]
    |succ k=>simp only[List.take_succ_cons,aB];have:=ih k;omega
  exact this l k
 have h3:(l.take k).length<=l.length:=by simp;omega
 omega
theorem aw3(f:av)(h:f.sz<=1048576):M.AI f=some (kf f):=by
 rw[av.bL]at h;have hl:f.Params.length<=1048576:=cN (bW al.sz f.Params) (by omega);have hr:M.xM f.Result=some (fX f.Result):=N5 ae _ (jb (by omega)) (by omega);have hrl:(fX f.Result).length<=f.Result.sz+1:=cN (yK _) (Ea _);have key:∀g k,k<=f.Params.length->f.Params.length-k<g->M.uH f.Params (f.Params.length:Int) g (k:Int) (fX f.Result++(f.Params.take k).flatMap fun p=>fX p.aI)=some (kf f):=by
  intro g
  induction g with
  |zero=>intro k h1 h2;omega
  |succ g ih=>
   intro k h1 h2;rw[M.uH];rcases cJ k f.Params.length with hk|hk
   ·have hm:=da al.sz _ _ (bK hk);have hty:f.Params[k].aI.sz<=1048576:=al.tf (N:=1048576) (by omega);have hc:M.xM f.Params[k].aI=some (fX f.Params[k].aI):=N5 ae _ (jb hty) hty;have hb:=agT (l:=f.Params) (by omega) k;have hb2:(fX f.Params[k].aI).length<=1048577:=by have:=yK f.Params[k].aI;have:=Ea f.Params[k].aI;omega
    have hd:decide ((fX f.Result++(f.Params.take k).flatMap fun p=>fX p.aI).length+(fX f.Params[k].aI).length<=1073741824)=true:=by
     rw[bu,ek];omega
    simp only[aa.ai,getD_lt hk,hc,bn,bz,bU,hk,bD,aG,bj,aS,bE hk (cu hl),aZ,bf,hd];have:=ih (k+1) (by omega) (by omega);rw[kK,cw hk,List.flatMap_append]at this;simpa [mO]using this
   ·have:k=f.Params.length:=by omega
    subst this;rw[uk];have:decide (((f.Params.length:Nat):Int)<((f.Params.length:Nat):Int))=false:=by simp
    rw[this];rfl
 have e:=key ae 0 (cU _) (by have:=bS;omega);unfold M.AI;have e':M.uH f.Params (f.Params.length:Int) ae 0 (fX f.Result)=some (kf f):=by simpa using e
 simp only[aa.ai,hr,aZ,e',bf,aS,aG]
end M
namespace M
open Go.V (inB cA ae bS)
theorem aw4(l:List (List UInt8))(s:List UInt8)(hl:l.length<=16777216):∃out,M.D5 l s=some out/\(∀x,x∈out↔x∈l\/x=s)/\out.length<=l.length+1:=by
 have key:∀g k (done:Bool) (out:List (List UInt8)),k<=l.length->l.length-k<g->(∀x,x∈out↔x∈l.take k\/(done=true/\x=s))->out.length<=k+1->(done=false->out.length<=k)->
  ∃done' out',M.ta l s g done (k:Int) out=some (s,done',out')/\(∀x,x∈out'↔x∈l\/(done'=true/\x=s))/\out'.length<=l.length+1/\(done'=false->out'.length<=l.length):=by
  intro g
  induction g with
  |zero=>intro k done out h1 h2;omega
  |succ g ih=>
   intro k done out h1 h2 hm hlen hlen2;rw[M.ta];rcases cJ k l.length with hk|hk
   ·have ht:∀x,x∈l.take (k+1)↔x∈l.take k\/x=l[k]:=fun x=>by
     rw[kK,cw hk,dy];simp
    have d2:decide (out.length+([l[k]]:List (List UInt8)).length<=1073741824)=true:=by rw[bu];simp;omega
    have d3:decide (out.length+([s]:List (List UInt8)).length<=1073741824)=true:=by rw[bu];simp;omega
    have d4:decide ((out++[s]).length+([l[k]]:List (List UInt8)).length<=1073741824)=true:=by rw[bu];simp;omega
    simp only[getD_lt hk,bn,bz,bU,hk,bD,aG,bj,aS,cC,bE hk (by omega:l.length<2^62),d2,d3,d4];have hq:∀b:Bool,(((decide True&&true|| !b)&&(decide True&&true||b)))=true:=fun b=>by cases b<;>rfl
    by_cases he:l[k]=s
    ·have hb:(l[k]==s)=true:=by rw[he];exact js s
     simp only[hb,cC,dE,rf,bM,aS,bj,pO,aG];refine ih (k+1) true _ (by omega) (by omega) (fun x=>?_) (by simp;omega) (fun h=>by cases h);rw[dy,hm,ht];simp only[yN,wk];constructor
     ·rintro ((h|⟨-,h⟩)|h)
      ·exact .inl (.inl h)
      ·exact .inr h
      ·exact .inl (.inr h)
     ·rintro ((h|h)|h)
      ·exact .inl (.inl h)
      ·exact .inr h
      ·exact .inr (by rw[h,he])
    ·have hb:(l[k]==s)=false:=by rw[eI];exact he
     simp only[hb,gm,mf,mg,pO,aS,bj,aG];cases done
     ·simp only[mg,bj];cases hlt:Go.V.dF l[k] s
      ·simp only[mg,aG];refine ih (k+1) true _ (by omega) (by omega) (fun x=>?_) (by simp;have:=hlen2 rfl;omega) (fun h=>by cases h);rw[dy,dy,hm,ht];simp only[yN,wk,gJ,false_and,Eb];constructor
       ·rintro ((h|h)|h)
        ·exact .inl (.inl h)
        ·exact .inr h
        ·exact .inl (.inr h)
       ·rintro ((h|h)|h)
        ·exact .inl (.inl h)
        ·exact .inr h
        ·exact .inl (.inr h)
      ·simp only[dE,bM];refine ih (k+1) false _ (by omega) (by omega) (fun x=>?_) (by simp;have:=hlen2 rfl;omega) (fun h=>by simp;have:=hlen2 rfl;omega);rw[dy,hm,ht];simp
     ·simp only[dE,rf,bM];refine ih (k+1) true _ (by omega) (by omega) (fun x=>?_) (by simp;omega) (fun h=>by cases h);rw[dy,hm,ht];simp only[yN,wk];constructor
      ·rintro ((h|h)|h)
       ·exact .inl (.inl h)
       ·exact .inr h
       ·exact .inl (.inr h)
      ·rintro ((h|h)|h)
       ·exact .inl (.inl h)
       ·exact .inr h
       ·exact .inl (.inr h)
   ·have:k=l.length:=by omega
    subst this;have:decide (((l.length:Nat):Int)<((l.length:Nat):Int))=false:=by simp
    rw[this];exact⟨done,out,rfl,by simpa using hm,hlen,hlen2⟩
 obtain⟨done,out,e,h1,h2,h3⟩:=key ae 0 false [] (cU _) (by have:=bS;omega) (by simp) (by simp) (by simp);have e':M.ta l s ae false 0 []=_:=e;unfold M.D5;rw[e'];cases done
 ·have hd:decide (out.length+([s]:List (List UInt8)).length<=1073741824)=true:=by rw[bu];have:=h3 rfl;simp;omega
  simp only[mg,aG,hd,aS];refine⟨out++[s],rfl,fun x=>?_,by simp;exact h3 rfl⟩;rw[dy,h1];simp
 ·simp only[dE,bM];exact⟨out,rfl,fun x=>by rw[h1];simp,h2⟩
theorem aw5{l:List aa}{k:Nat}(h:k<l.length):qn (l.drop k)=yJ l[k]++qn (l.drop (k+1)):=by rw[eD h];rfl
theorem N8:∀(m:Nat)(t:aa)(out:List (List UInt8)),t.sz<m->t.sz<=1048576->out.length+dV t<=8388608->
 ∃out',M.qm m t out=some out'/\(∀x,x∈out'↔x∈out\/x∈yJ t)/\out'.length<=out.length+dV t
 |0,t,out,h,_,_=>by omega
 |m+1,t,out,h,hN,ho=>by
  show ∃out',M.JL (M.qm m) t out=_/\_
  unfold M.JL;have hl:=aa.ke hN;rw[qo]at ho⊢;have key:∀f k (o:List (List UInt8)),k<=t.Kids.length->t.Kids.length-k<f->o.length+dB (t.Kids.drop k)<=8388608->
   ∃out',M.ql (M.qm m) f o (k:Int) t=some out'/\(∀x,x∈out'↔x∈o\/x∈qn (t.Kids.drop k))/\out'.length<=o.length+dB (t.Kids.drop k):=by
   intro f
   induction f with
   |zero=>intro k o h1 h2;omega
   |succ f ih=>
    intro k o h1 h2 h3;rw[M.ql];rcases cJ k t.Kids.length with hk|hk
    ·have hx:=aa.iL (bK hk);rw[wo hk]at h3⊢;obtain⟨o1,e1,g1,g2⟩:=N8 m t.Kids[k] o (by omega) (by omega) (by omega);simp only[aa.ai,getD_lt hk,e1,bn,bz,bU,hk,bD,aG,bj,aS,bE hk (cu hl),aZ,bf];obtain⟨o2,e2,g3,g4⟩:=ih (k+1) o1 (by omega) (by omega) (by omega);refine⟨o2,e2,fun x=>?_,by omega⟩;rw[g3,g1,aw5 hk,dy];constructor
     ·rintro ((h|h)|h)
      ·exact .inl h
      ·exact .inr (.inl h)
      ·exact .inr (.inr h)
     ·rintro (h|h|h)
      ·exact .inl (.inl h)
      ·exact .inl (.inr h)
      ·exact .inr h
    ·have:k=t.Kids.length:=by omega
     subst this;have:decide (((t.Kids.length:Nat):Int)<((t.Kids.length:Nat):Int))=false:=by simp
     rw[this,gG];exact⟨o,rfl,fun x=>by simp[qn],by simp[dB]⟩
  rw[aa.ai];have hnm:=agP t;cases hn:t.Name==[]
  ·simp only[mg,aG];obtain⟨o1,e1,g1,g2⟩:=aw4 out t.Name (by omega);rw[e1];simp only[aZ,bf,aS,aG];obtain⟨o2,e2,g3,g4⟩:=key ae 0 o1 (cU _) (by have:=bS;omega) (by rw[fW];omega);rw[fW]at g3 g4;have e2':M.ql (M.qm m) ae o1 0 t=_:=e2;rw[e2'];refine⟨o2,rfl,fun x=>?_,by omega⟩;rw[g3,g1,hnm,hn];simp only[gJ,gw,dy,yN];constructor
   ·rintro ((h|h)|h)
    ·exact .inl h
    ·exact .inr (.inl h)
    ·exact .inr (.inr h)
   ·rintro (h|h|h)
    ·exact .inl (.inl h)
    ·exact .inl (.inr h)
    ·exact .inr h
  ·simp only[dE,bM];obtain⟨o2,e2,g3,g4⟩:=key ae 0 out (cU _) (by have:=bS;omega) (by rw[fW];omega);rw[fW]at g3 g4;have e2':M.ql (M.qm m) ae out 0 t=_:=e2;rw[e2'];refine⟨o2,rfl,fun x=>?_,by omega⟩;rw[g3,hnm,hn];simp
theorem aw6(f:av)(l:List (List UInt8))(h:f.sz<=1048576)(hl:l.length<=1048576)(hok:jq f=true):M.D6 f l=some ((kf f).all fun x=>l.any fun y=>x==y):=by
 rw[av.bL]at h;have hpl:f.Params.length<=1048576:=cN (bW al.sz f.Params) (by omega);have hps:∀p∈f.Params,gz p.aI=true:=fun p hp=>by
  unfold jq at hok;simp only[bJ,ee]at hok;have:=hok.1.1.2.1 p hp;unfold lL at this;simp only[fk,yI,Bool.not_eq_false']at this;exact this.1.2
 have hres:gz f.Result=true:=by
  unfold jq at hok;simp only[bJ]at hok;exact hok.1.2
 have hp6:f.Params.length<=6:=by
  unfold jq at hok;simp only[bJ,bu]at hok;exact hok.1.1.1
 have shp:∀{t:aa},gz t=true->eN t=true:=fun{t} h=>by unfold gz at h;simp only[bJ]at h;exact h.2
 obtain⟨o0,e0,g0,k0⟩:=N8 ae f.Result [] (jb (by omega)) (by omega) (by have:=N7 hres;simp;omega);have e0':M.yH f.Result []=some o0:=e0;have aw7:∀g k (o:List (List UInt8)),k<=f.Params.length->f.Params.length-k<g->o.length+24*(f.Params.length-k)<=1000->
  ∃o',M.wh l g o (k:Int) f=some (l,o')/\(∀x,x∈o'↔x∈o\/x∈(f.Params.drop k).flatMap fun p=>fX p.aI)/\o'.length<=1000:=by
  intro g
  induction g with
  |zero=>intro k o h1 h2;omega
  |succ g ih=>
   intro k o h1 h2 h3;rw[M.wh];rcases cJ k f.Params.length with hk|hk
   ·have hm:=da al.sz _ _ (bK hk);have hty:f.Params[k].aI.sz<=1048576:=al.tf (N:=1048576) (by omega);have ht:=hps _ (bK hk);have gK:=N7 ht;obtain⟨o1,e1,g1,g2⟩:=N8 ae f.Params[k].aI o (jb hty) hty (by omega);have e1':M.yH f.Params[k].aI o=some o1:=e1;simp only[aa.ai,av.ai,getD_lt hk,e1',bn,bz,bU,hk,bD,aG,bj,aS,bE hk (cu hpl),aZ,bf];obtain⟨o2,e2,g3,g4⟩:=ih (k+1) o1 (by omega) (by omega) (by omega);refine⟨o2,e2,fun x=>?_,g4⟩;rw[g3,g1,eD hk,List.flatMap_cons,dy,agS (shp ht)];constructor
    ·rintro ((h|h)|h)
     ·exact .inl h
     ·exact .inr (.inl h)
     ·exact .inr (.inr h)
    ·rintro (h|h|h)
     ·exact .inl (.inl h)
     ·exact .inl (.inr h)
     ·exact .inr h
   ·have:k=f.Params.length:=by omega
    subst this;have:decide (((f.Params.length:Nat):Int)<((f.Params.length:Nat):Int))=false:=by simp
    rw[this,gG];exact⟨o,rfl,fun x=>by simp,by omega⟩
 obtain⟨all,ea,ga,la⟩:=aw7 ae 0 o0 (cU _) (by have:=bS;omega) (by have:=N7 hres;simp at k0;omega);have ea':M.wh l ae o0 0 f=some (l,all):=ea;have hmem:∀x,x∈all↔x∈kf f:=fun x=>by
  rw[ga,g0,fW];unfold kf;rw[dy,agS (shp hres)];simp
 have inner:∀i (hi:i<all.length),M.wi l all (i:Int) ae false 0=some (l,all,(i:Int),l.any fun y=>all[i]==y):=fun i hi=>by
  have k1:∀g k (met:Bool),k<=l.length->l.length-k<g->M.wi l all (i:Int) g met (k:Int)=some (l,all,(i:Int),met||(l.drop k).any fun y=>all[i]==y):=by
   intro g
   induction g with
   |zero=>intro k met h1 h2;omega
   |succ g ih=>
    intro k met h1 h2;rw[M.wi];rcases cJ k l.length with hk|hk
    ·simp only[getD_lt hk,getD_lt hi,bn,bz,bU,hk,hi,bD,aG,cC,bj,aS,bE hk (cu hl)];rw[ih (k+1) _ (by omega) (by omega),Sl _ hk,<-Bool.or_assoc];have:(l[k]==all[i])=(all[i]==l[k]):=by rw[gj,dx,dx];exact eq_comm
     rw[this]
    ·have:k=l.length:=by omega
     subst this;have:decide (((l.length:Nat):Int)<((l.length:Nat):Int))=false:=by simp
     rw[this,gG];simp
  have:=k1 ae 0 false (cU _) (by have:=bS;omega);simpa using this
 have outer:M.oY ae l all 0=some (if all.all (fun x=>l.any fun y=>x==y)then .inr ()else .inl false):=
  mP (p:=fun x=>l.any fun y=>x==y) (F:=fun g k=>M.oY g l all k) (e:=()) (b:=false) all (by omega) (fun g k hk=>by
   show M.oY (g+1) l all (k:Int)=_
   rw[M.oY];have hin:=inner k hk;simp only[hin,bU,hk,bD,aG,bE hk (by omega:all.length<2^62)];cases (l.any fun y=>all[k]==y)<;>rfl) (fun g=>by
   show M.oY (g+1) l all (all.length:Int)=_
   rw[M.oY];simp)
 unfold M.D6;simp only[aa.ai,av.ai,e0',aZ,ea',outer,bf,aS,aG];have hall:all.all (fun x=>l.any fun y=>x==y)=(kf f).all fun x=>l.any fun y=>x==y:=by
  rw[gj,ee,ee];exact⟨fun h x hx=>h x ((hmem x).2 hx),fun h x hx=>h x ((hmem x).1 hx)⟩
 rw[hall];cases (kf f).all fun x=>l.any fun y=>x==y<;>simp
end M
namespace M
open Go.V (inB cA ae bS)
def jc(l:List (List UInt8)):Bool:=(List.range l.length).all fun k=>(k==0)||Go.V.dF (l.getD (k-1) []) (l.getD k [])
theorem N9(l:List (List UInt8))(h:l.length<=1048576):M.rB l=some (jc l):=by
 have key:∀g k,1<=k->k<=l.length->l.length-k<g->M.rA l g (k:Int)=some (if(List.range' k (l.length-k)).all (fun k=>Go.V.dF (l.getD (k-1) []) (l.getD k []))then .inr ()else .inl false):=by
  intro g
  induction g with
  |zero=>intro k h0 h1 h2;omega
  |succ g ih=>
   intro k h0 h1 h2;rw[M.rA];rcases cJ k l.length with hk|hk
   ·have hk1:k-1<l.length:=by omega
    have hr:List.range' k (l.length-k)=k::List.range' (k+1) (l.length-(k+1)):=by
     rw[show l.length-k=(l.length-(k+1))+1 by omega];rfl
    rw[hr,kD];simp only[tg h0 (ti hk) (cu h),bn,bz,bU,hk,hk1,bD,aG,aS,bE hk (cu h),ih (k+1) (by omega) (by omega) (by omega)];cases Go.V.dF (l.getD (k-1) []) (l.getD k [])<;>rfl
   ·have:k=l.length:=by omega
    subst this;have:decide (((l.length:Nat):Int)<((l.length:Nat):Int))=false:=by simp
    rw[this,nQ];rfl
 unfold M.rB jc;rcases kg l.length with h0|h0
 ·have:l=[]:=mq h0;subst this;obtain⟨f,hf⟩:∃f,ae=f+1:=⟨ae-1,by have:=bS;omega⟩;rw[hf,M.rA];rfl
 ·have e:=key ae 1 (cr _) h0 (by have:=bS;omega);have e':M.rA l ae 1=_:=e;rw[e'];have hr:List.range l.length=0::List.range' 1 (l.length-1):=by
   rw[List.range_eq_range',show l.length=(l.length-1)+1 by omega];rfl
  have hc:(List.range' 1 (l.length-1)).all (fun k=>(k==0)||Go.V.dF (l.getD (k-1) []) (l.getD k []))=(List.range' 1 (l.length-1)).all (fun k=>Go.V.dF (l.getD (k-1) []) (l.getD k [])):=by
   rw[gj,ee,ee];have hp:∀k∈List.range' 1 (l.length-1),(k==0)=false:=fun k hk=>by
    rw[List.mem_range']at hk;obtain⟨i,_,rfl⟩:=hk;rw[eI];omega
   exact⟨fun h k hk=>by have:=h k hk;rwa [hp k hk,gm]at this,fun h k hk=>by rw[hp k hk,gm];exact h k hk⟩
  rw[hr,kD,hc];simp only[js,cC,bj];cases (List.range' 1 (l.length-1)).all (fun k=>Go.V.dF (l.getD (k-1) []) (l.getD k []))<;>simp
def nU(R:List (List UInt8))(x:aD):Bool:=(dn x.Name&&jq x.aI)&&(kf x.aI).all fun n=>R.any fun y=>n==y
def nS(f:ar):Bool:=
 (((dn f.du&&dn f.Name)&&ml f.Version)&&(decide (f.bQ.length<=4)&&decide (f.Funcs.length<=8)))&&
   ((jc f.bQ&&f.bQ.all dn)&&(f.Funcs.all (nU f.bQ)&&jc (f.Funcs.map aD.Name)))
theorem FB(n m:Nat):decide (((m:Nat):Int)<((n:Nat):Int))= !decide (n<=m):=by
 rw[gj];simp only[fk,bu,ew];omega
theorem gt4(n:Nat):decide ((4:Int)<((n:Nat):Int))= !decide (n<=4):=FB n 4
theorem gt8(n:Nat):decide ((8:Int)<((n:Nat):Int))= !decide (n<=8):=FB n 8
theorem aw9{l:List aD}(k:Nat):(l.map aD.Name).getD k []=(l.getD k aD.zero).Name:=by
 rw[dK,dK,gn];cases l[k]?<;>rfl
theorem axa(f:ar)(h:f.sz<=1048576):M.Au f=some (nS f):=by
 rw[ar.bL]at h;have hrl:f.bQ.length<=1048576:=cN (bW List.length f.bQ) (by omega);have hfl:f.Funcs.length<=1048576:=cN (bW aD.sz f.Funcs) (by omega);have hn1:=rq f.du (by omega);have hn2:=rq f.Name (by omega);have hv:=Su f.Version;have l0:M.oU f ae 0=some (if(List.range f.bQ.length).all (fun i=>dn (f.bQ.getD i [])&&((i==0)||Go.V.dF (f.bQ.getD (i-1) []) (f.bQ.getD i [])))then .inr f else .inl false):=
  lB (p:=fun i=>dn (f.bQ.getD i [])&&((i==0)||Go.V.dF (f.bQ.getD (i-1) []) (f.bQ.getD i []))) (F:=fun g k=>M.oU f g k) (e:=f) (b:=false) f.bQ.length (by omega) (fun g k hk=>by
   show M.oU f (g+1) (k:Int)=_
   rw[M.oU];have hnm:=rq (f.bQ.getD k []) (by rw[getD_lt hk];have:=da List.length _ _ (bK hk);omega);rcases kg k with h0|h0
   ·subst h0;simp only[hnm,bn,bz,bU,hk,bD,aG,bj,aS,bE hk (cu hrl),aZ,bf,cC];cases dn (f.bQ.getD 0 [])<;>simp
   ·have hk1:k-1<f.bQ.length:=by omega
    have hp:decide ((0:Int)<(k:Int))=true:=by rw[bu];omega
    have hz:(k==0)=false:=by rw[eI];omega
    simp only[hnm,tg h0 (ti hk) (cu hrl),hp,hz,bn,bz,bU,hk,hk1,bD,aG,bj,aS,bE hk (cu hrl),aZ,bf,cC,gm];cases dn (f.bQ.getD k [])<;>cases Go.V.dF (f.bQ.getD (k-1) []) (f.bQ.getD k [])<;>rfl) (fun g=>by
   show M.oU f (g+1) (f.bQ.length:Int)=_
   rw[M.oU];simp)
 have l1:M.oZ f ae 0=some (if(List.range f.Funcs.length).all (fun i=>nU f.bQ (f.Funcs.getD i aD.zero)&&((i==0)||Go.V.dF (f.Funcs.getD (i-1) aD.zero).Name (f.Funcs.getD i aD.zero).Name))then .inr ()else .inl false):=
  lB (p:=fun i=>nU f.bQ (f.Funcs.getD i aD.zero)&&((i==0)||Go.V.dF (f.Funcs.getD (i-1) aD.zero).Name (f.Funcs.getD i aD.zero).Name)) (F:=fun g k=>M.oZ f g k) (e:=()) (b:=false) f.Funcs.length (by omega) (fun g k hk=>by
   show M.oZ f (g+1) (k:Int)=_
   rw[M.oZ];have hm:=da aD.sz _ _ (bK hk);have hsz:=aD.bL f.Funcs[k];have hnm:=rq f.Funcs[k].Name (by omega);have hfn:=axb f.Funcs[k].aI (by omega);have hkn:=aw6 f.Funcs[k].aI f.bQ (by omega) hrl;have fin:∀(r:Bool),((k==0)||Go.V.dF (f.Funcs.getD (k-1) aD.zero).Name (f.Funcs.getD k aD.zero).Name)=r->(decide ((0:Int)<(k:Int))&& !Go.V.dF (f.Funcs.getD (Int.toNat (Go.IntKind.wrap .i64 ((k:Int)-1))) aD.zero).Name (f.Funcs[k]).Name)= !r/\
    (inB (Go.IntKind.wrap .i64 ((k:Int)-1)) f.Funcs.length|| !(decide ((0:Int)<(k:Int))))=true:=fun r hr=>by
    rcases kg k with h0|h0
    ·subst h0;simp at hr⊢;exact hr.symm ▸ rfl
    ·have hk1:k-1<f.Funcs.length:=by omega
     have hp:decide ((0:Int)<(k:Int))=true:=by rw[bu];omega
     have hz:(k==0)=false:=by rw[eI];omega
     rw[tg h0 (ti hk) (cu hfl),hp,bn,bz];rw[hz,gm,getD_lt hk]at hr;rw[hr];simp[hk1]
   generalize hr:((k==0)||Go.V.dF (f.Funcs.getD (k-1) aD.zero).Name (f.Funcs.getD k aD.zero).Name)=r;obtain⟨f1,f2⟩:=fin r hr;simp only[av.ai,getD_lt hk,hnm,hfn,f1,bn,bz,bU,hk,bD,aG,bj,aS,bE hk (cu hfl),aZ,bf,cC];have hin:∀b:Bool,(inB (Go.IntKind.wrap .i64 ((k:Int)-1)) f.Funcs.length||(!(b&&(decide ((0:Int)<(k:Int))==true))))=true:=fun b=>by
    cases b
    ·simp
    ·revert f2
     cases inB (Go.IntKind.wrap .i64 ((k:Int)-1)) f.Funcs.length<;>cases decide ((0:Int)<(k:Int))<;>simp
   simp only[hin,aS,bj];unfold nU;cases hN:dn f.Funcs[k].Name
   ·simp
   ·cases r
    ·simp
    ·cases hF:jq f.Funcs[k].aI
     ·simp
     ·rw[hkn hF];cases ((kf f.Funcs[k].aI).all fun n=>f.bQ.any fun y=>n==y)<;>simp) (fun g=>by
   show M.oZ f (g+1) (f.Funcs.length:Int)=_
   rw[M.oZ];simp)
 rw[Ec,Ed dn f.bQ []]at l0;rw[Ec,Ed (nU f.bQ) f.Funcs aD.zero]at l1;have hr1:(List.range f.bQ.length).all (fun i=>(i==0)||Go.V.dF (f.bQ.getD (i-1) []) (f.bQ.getD i []))=jc f.bQ:=rfl;have hr2:(List.range f.Funcs.length).all (fun i=>(i==0)||Go.V.dF (f.Funcs.getD (i-1) aD.zero).Name (f.Funcs.getD i aD.zero).Name)=jc (f.Funcs.map aD.Name):=by
  unfold jc;simp only[dY,aw9]
 rw[hr1]at l0;rw[hr2]at l1;unfold M.Au nS;simp only[hn1,hn2,hv,l0,gt4,gt8,aZ,bf,cC,aS,bj,aG];cases dn f.du<;>cases dn f.Name<;>cases ml f.Version<;>cases decide (f.bQ.length<=4)<;>cases decide (f.Funcs.length<=8)<;>try rfl
 cases f.bQ.all dn<;>cases jc f.bQ<;>try rfl
 simp only[dE,wq,bM,db,pt,l1];cases f.Funcs.all (nU f.bQ)<;>cases jc (f.Funcs.map aD.Name)<;>rfl
theorem LL(l:List (List UInt8))(v:List UInt8)(hl:l.length<=1048576):M.rk l v=some (l.any fun y=>v==y):=by
 have e:=ft (p:=fun y=>v==y) (F:=M.uI l v (l.length:Int)) (e:=()) (fun k=>k) l (by omega) (fun g k hk=>by
  rw[M.uI];simp only[getD_lt hk,bn,bz,bU,hk,bD,aG,aS,bE hk (by omega:l.length<2^62)]
  ) (fun g=>by rw[M.uI];simp)
 unfold M.rk M.F5;rw[e,jH];cases l.findIdx? (fun y=>v==y)<;>simp
theorem axc(f:ar)(h:f.sz<=1048576):M.AM f=some (nS f):=by
 rw[ar.bL]at h;have hrl:f.bQ.length<=1048576:=cN (bW List.length f.bQ) (by omega);have hfl:f.Funcs.length<=1048576:=cN (bW aD.sz f.Funcs) (by omega);have hn1:=ru f.du (by omega);have hn2:=ru f.Name (by omega);have hv:=Sz f.Version (by omega);have Ee:=N9 f.bQ hrl;have hc2:M.AD f.bQ=some (f.bQ.any fun s=> !dn s):=by
  have e:=ft (p:=fun s=> !dn s) (F:=M.uF f.bQ (f.bQ.length:Int)) (e:=()) (fun k=>k) f.bQ (by omega) (fun g k hk=>by
   rw[M.uF];have hn:f.bQ[k].length<=1048576:=by have:=da List.length _ _ (bK hk);omega
   have hc:M.AB f.bQ[k]=some (!dn f.bQ[k]):=by unfold M.AB;rw[ru _ hn];rfl
   simp only[getD_lt hk,hc,bn,bz,bU,hk,bD,aG,bj,aS,bE hk (by omega:f.bQ.length<2^62),aZ,bf]) (fun g=>by rw[M.uF];simp)
  unfold M.AD M.FP;rw[e,jH];cases f.bQ.findIdx? (fun s=> !dn s)<;>simp
 have hc3:∀l:List (List UInt8),l.length<=8388608->M.AL l f=some (l.any fun n=> !(f.bQ.any fun y=>n==y)):=fun l hl=>by
  have e:=ft (p:=fun n=> !(f.bQ.any fun y=>n==y)) (F:=M.uJ l f (l.length:Int)) (e:=()) (fun k=>k) l (by omega) (fun g k hk=>by
   rw[M.uJ];have hc:M.AK l[k] f=some (!(f.bQ.any fun y=>l[k]==y)):=by unfold M.AK;rw[LL _ _ hrl];rfl
   simp only[getD_lt hk,hc,bn,bz,bU,hk,bD,aG,bj,aS,bE hk (by omega:l.length<2^62),aZ,bf]) (fun g=>by rw[M.uJ];simp)
  unfold M.AL M.F7;rw[e,jH];cases l.findIdx? (fun n=> !(f.bQ.any fun y=>n==y))<;>simp
 have hres:∀k (hk:k<f.Funcs.length),(kf f.Funcs[k].aI).length<=8388608:=fun k hk=>by
  have hm:=da aD.sz _ _ (bK hk);have hsz:=aD.bL f.Funcs[k];have hsz2:=av.bL f.Funcs[k].aI;unfold kf;rw[ek];have h1:=yK f.Funcs[k].aI.Result;have h2:=Ea f.Funcs[k].aI.Result;have h3:=agT (l:=f.Funcs[k].aI.Params) (by omega) f.Funcs[k].aI.Params.length;rw[uk]at h3;have h4:=bW al.sz f.Funcs[k].aI.Params;omega
 have key:∀g k,k<=f.Funcs.length->f.Funcs.length-k<g->M.rG f.Funcs (f.Funcs.length:Int) f g (k:Int) ((f.Funcs.take k).map aD.Name)=some (if(f.Funcs.drop k).all (nU f.bQ)then .inr (f.Funcs.map aD.Name)else .inl false):=by
  intro g
  induction g with
  |zero=>intro k h1 h2;omega
  |succ g ih=>
   intro k h1 h2;rcases cJ k f.Funcs.length with hk|hk
   ·rw[M.rG];have hm:=da aD.sz _ _ (bK hk);have hsz:=aD.bL f.Funcs[k];have hnm:=ru f.Funcs[k].Name (by omega);have hfn:=axd f.Funcs[k].aI (by omega);have hfr:=aw3 f.Funcs[k].aI (by omega);have hcc:=hc3 _ (hres k hk);have hd:decide ((((f.Funcs.take k).map aD.Name).length+([f.Funcs[k].Name]:List (List UInt8)).length)<=1073741824)=true:=by
     simp only[bu,dY,iw,cD,dj];omega
    have ht:(f.Funcs.take k).map aD.Name++[f.Funcs[k].Name]=(f.Funcs.take (k+1)).map aD.Name:=by
     rw[kK,pP,cw hk];rfl
    simp only[av.ai,getD_lt hk,hnm,hfn,hfr,hcc,bn,bz,bU,hk,bD,aG,bj,aS,bE hk (cu hfl),aZ,bf,cC,hd,ht];rw[ih (k+1) (by omega) (by omega),Oa _ hk];unfold nU;have hna:((kf f.Funcs[k].aI).any fun n=> !(f.bQ.any fun y=>n==y))= !((kf f.Funcs[k].aI).all fun n=>f.bQ.any fun y=>n==y):=by rw[wu]
    rw[hna];cases dn f.Funcs[k].Name<;>cases jq f.Funcs[k].aI<;>cases ((kf f.Funcs[k].aI).all fun n=>f.bQ.any fun y=>n==y)<;>simp
   ·have:k=f.Funcs.length:=by omega
    subst this;rw[M.rG];simp
 have e:=key ae 0 (cU _) (by have:=bS;omega);have e':M.rG f.Funcs (f.Funcs.length:Int) f ae 0 []=_:=e;rw[fW]at e';have axe:=N9 (f.Funcs.map aD.Name) (by rw[dY];exact hfl);have hna:(f.bQ.any fun s=> !dn s)= !f.bQ.all dn:=by rw[wu]
 unfold M.AM nS;simp only[hn1,hn2,hv,Ee,hc2,hna,e',gt4,gt8,aZ,bf,cC,aS,bj,aG];cases dn f.du<;>cases dn f.Name<;>cases ml f.Version<;>cases decide (f.bQ.length<=4)<;>cases decide (f.Funcs.length<=8)<;>try rfl
 cases f.bQ.all dn<;>cases jc f.bQ<;>try rfl
 simp only[dE,wq,bM,db,bj];cases f.Funcs.all (nU f.bQ)
 ·rfl
 ·simp only[pt,axe,aZ,bf,aG,bj]
theorem LJ(f:ar)(h:f.sz<=1048576):M.mi f=some ((f.du++[47])++f.Name):=by
 rw[ar.bL]at h;unfold M.mi;rw[m9 (by simp;omega),m9 (by simp;omega)];rfl
theorem Ac(f:ar)(h:f.sz<=1048576):M.jr f=some ((f.du++[47])++f.Name):=by
 rw[ar.bL]at h;unfold M.jr;rw[m9 (by simp;omega),m9 (by simp;omega)];rfl
end M
namespace M
open Go.V (inB cA ae bS)
def jd(t:aa):Bool:=gP (fun k=>(k==22)||(k==23)) t
def jv(f:av):Bool:= !f.Async&& !(f.Params.any (fun p=>jd p.aI)||jd f.Result)
theorem agX(t:aa)(h:t.sz<=1048576):M.jC t 22 23=some (jd t):=by
 rw[show M.jC=M.lK ae from rfl,JO 22 23 ae _ (jb h) h];congr 1;exact congrFun (yO fun k=>by
  rw[gj];simp only[bJ,bu,eM,dx];omega) t
theorem axf(t:aa)(h:t.sz<=1048576):M.j0 t [22,23]=some (jd t):=by
 rw[show M.j0=M.mn ae from rfl,JP [22,23] (by simp) ae _ (jb h) h];congr 1;exact congrFun (yO fun k=>by simp) t
theorem axg(f:av)(h:f.sz<=1048576):M.Ax f=some (jv f):=by
 rw[av.bL]at h;have hl:f.Params.length<=1048576:=cN (bW al.sz f.Params) (by omega);have e:M.om ae 0 f=some (if f.Params.all (fun p=> !jd p.aI)then .inr ()else .inl false):=
  mP (p:=fun p=> !jd p.aI) (F:=fun g k=>M.om g k f) (e:=()) (b:=false) f.Params (by omega) (fun g k hk=>by
   show M.om (g+1) (k:Int) f=_
   rw[M.om];have hm:=da al.sz _ _ (bK hk);have ht:=agX f.Params[k].aI (al.tf (N:=1048576) (by omega));simp only[aa.ai,av.ai,getD_lt hk,ht,bn,bz,bU,hk,bD,aG,bj,aS,bE hk (cu hl),aZ,bf];cases jd f.Params[k].aI<;>rfl) (fun g=>by
   show M.om (g+1) (f.Params.length:Int) f=_
   rw[M.om];simp)
 have hr:=agX f.Result (by omega);unfold M.Ax jv;simp only[aa.ai,av.ai,hr,e,aZ,bf,cC,aS,aG];have ha:f.Params.all (fun p=> !jd p.aI)= !(f.Params.any fun p=>jd p.aI):=by rw[List.not_any_eq_all_not]
 rw[ha];cases f.Async<;>cases jd f.Result<;>cases (f.Params.any fun p=>jd p.aI)<;>rfl
theorem axh(f:av)(h:f.sz<=1048576):M.pW f=some (f.Params.map al.aI):=by
 rw[av.bL]at h;have hl:f.Params.length<=1048576:=cN (bW al.sz f.Params) (by omega);have key:∀g k,k<=f.Params.length->f.Params.length-k<g->M.mW f.Params (f.Params.length:Int) g (k:Int) ((f.Params.take k).map al.aI)=some (f.Params.map al.aI):=by
  intro g
  induction g with
  |zero=>intro k h1 h2;omega
  |succ g ih=>
   intro k h1 h2;rw[M.mW];rcases cJ k f.Params.length with hk|hk
   ·have hd:decide ((((f.Params.take k).map al.aI).length+([f.Params[k].aI]:List aa).length)<=1073741824)=true:=by
     simp only[bu,dY,iw,cD,dj];omega
    have ht:(f.Params.take k).map al.aI++[f.Params[k].aI]=(f.Params.take (k+1)).map al.aI:=by
     rw[kK,pP,cw hk];rfl
    simp only[aa.ai,getD_lt hk,bn,bz,bU,hk,bD,aG,bj,aS,bE hk (cu hl),hd,ht];exact ih (k+1) (by omega) (by omega)
   ·have:k=f.Params.length:=by omega
    subst this;have:decide (((f.Params.length:Nat):Int)<((f.Params.length:Nat):Int))=false:=by simp
    rw[this,uk];rfl
 have e:=key ae 0 (cU _) (by have:=bS;omega);unfold M.pW;have e':M.mW f.Params (f.Params.length:Int) ae 0 []=_:=e;rw[e']
theorem axi(l:List aa)(hl:l.length<=2097152)(hs:∀x∈l,x.sz<=1048576):M.AO l=some (l.any jd):=by
 have e:=ft (p:=jd) (F:=M.uK l (l.length:Int)) (e:=()) (fun k=>k) l (by omega) (fun g k hk=>by
  rw[M.uK];have hc:M.AN l[k]=some (jd l[k]):=by
   unfold M.AN;rw[aa.ai,axf _ (hs _ (bK hk))];rfl
  simp only[aa.ai,getD_lt hk,hc,bn,bz,bU,hk,bD,aG,bj,aS,bE hk (by omega:l.length<2^62),aZ,bf]) (fun g=>by rw[M.uK];simp)
 unfold M.AO M.Gf;rw[e,jH];cases l.findIdx? jd<;>simp
theorem axj(f:av)(h:f.sz<=1048576):M.AP f=some (jv f):=by
 have hp:=axh f h;rw[av.bL]at h;have hl:f.Params.length<=1048576:=cN (bW al.sz f.Params) (by omega);have hc:=axi (f.Params.map al.aI++[f.Result]) (by simp;omega) (fun x hx=>by
  rcases dy.1 hx with hx|hx
  ·obtain⟨p,hp,rfl⟩:=kG.1 hx;have hm:=da al.sz _ _ hp;exact al.tf (N:=1048576) (by omega)
  ·simp at hx;subst hx;omega)
 have hd:decide (((f.Params.map al.aI).length+([f.Result]:List aa).length)<=1073741824)=true:=by
  simp only[bu,dY,cD,dj];omega
 have ha:(f.Params.map al.aI++[f.Result]).any jd=(f.Params.any (fun p=>jd p.aI)||jd f.Result):=by
  rw[List.any_append,List.any_map];simp;rfl
 unfold M.AP jv;cases hA:f.Async
 ·simp only[av.ai,aa.ai,hp,hc,hd,ha,mg,aG,aZ,bf];simp
 ·simp
def nV(f:ar):Bool:=nS f&&f.Funcs.all fun x=>jv x.aI
def di(f:ar):List UInt8:=(f.du++[47])++f.Name
def fO(l:List ar):Bool:=decide (l.length<=6)&&(l.all nV&&jc (l.map di))
theorem gt6(n:Nat):decide ((6:Int)<((n:Nat):Int))= !decide (n<=6):=FB n 6
theorem agY{l:List ar}(k:Nat)(hk:k<l.length):(l.map di).getD k []=di l[k]:=by
 rw[getD_lt (by simpa using hk),Ab]
theorem Sv(l:List ar)(h:aB ar.sz l<=1048576):M.xF l=some (fO l):=by
 have hl:l.length<=1048576:=cN (bW ar.sz l) h;have hsz:∀k (hk:k<l.length),l[k].sz<=1048576:=fun k hk=>by have:=da ar.sz _ _ (bK hk);omega
 have inner:∀i (hi:i<l.length),M.rz l (i:Int) ae 0=some (if l[i].Funcs.all (fun x=>jv x.aI)then .inr (l,(i:Int))else .inl false):=fun i hi=>by
  have hs:=hsz i hi;rw[ar.bL]at hs;have hfl:l[i].Funcs.length<=1048576:=cN (bW aD.sz l[i].Funcs) (by omega);exact mP (p:=fun x=>jv x.aI) (F:=M.rz l (i:Int)) (e:=(l,(i:Int))) (b:=false) l[i].Funcs (by omega) (fun g k hk=>by
   rw[M.rz];have hm:=da aD.sz _ _ (bK hk);have hsz:=aD.bL l[i].Funcs[k];have hp:=axg l[i].Funcs[k].aI (by omega);simp only[av.ai,getD_lt hi,getD_lt hk,hp,bn,bz,bU,hk,hi,bD,aG,bj,aS,bE hk (cu hfl),aZ,bf];cases jv l[i].Funcs[k].aI<;>rfl) (fun g=>by
   rw[M.rz];simp only[getD_lt hi,bn,bz,hi,bD];simp)
 have outer:M.oq ae l 0=some (if(List.range l.length).all (fun i=>nV (l.getD i ar.zero)&&((i==0)||Go.V.dF ((l.map di).getD (i-1) []) ((l.map di).getD i [])))then .inr ()else .inl false):=
  lB (p:=fun i=>nV (l.getD i ar.zero)&&((i==0)||Go.V.dF ((l.map di).getD (i-1) []) ((l.map di).getD i []))) (F:=fun g k=>M.oq g l k) (e:=()) (b:=false) l.length (by omega) (fun g k hk=>by
   show M.oq (g+1) l (k:Int)=_
   rw[M.oq];have hf:=axa l[k] (hsz k hk);have hn:M.jr l[k]=some (di l[k]):=Ac l[k] (hsz k hk);have hin:=inner k hk;unfold nV;rcases kg k with h0|h0
   ·subst h0;have hd0:decide ((0:Int)<((0:Nat):Int))=false:=rfl;simp only[getD_lt hk,hf,hn,hin,hd0,bn,bz,bU,hk,bD,aG,bj,aS,bE hk (cu hl),aZ,bf,cC,rf,mf,js];cases nS l[0]
    ·simp
    ·cases l[0].Funcs.all fun x=>jv x.aI
     ·simp
     ·have hw1:Go.IntKind.wrap .i64 1=1:=wrap_i64 (by omega) (by omega);simp[hw1]
   ·have hk1:k-1<l.length:=by omega
    have hp:decide ((0:Int)<(k:Int))=true:=by rw[bu];omega
    have hz:(k==0)=false:=by rw[eI];omega
    have hn1:M.jr l[k-1]=some (di l[k-1]):=Ac l[k-1] (hsz _ hk1);simp only[agY k hk,agY (k-1) hk1,getD_lt hk,getD_lt hk1,hf,hn,hn1,hin,hp,hz,tg h0 (ti hk) (cu hl),bn,bz,bU,hk,hk1,bD,aG,bj,aS,bE hk (cu hl),aZ,bf,cC,gm];cases nS l[k]
    ·simp
    ·cases Go.V.dF (di l[k-1]) (di l[k])
     ·simp
     ·cases l[k].Funcs.all fun x=>jv x.aI
      ·simp
      ·simp[bE hk (cu hl)]) (fun g=>by
   show M.oq (g+1) l (l.length:Int)=_
   rw[M.oq];simp)
 rw[Ec,Ed nV l ar.zero]at outer;have hr:(List.range l.length).all (fun i=>(i==0)||Go.V.dF ((l.map di).getD (i-1) []) ((l.map di).getD i []))=jc (l.map di):=by
  unfold jc;rw[dY]
 rw[hr]at outer;unfold M.xF fO;rw[gt6,outer];cases decide (l.length<=6)
 ·rfl
 ·cases l.all nV<;>cases jc (l.map di)<;>rfl
theorem SA(l:List ar)(h:aB ar.sz l<=1048576):M.xN l=some (fO l):=by
 have hl:l.length<=1048576:=cN (bW ar.sz l) h;have hsz:∀k (hk:k<l.length),l[k].sz<=1048576:=fun k hk=>by have:=da ar.sz _ _ (bK hk);omega
 have hcf:∀f:ar,f.sz<=1048576->M.AS f.Funcs=some (f.Funcs.any fun x=> !jv x.aI):=fun f hf=>by
  rw[ar.bL]at hf;have hfl:f.Funcs.length<=1048576:=cN (bW aD.sz f.Funcs) (by omega);have e:=ft (p:=fun x:aD=> !jv x.aI) (F:=M.uL f.Funcs (f.Funcs.length:Int)) (e:=()) (fun k=>k) f.Funcs (by omega) (fun g k hk=>by
   rw[M.uL];have hm:=da aD.sz _ _ (bK hk);have hsz:=aD.bL f.Funcs[k];have hc:M.AQ f.Funcs[k]=some (!jv f.Funcs[k].aI):=by
    unfold M.AQ;rw[av.ai,axj _ (by omega)];rfl
   simp only[aD.ai,getD_lt hk,hc,bn,bz,bU,hk,bD,aG,bj,aS,bE hk (cu hfl),aZ,bf]) (fun g=>by rw[M.uL];simp)
  unfold M.AS M.Gh;rw[e,jH];cases f.Funcs.findIdx? (fun x=> !jv x.aI)<;>simp
 have key:∀g k,k<=l.length->l.length-k<g->M.uM l l (l.length:Int) g (k:Int) ((l.take k).map di)=some (if(l.drop k).all nV then .inr (l,l.map di)else .inl false):=by
  intro g
  induction g with
  |zero=>intro k h1 h2;omega
  |succ g ih=>
   intro k h1 h2;rw[M.uM];rcases cJ k l.length with hk|hk
   ·have hf:=axc l[k] (hsz k hk);have hn:M.mi l[k]=some (di l[k]):=LJ l[k] (hsz k hk);have hc:=hcf l[k] (hsz k hk);have hd:decide ((((l.take k).map di).length+([di l[k]]:List (List UInt8)).length)<=1073741824)=true:=by
     simp only[bu,dY,iw,cD,dj];omega
    have ht:(l.take k).map di++[di l[k]]=(l.take (k+1)).map di:=by
     rw[kK,pP,cw hk];rfl
    have hna:(l[k].Funcs.any fun x=> !jv x.aI)= !(l[k].Funcs.all fun x=>jv x.aI):=by rw[wu]
    simp only[getD_lt hk,hf,hn,hc,hna,bn,bz,bU,hk,bD,aG,bj,aS,bE hk (cu hl),aZ,bf,cC,hd,ht];rw[ih (k+1) (by omega) (by omega),Oa _ hk];unfold nV;cases nS l[k]<;>cases (l[k].Funcs.all fun x=>jv x.aI)<;>simp
   ·have:k=l.length:=by omega
    subst this;have:decide (((l.length:Nat):Int)<((l.length:Nat):Int))=false:=by simp
    rw[this,gG,uk];rfl
 have e:=key ae 0 (cU _) (by have:=bS;omega);have e':M.uM l l (l.length:Int) ae 0 []=_:=e;rw[fW]at e';have Ee:=N9 (l.map di) (by rw[dY];exact hl);have e6:decide (((l.length:Nat):Int)<=6)=decide (l.length<=6):=by simp only[fl];omega
 unfold M.xN fO;rw[e'];cases l.all nV
 ·simp
 ·simp only[pt,Ee,e6,aZ,bf,cC,bj,aS,aG]
end M
