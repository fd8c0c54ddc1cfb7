/-
  VERSIONS: what the program and the reference find of them.
-/
import Derived.Test.YtdehjkmaaljlpaaGreatDoorXETP
import Derived.Test.YtdehjkmaaljlpaaGreatDoorXVER
set_option linter.unusedVariables false
set_option linter.unusedSimpArgs false
namespace M
open Go.V (inB cF af bV)
def mM(s:List UInt8):Bool:=(dL.wE s).isSome
theorem axU(s:List UInt8):(match M.eS s with|(v,b)=>if b=true/\(0<=v/\v<=999)then some v.toNat else none)=dL.pC s:=by
 unfold M.eS dL.pC;cases Go.Lib.parseIntB 64 s with
 |ok v=>
  simp only;by_cases h:Go.Lib.itoa v=s
  ·rw[aE h];simp only[h,wF]
  ·rw[av h];simp[h]
 |_=>simp
theorem Oo(s:List UInt8):(dL.pC s=none/\((!(M.eS s).2)||(!(decide ((0:Int)<=(M.eS s).1)&&decide ((M.eS s).1<=999))))=true)\/∃n:Nat,dL.pC s=some n/\n<=999/\(M.eS s).1=(n:Int)/\((!(M.eS s).2)||(!(decide ((0:Int)<=(M.eS s).1)&&decide ((M.eS s).1<=999))))=false:=by
 have h:=axU s;generalize M.eS s=p at h;obtain⟨v,b⟩:=p;simp only at h⊢;by_cases hc:b=true/\(0<=v/\v<=999)
 ·rw[aE hc]at h;exact .inr ⟨v.toNat,h.symm,by omega,by omega,by simp[hc.1,hc.2.1,hc.2.2]⟩
 ·rw[av hc]at h;refine .inl ⟨h.symm,?_⟩;cases b
  ·rfl
  ·simp only[dE,gq,eL,Bool.and_eq_false_iff,dR];simp only[wF]at hc;omega
theorem axV(s:List UInt8):∀p∈dL.eB s,p.length<=s.length:=by
 have key:∀(s:List UInt8),∀p∈dL.eB s,p.length<=s.length:=by
  intro s
  induction s with
  |nil=>intro p hp;simp[dL.eB]at hp;subst hp;simp
  |cons c r ih=>
   intro p hp;unfold dL.eB at hp;split at hp
   ·rcases fi.1 hp with rfl|hp
    ·simp
    ·have:=ih p hp;simp;omega
   ·split at hp
    ·rename_i x y e;rw[e]at ih;rcases fi.1 hp with rfl|hp
     ·have:=ih x (by simp);simp;omega
     ·have:=ih p (by simp[hp]);simp;omega
    ·simp at hp;subst hp;simp
 exact key s
theorem TP(s:List UInt8)(h:s.length<=1048576):M.vu s=some (mM s):=by
 have hs:M.strings_Split s [46]=some (dL.eB s):=by
  unfold M.strings_Split;have:decide (s.length<4294967281)=true:=by rw[bq];omega
  rw[this];rfl
 have hrd:∀p∈dL.eB s,M.qE p=some (M.eS p):=fun p hp=>by
  have:=axV s p hp;unfold M.qE;have:decide (p.length<=281474976710656)=true:=by rw[bq];omega
  rw[this];rfl
 have hv:∃v:Int×Bool,M.Eo s=some v/\v.2=mM s:=by
  unfold M.Eo mM dL.wE;rw[hs];simp only[aV,aX,aZ,aR,aA]
  match hp:dL.eB s,hrd with
  |[],_=>exact⟨_,rfl,rfl⟩
  |[a],_=>exact⟨_,rfl,rfl⟩
  |[a,b],_=>exact⟨_,rfl,rfl⟩
  |a::b::c::d::r,_=>
   have:((((a::b::c::d::r).length:Nat):Int) !=3)=true:=by
    simp only[aO,iq];omega
   rw[this];exact⟨_,rfl,rfl⟩
  |[a,b,c],hrd=>
    have h3:((((([a,b,c]:List (List UInt8)).length:Nat):Int) !=3))=false:=rfl;rw[h3];simp only[bN];obtain⟨f0,hf0⟩:∃f0,af=f0+4:=⟨af-4,by have:=bV;omega⟩;have ra:=hrd a (by simp);have rb:=hrd b (by simp);have rc:=hrd c (by simp);have st:∀(f:Nat)(n:Int)(k:Nat)(p:List UInt8)(hk:k<3),([a,b,c].getD k [])=p->M.qE p=some (M.eS p)->M.qD [a,b,c] ((([a,b,c]:List (List UInt8)).length:Nat):Int) (f+1) n (k:Int)=
     bif((!(M.eS p).2)||(!(decide ((0:Int)<=(M.eS p).1)&&decide ((M.eS p).1<=999))))then some (.inl (0,false))else M.qD [a,b,c] ((([a,b,c]:List (List UInt8)).length:Nat):Int) f (Go.IntKind.wrap .i64 (Go.IntKind.wrap .i64 (n*1000)+(M.eS p).1)) ((k+1:Nat):Int):=fun f n k p hk hg hr=>by
     rw[M.qD];have hlt:decide ((k:Int)<((([a,b,c]:List (List UInt8)).length:Nat):Int))=true:=by simp;omega
     have hin:inB (k:Int) ([a,b,c]:List (List UInt8)).length=true:=by rw[bp];simp;omega
     simp only[hlt,aA,bz,hg,hr,aV,aX,hin,aZ,aR,bw (show k<3 from hk) (by omega)]
    have e0:=st (f0+3) 0 0 a (by omega) rfl ra;rw[hf0];change M.qD [a,b,c] ((([a,b,c]:List (List UInt8)).length:Nat):Int) (f0+4) 0 0=_ at e0;rw[e0];rcases Oo a with⟨ha,ca⟩|⟨x,ha,hx,ea,ca⟩
    ·rw[ca,ha];exact⟨_,rfl,rfl⟩
    rw[ca,ha];have w1:Go.IntKind.wrap .i64 (Go.IntKind.wrap .i64 ((0:Int)*1000)+(M.eS a).1)=(x:Int):=by
     rw[ea,wrap_i64 (n:=0*1000) (by omega) (by omega),wrap_i64 (by omega) (by omega)];omega
    rw[bN,w1,st (f0+2) _ 1 b (by omega) rfl rb];rcases Oo b with⟨hb,cb⟩|⟨y,hb,hy,eb,cb⟩
    ·rw[cb,hb];exact⟨_,rfl,rfl⟩
    rw[cb,hb];have w2:Go.IntKind.wrap .i64 (Go.IntKind.wrap .i64 ((x:Int)*1000)+(M.eS b).1)=((x*1000+y:Nat):Int):=by
     rw[eb,wrap_i64 (show -9223372036854775808<=(x:Int)*1000 by omega) (by omega),wrap_i64 (by omega) (by omega)];omega
    rw[bN,w2,st (f0+1) _ 2 c (by omega) rfl rc];rcases Oo c with⟨hc,cc⟩|⟨z,hc,hz,ec,cc⟩
    ·rw[cc,hc];exact⟨_,rfl,rfl⟩
    rw[cc,hc];have w3:Go.IntKind.wrap .i64 (Go.IntKind.wrap .i64 (((x*1000+y:Nat):Int)*1000)+(M.eS c).1)=(((x*1000+y)*1000+z:Nat):Int):=by
     rw[ec,wrap_i64 (show -9223372036854775808<=((x*1000+y:Nat):Int)*1000 by omega) (by omega),wrap_i64 (by omega) (by omega)];omega
    rw[bN,w3,M.qD];exact⟨_,rfl,rfl⟩
 obtain⟨v,h1,h2⟩:=hv;unfold M.vu;rw[h1];simp only[aX,aV,aR,aA,h2]
end M
namespace M
open Go.V (inB cF af bV)
theorem ahg{n:Nat}(h:n<10):Go.IntKind.wrap .u8 (Go.IntKind.wrap .i64 ((48:Int)+(n:Int)))=((48+n:Nat):Int):=by
 rw[wrap_i64 (by omega) (by omega)];have:∀m:Fin 10,Go.IntKind.wrap .u8 ((48:Int)+((m.val:Nat):Int))=((48+m.val:Nat):Int):=by decide
 exact this ⟨n,h⟩
theorem ahh{n:Nat}(h:n<10):Go.V.lQ ((48+n:Nat):Int)=true:=by
 unfold Go.V.lQ;simp only[bC,bq];omega
theorem ahi(n:Nat):Go.V.lR ((48+n:Nat):Int)=UInt8.ofNat (48+n):=by
 unfold Go.V.lR;rw[bz]
theorem Oq{n:Nat}(h:n<10)(f:Nat):M.lP (f+1) (n:Int)=some [UInt8.ofNat (48+n)]:=by
 show M.tB (M.lP f) (n:Int)=_
 unfold M.tB;have:decide ((n:Int)<10)=true:=by rw[bq];omega
 simp only[this,ahg h,ahh h,ahi];rfl
theorem Ot(a b:Nat):Int.tdiv (a:Int) (b:Int)=((a/b:Nat):Int):=(Int.ofNat_tdiv a b).symm
theorem Ou(a b:Nat):Int.tmod (a:Int) (b:Int)=((a%b:Nat):Int):=(Int.ofNat_tmod a b).symm
theorem qH{a b:List UInt8}(h:a.length+b.length<=4611686018427387904):Go.V.aW a b=true:=by
 unfold Go.V.aW;rw[bq];exact h
theorem Ov{n:Nat}(h:10<=n)(hn:n<1000)(f:Nat){x:List UInt8}(hx:M.lP f ((n/10:Nat):Int)=some x)(hl:x.length<=10):M.lP (f+1) (n:Int)=some (x++[UInt8.ofNat (48+n%10)]):=by
 show M.tB (M.lP f) (n:Int)=_
 unfold M.tB;have h1:decide ((n:Int)<10)=false:=by rw[dR];omega
 have h2:Go.IntKind.wrap .i64 (Int.tdiv (n:Int) 10)=((n/10:Nat):Int):=by
  rw[show Int.tdiv (n:Int) 10=((n/10:Nat):Int)from Ot n 10,wrap_i64 (by omega) (by omega)]
 have h3:Int.tmod (n:Int) 10=((n%10:Nat):Int):=Ou n 10;have h4:n%10<10:=Nat.mod_lt _ (by decide);simp only[h1,h2,h3,hx,ahg h4,ahh h4,ahi,aV,aX,bN,eu,List.map_nil];rw[qH (by simp;omega)];rfl
theorem Ox{n:Nat}(h:n<1000):M.mR (n:Int)=some (dL.dec n):=by
 obtain⟨f,hf⟩:∃f,af=f+3:=⟨af-3,by have:=bV;omega⟩;rw[show M.mR=M.lP af from rfl,hf];unfold dL.dec;by_cases h1:n<10
 ·rw[aE h1];exact Oq h1 (f+2)
 ·rw[av h1];by_cases h2:n<100
  ·rw[aE h2];have:=Ov (by omega) h (f+2) (Oq (show n/10<10 by omega) (f+1)) (by simp);simpa using this
  ·rw[av h2];have a:=Oq (show n/100<10 by omega) f;have b:=Ov (n:=n/10) (by omega) (by omega) (f+1) (by rw[show n/10/10=n/100 by omega];exact a) (by simp);have:=Ov (by omega) h (f+2) b (by simp);simpa using this
theorem axW{n:Nat}(h:n<1000000000):M.Eg (n:Int)=some (dL.kg n):=by
 unfold M.Eg;have e1:Go.IntKind.wrap .i64 (Int.tdiv (n:Int) 1000000)=((n/1000000:Nat):Int):=by rw[show Int.tdiv (n:Int) 1000000=((n/1000000:Nat):Int)from Ot n 1000000,wrap_i64 (by omega) (by omega)]
 have e2:Int.tmod (Go.IntKind.wrap .i64 (Int.tdiv (n:Int) 1000)) 1000=((n/1000%1000:Nat):Int):=by
  rw[show Int.tdiv (n:Int) 1000=((n/1000:Nat):Int)from Ot n 1000,wrap_i64 (by omega) (by omega)];exact Ou (n/1000) 1000
 have e3:Int.tmod (n:Int) 1000=((n%1000:Nat):Int):=Ou n 1000;have l1:=dL.pD (n:=n/1000000);have l2:=dL.pD (n:=n/1000%1000);have l3:=dL.pD (n:=n%1000);simp only[e1,e2,e3,Ox (show n/1000000<1000 by omega),Ox (show n/1000%1000<1000 by omega),Ox (show n%1000<1000 by omega),aV,aX];rw[qH (by simp;omega),qH (by simp;omega),qH (by simp;omega),qH (by simp;omega)];unfold dL.kg;simp
structure ahj (k n p d:Nat) (n':Int):Prop where
 fp:p<10^k
 fd:d<=k
 eq:d<=2->n'=(n:Int)
 d0:d=0->n=0
 d1:d=1->n<1001000000000000
 d2:d=2->n<2000000000000000000
theorem Oy(s:List UInt8):∀(g k n p d:Nat)(n':Int),k<=min s.length 12->min s.length 12-k<g->ahj k n p d n'->
 (dL.scan (n,p,d) ((s.take 12).drop k)=none/\M.pt s g n' (p:Int) (d:Int) (k:Int)=some (.inl (-1)))\/
 ∃(m q e:Nat)(m':Int),dL.scan (n,p,d) ((s.take 12).drop k)=some (m,q,e)/\M.pt s g n' (p:Int) (d:Int) (k:Int)=some (.inr (s,m',(q:Int),(e:Int)))/\ahj (min s.length 12) m q e m'
 |0,k,n,p,d,n',h1,h2,_=>by omega
 |g+1,k,n,p,d,n',h1,h2,hI=>by
  rw[M.pt];have hlen:(s.take 12).length=min s.length 12:=by rw[ib,Nat.min_comm]
  rcases cA k (min s.length 12)with hk|hk
  ·have hks:k<s.length:=by omega
   have hd:(s.take 12).drop k=s[k]::(s.take 12).drop (k+1):=by
    rw[fu (by rw[hlen];exact hk)];congr 1;rw[List.getElem_take]
   have aEU:p<1000000000000:=ju hI.fp (cD (Nat.pow_le_pow_right (by decide) (show k<=12 by omega)) (by decide));have c1:decide ((k:Int)<((s.length:Nat):Int))=true:=by rw[bq];omega
   have c2:decide ((k:Int)<12)=true:=by rw[bq];omega
   have c3:inB (k:Int) s.length=true:=by rw[bp];simpa using hks
   have hw:Go.IntKind.wrap .i64 ((k:Int)+1)=((k+1:Nat):Int):=by rw[wrap_i64 (by omega) (by omega)];omega
   rw[hd];simp only[c1,c2,c3,hw,bz,getD_lt hks,aR,aZ,bZ,aA];rw[dL.scan];by_cases h46:s[k]=46
   ·rw[aE h46];have:((((s[k]).toNat:Nat):Int)==46)=true:=by rw[h46];decide
    rw[this,aA];have hw2:Go.IntKind.wrap .i64 ((d:Int)+1)=((d+1:Nat):Int):=by have:=hI.fd;rw[wrap_i64 (by omega) (by omega)];omega
    rw[hw2];refine Oy s g (k+1) ((n+p)*1000) 0 (d+1) _ (by omega) (by omega) ⟨Nat.pow_pos (by decide),by have:=hI.fd;omega,fun hd2=>?_,fun h=>by omega,fun h=>?_,fun h=>?_⟩
    ·have hn:n<1001000000000000:=by
      rcases cA d 1 with h|h
      ·rw[hI.d0 (by omega)];decide
      ·exact hI.d1 (by omega)
     rw[hI.eq (by omega),wrap_i64 (n:=(n:Int)+(p:Int)) (by omega) (by omega),wrap_i64 (by omega) (by omega)];omega
    ·rw[hI.d0 (by omega)];omega
    ·have:=hI.d1 (by omega);omega
   ·rw[av h46];have hne:((((s[k]).toNat:Nat):Int)==46)=false:=by
     rw[dS];intro e;exact h46 (UInt8.toNat.inj (by have:(46:UInt8).toNat=46:=rfl;omega))
    rw[hne,bN];by_cases hdig:48<=s[k].toNat/\s[k].toNat<=57
    ·rw[aE hdig];have d1:decide ((((s[k]).toNat:Nat):Int)<48)=false:=by rw[dR];omega
     have d2:decide ((57:Int)<(((s[k]).toNat:Nat):Int))=false:=by rw[dR];omega
     have hu:Go.IntKind.wrap .u8 ((((s[k]).toNat:Nat):Int)-48)=((s[k].toNat-48:Nat):Int):=by
      have:∀m:Fin 58,48<=m.val->Go.IntKind.wrap .u8 (((m.val:Nat):Int)-48)=((m.val-48:Nat):Int):=by decide
      exact this ⟨s[k].toNat,by omega⟩ hdig.1
     have hw3:Go.IntKind.wrap .i64 (Go.IntKind.wrap .i64 ((10:Int)*(p:Int))+Go.IntKind.wrap .i64 (((s[k].toNat-48:Nat):Int)))=((10*p+(s[k].toNat-48):Nat):Int):=by
      rw[wrap_i64 (n:=(10:Int)*(p:Int)) (by omega) (by omega),wrap_i64 (n:=((s[k].toNat-48:Nat):Int)) (by omega) (by omega),wrap_i64 (by omega) (by omega)];omega
     simp only[d1,d2,jC,bN,hu,hw3];refine Oy s g (k+1) n (10*p+(s[k].toNat-48)) d n' (by omega) (by omega) ⟨?_,by have:=hI.fd;omega,hI.eq,hI.d0,hI.d1,hI.d2⟩;have:=hI.fp;rw[Nat.pow_succ];omega
    ·rw[av hdig];have:(decide ((((s[k]).toNat:Nat):Int)<48)||decide ((57:Int)<(((s[k]).toNat:Nat):Int)))=true:=by
      rw[eC,bq,bq];omega
     rw[this];exact .inl ⟨rfl,rfl⟩
  ·have hk':k=min s.length 12:=by omega
   subst hk';have hd:(s.take 12).drop (min s.length 12)=[]:=by rw[<-hlen,gP]
   have:(decide (((min s.length 12:Nat):Int)<((s.length:Nat):Int))&&decide (((min s.length 12:Nat):Int)<12))=false:=by
    rw[Bool.and_eq_false_iff,dR,dR];omega
   rw[this,hd];exact .inr ⟨n,p,d,n',rfl,rfl,hI⟩
theorem TM(s:List UInt8):M.vl s=some (mM s):=by
 have key:∃r:Int,M.Eh s=some r/\decide (0<=r)=(dL.wG s).isSome:=by
  unfold M.Eh dL.wG;have hl:=Oy s af 0 0 0 0 0 (abo _) (by have:=bV;omega) ⟨by simp,bY _,fun _=>rfl,fun _=>rfl,fun h=>by omega,fun h=>by omega⟩;rw[gm]at hl;rcases hl with⟨e1,e2⟩|⟨m,q,e,m',e1,e2,hI⟩
  ·have e2':M.pt s af 0 0 0 0=_:=e2;rw[e1,e2'];exact⟨-1,rfl,rfl⟩
  ·have e2':M.pt s af 0 0 0 0=_:=e2;rw[e1,e2'];simp only;have hq:q<1000000000000:=ju hI.fp (cD (Nat.pow_le_pow_right (by decide) (show min s.length 12<=12 by omega)) (by decide));by_cases he:e=2
   ·subst he;have hm:=hI.d2 rfl;have hw:Go.IntKind.wrap .i64 (m'+(q:Int))=((m+q:Nat):Int):=by
     rw[hI.eq (by omega),wrap_i64 (by omega) (by omega)];omega
    rw[hw];by_cases hc:q<=999/\m+q<1000000000
    ·have c1:((((2:Nat):Int) !=2)||decide ((999:Int)<(q:Int)))=false:=by
      rw[wO,dR];exact⟨rfl,by omega⟩
     have c2:(decide ((0:Int)<=((m+q:Nat):Int))&&decide (((m+q:Nat):Int)<=999999999))=true:=by
      rw[bC,bq,bq];omega
     rw[c1,c2,axW hc.2];by_cases ht:dL.kg (m+q)=s
     ·rw[aE ⟨rfl,hc.1,hc.2,ht⟩];refine⟨((m+q:Nat):Int),?_,by simp;omega⟩;simp[ht]
     ·rw[av (fun h=>ht h.2.2.2)];refine⟨-1,?_,by simp⟩;have:(dL.kg (m+q)==s)=false:=by rw[dS];exact ht
      simp[this]
    ·rw[av (fun h=>hc ⟨h.2.1,h.2.2.1⟩)];have c:(((((2:Nat):Int) !=2)||decide ((999:Int)<(q:Int)))|| !(decide ((0:Int)<=((m+q:Nat):Int))&&decide (((m+q:Nat):Int)<=999999999)))=true:=by
      rw[eC,eC,bq,eL,Bool.and_eq_false_iff,dR,dR];omega
     rw[c];exact⟨-1,by simp,by simp⟩
   ·rw[av (fun h=>he h.1)];have c:((((e:Nat):Int) !=2))=true:=by rw[iq];omega
    rw[c];exact⟨-1,by simp,by simp⟩
 obtain⟨r,h1,h2⟩:=key;unfold M.vl mM;rw[h1,dL.axX];simp only[aX,aV,aR,aA,h2]
end M
namespace M
open Go.V (inB cF af bV)
mutual
def fR:aa->List (List UInt8)
 |.mk k n l kids=>(if qI (.mk k n l kids)then[n]else[])++i7 kids
def i7:List aa->List (List UInt8)
 |[]=>[]
 |x::r=>fR x++i7 r
end
theorem Oz(t:aa):fR t=(if qI t then[t.Name]else[])++i7 t.Kids:=by cases t;rfl
mutual
def zk:aa->List (List UInt8)
 |.mk k n l kids=>(if n==[]then[]else[n])++qJ kids
def qJ:List aa->List (List UInt8)
 |[]=>[]
 |x::r=>zk x++qJ r
end
theorem ahk(t:aa):zk t=(if t.Name==[]then[]else[t.Name])++qJ t.Kids:=by cases t;rfl
theorem OA:∀l:List aa,(∀x∈l,(fR x).length<=dM x)->(i7 l).length<=dm l
 |[],_=>bY _
 |x::r,h=>by
  have:=h x (by simp);have:=OA r fun y hy=>h y (by simp[hy])
  simp only[i7,dm,bA];omega
theorem ahl:∀(n:Nat)(t:aa),t.sz<n->(fR t).length<=dM t
 |0,t,h=>by omega
 |n+1,t,h=>by
  rw[Oz,pE,bA];have:=OA t.Kids fun x hx=>ahl n x (by have:=aa.fj hx;omega)
  split
  ·simp;omega
  ·simp;omega
theorem zl(t:aa):(fR t).length<=dM t:=ahl _ t (mY _)
theorem ahm:∀(n:Nat)(t:aa),t.sz<n->dF t=true->fR t=zk t
 |0,t,h,_=>by omega
 |n+1,t,h,hs=>by
  rw[Oz,ahk];have hk:∀l:List aa,(∀x∈l,x∈t.Kids)->i7 l=qJ l:=by
   intro l
   induction l with
   |nil=>intro _;rfl
   |cons x r ih=>
    intro hl;have hx:=hl x (by simp);rw[wI,bC,zm,dz]at hs;simp only[i7,qJ];rw[ih fun y hy=>hl y (by simp[hy]),ahm n x (by have:=aa.fj hx;omega) (hs.2 x hx)]
  rw[hk t.Kids fun _ h=>h];congr 1;rw[wI,bC]at hs;have h1:=hs.1;unfold mZ at h1;simp only[bC]at h1;have h2:=h1.1.2;cases hn:qI t
  ·rw[hn]at h2;simp only[gz,fZ]at h2⊢;rw[aE h2]
  ·rw[hn]at h2;simp only[eY]at h2⊢;have:(t.Name==[])=false:=by
    rw[dS];intro e;rw[e]at h2;revert h2;decide
   rw[this];rfl
theorem ahn{t:aa}(h:dF t=true):fR t=zk t:=ahm _ t (mY _) h
theorem OB:∀(m:Nat)(t:aa),t.sz<m->t.sz<=1048576->M.qG m t=some (fR t)
 |0,t,h,_=>by omega
 |m+1,t,h,hN=>by
  show M.J5 (M.qG m) t=_
  unfold M.J5;have hl:=aa.ki hN;have hsum:=EK (aa.zn hN);have hkl:∀k,k<=t.Kids.length->(i7 (t.Kids.take k)).length<=dm t.Kids:=fun k hk=>
   cD (OA _ fun x _=>zl x) (axY _ _)
  have key:∀f k (pre:List (List UInt8)),pre.length<=1->k<=t.Kids.length->t.Kids.length-k<f->M.qF (M.qG m) t.Kids (t.Kids.length:Int) f (k:Int) (pre++i7 (t.Kids.take k))=some (pre++i7 t.Kids):=by
   intro f
   induction f with
   |zero=>intro k pre _ h1 h2;omega
   |succ f ih=>
    intro k pre hp h1 h2;rw[M.qF];rcases cA k t.Kids.length with hk|hk
    ·have hx:=aa.fj (bG hk);have hc:=OB m t.Kids[k] (by omega) (by omega);have hlen:=hkl k h1;have hlx:(fR t.Kids[k]).length<=dm t.Kids:=cD (zl _) (OC _ _ (bG hk));have hd:decide ((pre++i7 (t.Kids.take k)).length+(fR t.Kids[k]).length<=1073741824)=true:=by rw[bq,bA];omega
     have ht:i7 (t.Kids.take (k+1))=i7 (t.Kids.take k)++fR t.Kids[k]:=by
      have app:∀(a b:List aa),i7 (a++b)=i7 a++i7 b:=fun a b=>by
       induction a with
       |nil=>rfl
       |cons x r ih=>simp only[kJ,i7,ih,iR]
      rw[ka,ct hk,app];simp[i7]
     simp only[aa.ai,getD_lt hk,hc,bz,bp,bJ,hk,bg,aA,aZ,aR,bw hk (cC hl),aV,aX,hd];rw[iR,<-ht];exact ih (k+1) pre hp (by omega) (by omega)
    ·have:k=t.Kids.length:=by omega
     subst this;simp
  have e1:=key af 0 [t.Name] (by simp) (abo _) (by have:=bV;omega);have e2:=key af 0 [] (by simp) (abo _) (by have:=bV;omega);rw[List.take_zero]at e1 e2;have e1':M.qF (M.qG m) t.Kids (t.Kids.length:Int) af 0 ([]++[t.Name])=_:=e1;have e2':M.qF (M.qG m) t.Kids (t.Kids.length:Int) af 0 []=_:=e2;rw[e1',e2',Oz];have hnb:((t.Kind==20)||(t.Kind==21))=qI t:=rfl;rw[hnb];cases qI t<;>simp
def kj(f:ay):List (List UInt8):=fR f.Result++f.Params.flatMap fun p=>fR p.aS
theorem OD{t:aa}(h:eH t=true):dM t<=24:=by
 unfold eH at h;simp only[bC,bq]at h;exact h.1.2
theorem aho{l:List aw}(h:az aw.sz l<=1048576):∀k,((l.take k).flatMap fun p=>fR p.aS).length<=az aw.sz l+l.length:=fun k=>by
 have key:∀l:List aw,(l.flatMap fun p=>fR p.aS).length<=az aw.sz l+l.length:=by
  intro l
  induction l with
  |nil=>simp
  |cons p r ih=>
   have h1:=zl p.aS;have h2:=EL p.aS;have h3:=aw.bQ p;simp only[List.flatMap_cons,bA,az,aO];omega
 have h1:=key (l.take k);have h2:az aw.sz (l.take k)<=az aw.sz l:=by
  have:∀(l:List aw) k,az aw.sz (l.take k)<=az aw.sz l:=by
   intro l
   induction l with
   |nil=>intro k;simp
   |cons x r ih=>
    intro k;cases k with
    |zero=>simp[az]
    |succ k=>simp only[List.take_succ_cons,az];have:=ih k;omega
  exact this l k
 have h3:(l.take k).length<=l.length:=by simp;omega
 omega
theorem axZ(f:ay)(h:f.sz<=1048576):M.Ew f=some (kj f):=by
 rw[ay.bQ]at h;have hl:f.Params.length<=1048576:=cD (cm aw.sz f.Params) (by omega);have hr:M.zj f.Result=some (fR f.Result):=OB af _ (ahL (by omega)) (by omega);have hrl:(fR f.Result).length<=f.Result.sz+1:=cD (zl _) (EL _);have key:∀g k,k<=f.Params.length->f.Params.length-k<g->M.wu f.Params (f.Params.length:Int) g (k:Int) (fR f.Result++(f.Params.take k).flatMap fun p=>fR p.aS)=some (kj f):=by
  intro g
  induction g with
  |zero=>intro k h1 h2;omega
  |succ g ih=>
   intro k h1 h2;rw[M.wu];rcases cA k f.Params.length with hk|hk
   ·have hm:=dr aw.sz _ _ (bG hk);have hty:f.Params[k].aS.sz<=1048576:=aw.tN (N:=1048576) (by omega);have hc:M.zj f.Params[k].aS=some (fR f.Params[k].aS):=OB af _ (ahL hty) hty;have hb:=aho (l:=f.Params) (by omega) k;have hb2:(fR f.Params[k].aS).length<=1048577:=by have:=zl f.Params[k].aS;have:=EL f.Params[k].aS;omega
    have hd:decide ((fR f.Result++(f.Params.take k).flatMap fun p=>fR p.aS).length+(fR f.Params[k].aS).length<=1073741824)=true:=by
     rw[bq,bA];omega
    simp only[aa.ai,getD_lt hk,hc,bz,bp,bJ,hk,bg,aA,aZ,aR,bw hk (cC hl),aV,aX,hd];have:=ih (k+1) (by omega) (by omega);rw[ka,ct hk,List.flatMap_append]at this;simpa [iR]using this
   ·have:k=f.Params.length:=by omega
    subst this;rw[iJ];have:decide (((f.Params.length:Nat):Int)<((f.Params.length:Nat):Int))=false:=by simp
    rw[this];rfl
 have e:=key af 0 (abo _) (by have:=bV;omega);unfold M.Ew;have e':M.wu f.Params (f.Params.length:Int) af 0 (fR f.Result)=some (kj f):=by simpa using e
 simp only[aa.ai,hr,aV,e',aX,aR,aA]
end M
namespace M
open Go.V (inB cF af bV)
theorem ax0(l:List (List UInt8))(s:List UInt8)(hl:l.length<=16777216):∃out,M.Ej l s=some out/\(∀x,x∈out↔x∈l\/x=s)/\out.length<=l.length+1:=by
 have key:∀g k (done:Bool) (out:List (List UInt8)),k<=l.length->l.length-k<g->(∀x,x∈out↔x∈l.take k\/(done=true/\x=s))->out.length<=k+1->(done=false->out.length<=k)->
  ∃done' out',M.tC l s g done (k:Int) out=some (s,done',out')/\(∀x,x∈out'↔x∈l\/(done'=true/\x=s))/\out'.length<=l.length+1/\(done'=false->out'.length<=l.length):=by
  intro g
  induction g with
  |zero=>intro k done out h1 h2;omega
  |succ g ih=>
   intro k done out h1 h2 hm hlen hlen2;rw[M.tC];rcases cA k l.length with hk|hk
   ·have ht:∀x,x∈l.take (k+1)↔x∈l.take k\/x=l[k]:=fun x=>by
     rw[ka,ct hk,dx];simp
    have d2:decide (out.length+([l[k]]:List (List UInt8)).length<=1073741824)=true:=by rw[bq];simp;omega
    have d3:decide (out.length+([s]:List (List UInt8)).length<=1073741824)=true:=by rw[bq];simp;omega
    have d4:decide ((out++[s]).length+([l[k]]:List (List UInt8)).length<=1073741824)=true:=by rw[bq];simp;omega
    simp only[getD_lt hk,bz,bp,bJ,hk,bg,aA,aZ,aR,bZ,bw hk (by omega:l.length<2^62),d2,d3,d4];have hq:∀b:Bool,(((decide True&&true|| !b)&&(decide True&&true||b)))=true:=fun b=>by cases b<;>rfl
    by_cases he:l[k]=s
    ·have hb:(l[k]==s)=true:=by rw[he];exact lF s
     simp only[hb,bZ,dE,mE,bN,aR,aZ,kN,aA];refine ih (k+1) true _ (by omega) (by omega) (fun x=>?_) (by simp;omega) (fun h=>by cases h);rw[dx,hm,ht];simp only[zo,wF];constructor
     ·rintro ((h|⟨-,h⟩)|h)
      ·exact .inl (.inl h)
      ·exact .inr h
      ·exact .inl (.inr h)
     ·rintro ((h|h)|h)
      ·exact .inl (.inl h)
      ·exact .inr h
      ·exact .inr (by rw[h,he])
    ·have hb:(l[k]==s)=false:=by rw[dS];exact he
     simp only[hb,gq,jC,iP,kN,aR,aZ,aA];cases done
     ·simp only[iP,aZ];cases hlt:Go.V.eU l[k] s
      ·simp only[iP,aA];refine ih (k+1) true _ (by omega) (by omega) (fun x=>?_) (by simp;have:=hlen2 rfl;omega) (fun h=>by cases h);rw[dx,dx,hm,ht];simp only[zo,wF,gz,false_and,EM];constructor
       ·rintro ((h|h)|h)
        ·exact .inl (.inl h)
        ·exact .inr h
        ·exact .inl (.inr h)
       ·rintro ((h|h)|h)
        ·exact .inl (.inl h)
        ·exact .inr h
        ·exact .inl (.inr h)
      ·simp only[dE,bN];refine ih (k+1) false _ (by omega) (by omega) (fun x=>?_) (by simp;have:=hlen2 rfl;omega) (fun h=>by simp;have:=hlen2 rfl;omega);rw[dx,hm,ht];simp
     ·simp only[dE,mE,bN];refine ih (k+1) true _ (by omega) (by omega) (fun x=>?_) (by simp;omega) (fun h=>by cases h);rw[dx,hm,ht];simp only[zo,wF];constructor
      ·rintro ((h|h)|h)
       ·exact .inl (.inl h)
       ·exact .inr h
       ·exact .inl (.inr h)
      ·rintro ((h|h)|h)
       ·exact .inl (.inl h)
       ·exact .inr h
       ·exact .inl (.inr h)
   ·have:k=l.length:=by omega
    subst this;have:decide (((l.length:Nat):Int)<((l.length:Nat):Int))=false:=by simp
    rw[this];exact⟨done,out,rfl,by simpa using hm,hlen,hlen2⟩
 obtain⟨done,out,e,h1,h2,h3⟩:=key af 0 false [] (abo _) (by have:=bV;omega) (by simp) (by simp) (by simp);have e':M.tC l s af false 0 []=_:=e;unfold M.Ej;rw[e'];cases done
 ·have hd:decide (out.length+([s]:List (List UInt8)).length<=1073741824)=true:=by rw[bq];have:=h3 rfl;simp;omega
  simp only[iP,aA,hd,aR];refine⟨out++[s],rfl,fun x=>?_,by simp;exact h3 rfl⟩;rw[dx,h1];simp
 ·simp only[dE,bN];exact⟨out,rfl,fun x=>by rw[h1];simp,h2⟩
theorem ax1{l:List aa}{k:Nat}(h:k<l.length):qJ (l.drop k)=zk l[k]++qJ (l.drop (k+1)):=by rw[fu h];rfl
theorem OE:∀(m:Nat)(t:aa)(out:List (List UInt8)),t.sz<m->t.sz<=1048576->out.length+dM t<=8388608->
 ∃out',M.qC m t out=some out'/\(∀x,x∈out'↔x∈out\/x∈zk t)/\out'.length<=out.length+dM t
 |0,t,out,h,_,_=>by omega
 |m+1,t,out,h,hN,ho=>by
  show ∃out',M.JW (M.qC m) t out=_/\_
  unfold M.JW;have hl:=aa.ki hN;rw[pE]at ho⊢;have key:∀f k (o:List (List UInt8)),k<=t.Kids.length->t.Kids.length-k<f->o.length+dm (t.Kids.drop k)<=8388608->
   ∃out',M.qB (M.qC m) f o (k:Int) t=some out'/\(∀x,x∈out'↔x∈o\/x∈qJ (t.Kids.drop k))/\out'.length<=o.length+dm (t.Kids.drop k):=by
   intro f
   induction f with
   |zero=>intro k o h1 h2;omega
   |succ f ih=>
    intro k o h1 h2 h3;rw[M.qB];rcases cA k t.Kids.length with hk|hk
    ·have hx:=aa.fj (bG hk);rw[wJ hk]at h3⊢;obtain⟨o1,e1,g1,g2⟩:=OE m t.Kids[k] o (by omega) (by omega) (by omega);simp only[aa.ai,getD_lt hk,e1,bz,bp,bJ,hk,bg,aA,aZ,aR,bw hk (cC hl),aV,aX];obtain⟨o2,e2,g3,g4⟩:=ih (k+1) o1 (by omega) (by omega) (by omega);refine⟨o2,e2,fun x=>?_,by omega⟩;rw[g3,g1,ax1 hk,dx];constructor
     ·rintro ((h|h)|h)
      ·exact .inl h
      ·exact .inr (.inl h)
      ·exact .inr (.inr h)
     ·rintro (h|h|h)
      ·exact .inl (.inl h)
      ·exact .inl (.inr h)
      ·exact .inr h
    ·have:k=t.Kids.length:=by omega
     subst this;have:decide (((t.Kids.length:Nat):Int)<((t.Kids.length:Nat):Int))=false:=by simp
     rw[this,gP];exact⟨o,rfl,fun x=>by simp[qJ],by simp[dm]⟩
  rw[aa.ai];have hnm:=ahk t;cases hn:t.Name==[]
  ·simp only[iP,aA];obtain⟨o1,e1,g1,g2⟩:=ax0 out t.Name (by omega);rw[e1];simp only[aV,aX,aR,aA];obtain⟨o2,e2,g3,g4⟩:=key af 0 o1 (abo _) (by have:=bV;omega) (by rw[gm];omega);rw[gm]at g3 g4;have e2':M.qB (M.qC m) af o1 0 t=_:=e2;rw[e2'];refine⟨o2,rfl,fun x=>?_,by omega⟩;rw[g3,g1,hnm,hn];simp only[gz,fZ,dx,zo];constructor
   ·rintro ((h|h)|h)
    ·exact .inl h
    ·exact .inr (.inl h)
    ·exact .inr (.inr h)
   ·rintro (h|h|h)
    ·exact .inl (.inl h)
    ·exact .inl (.inr h)
    ·exact .inr h
  ·simp only[dE,bN];obtain⟨o2,e2,g3,g4⟩:=key af 0 out (abo _) (by have:=bV;omega) (by rw[gm];omega);rw[gm]at g3 g4;have e2':M.qB (M.qC m) af out 0 t=_:=e2;rw[e2'];refine⟨o2,rfl,fun x=>?_,by omega⟩;rw[g3,hnm,hn];simp
theorem ax2(f:ay)(l:List (List UInt8))(h:f.sz<=1048576)(hl:l.length<=1048576)(hok:fJ f=true):M.Ek f l=some ((kj f).all fun x=>l.any fun y=>x==y):=by
 rw[ay.bQ]at h;have hpl:f.Params.length<=1048576:=cD (cm aw.sz f.Params) (by omega);have hps:∀p∈f.Params,eH p.aS=true:=fun p hp=>by
  unfold fJ at hok;simp only[bC,dz]at hok;have:=hok.1.1.2.1 p hp;unfold jv at this;simp only[eL,wO,Bool.not_eq_false']at this;exact this.1.2
 have hres:eH f.Result=true:=by
  unfold fJ at hok;simp only[bC]at hok;exact hok.1.2
 have hp6:f.Params.length<=6:=by
  unfold fJ at hok;simp only[bC,bq]at hok;exact hok.1.1.1
 have zp:∀{t:aa},eH t=true->dF t=true:=fun{t} h=>by unfold eH at h;simp only[bC]at h;exact h.2
 obtain⟨o0,e0,g0,k0⟩:=OE af f.Result [] (ahL (by omega)) (by omega) (by have:=OD hres;simp;omega);have e0':M.zf f.Result []=some o0:=e0;have ax3:∀g k (o:List (List UInt8)),k<=f.Params.length->f.Params.length-k<g->o.length+24*(f.Params.length-k)<=1000->
  ∃o',M.wk l g o (k:Int) f=some (l,o')/\(∀x,x∈o'↔x∈o\/x∈(f.Params.drop k).flatMap fun p=>fR p.aS)/\o'.length<=1000:=by
  intro g
  induction g with
  |zero=>intro k o h1 h2;omega
  |succ g ih=>
   intro k o h1 h2 h3;rw[M.wk];rcases cA k f.Params.length with hk|hk
   ·have hm:=dr aw.sz _ _ (bG hk);have hty:f.Params[k].aS.sz<=1048576:=aw.tN (N:=1048576) (by omega);have ht:=hps _ (bG hk);have gB:=OD ht;obtain⟨o1,e1,g1,g2⟩:=OE af f.Params[k].aS o (ahL hty) hty (by omega);have e1':M.zf f.Params[k].aS o=some o1:=e1;simp only[aa.ai,ay.ai,getD_lt hk,e1',bz,bp,bJ,hk,bg,aA,aZ,aR,bw hk (cC hpl),aV,aX];obtain⟨o2,e2,g3,g4⟩:=ih (k+1) o1 (by omega) (by omega) (by omega);refine⟨o2,e2,fun x=>?_,g4⟩;rw[g3,g1,fu hk,List.flatMap_cons,dx,ahn (zp ht)];constructor
    ·rintro ((h|h)|h)
     ·exact .inl h
     ·exact .inr (.inl h)
     ·exact .inr (.inr h)
    ·rintro (h|h|h)
     ·exact .inl (.inl h)
     ·exact .inl (.inr h)
     ·exact .inr h
   ·have:k=f.Params.length:=by omega
    subst this;have:decide (((f.Params.length:Nat):Int)<((f.Params.length:Nat):Int))=false:=by simp
    rw[this,gP];exact⟨o,rfl,fun x=>by simp,by omega⟩
 obtain⟨all,ea,ga,la⟩:=ax3 af 0 o0 (abo _) (by have:=bV;omega) (by have:=OD hres;simp at k0;omega);have ea':M.wk l af o0 0 f=some (l,all):=ea;have hmem:∀x,x∈all↔x∈kj f:=fun x=>by
  rw[ga,g0,gm];unfold kj;rw[dx,ahn (zp hres)];simp
 have inner:∀i (hi:i<all.length),M.wm l all (i:Int) af false 0=some (l,all,(i:Int),l.any fun y=>all[i]==y):=fun i hi=>by
  have k1:∀g k (met:Bool),k<=l.length->l.length-k<g->M.wm l all (i:Int) g met (k:Int)=some (l,all,(i:Int),met||(l.drop k).any fun y=>all[i]==y):=by
   intro g
   induction g with
   |zero=>intro k met h1 h2;omega
   |succ g ih=>
    intro k met h1 h2;rw[M.wm];rcases cA k l.length with hk|hk
    ·simp only[getD_lt hk,getD_lt hi,bz,bp,bJ,hk,hi,bg,aA,bZ,aZ,aR,bw hk (cC hl)];rw[ih (k+1) _ (by omega) (by omega),TK _ hk,<-Bool.or_assoc];have:(l[k]==all[i])=(all[i]==l[k]):=by rw[fW,de,de];exact eq_comm
     rw[this]
    ·have:k=l.length:=by omega
     subst this;have:decide (((l.length:Nat):Int)<((l.length:Nat):Int))=false:=by simp
     rw[this,gP];simp
  have:=k1 af 0 false (abo _) (by have:=bV;omega);simpa using this
 have outer:M.py af l all 0=some (if all.all (fun x=>l.any fun y=>x==y)then .inr ()else .inl false):=
  mJ (p:=fun x=>l.any fun y=>x==y) (F:=fun g k=>M.py g l all k) (e:=()) (b:=false) all (by omega) (fun g k hk=>by
   show M.py (g+1) l all (k:Int)=_
   rw[M.py];have hin:=inner k hk;simp only[hin,bJ,hk,bg,aA,bw hk (by omega:all.length<2^62)];cases (l.any fun y=>all[k]==y)<;>rfl) (fun g=>by
   show M.py (g+1) l all (all.length:Int)=_
   rw[M.py];simp)
 unfold M.Ek;simp only[aa.ai,ay.ai,e0',aV,ea',outer,aX,aR,aA];have hall:all.all (fun x=>l.any fun y=>x==y)=(kj f).all fun x=>l.any fun y=>x==y:=by
  rw[fW,dz,dz];exact⟨fun h x hx=>h x ((hmem x).2 hx),fun h x hx=>h x ((hmem x).1 hx)⟩
 rw[hall];cases (kj f).all fun x=>l.any fun y=>x==y<;>simp
end M
namespace M
open Go.V (inB cF af bV)
def k9(l:List (List UInt8)):Bool:=(List.range l.length).all fun k=>(k==0)||Go.V.eU (l.getD (k-1) []) (l.getD k [])
theorem OF(l:List (List UInt8))(h:l.length<=1048576):M.tJ l=some (k9 l):=by
 have key:∀g k,1<=k->k<=l.length->l.length-k<g->M.tI l g (k:Int)=some (if(List.range' k (l.length-k)).all (fun k=>Go.V.eU (l.getD (k-1) []) (l.getD k []))then .inr ()else .inl false):=by
  intro g
  induction g with
  |zero=>intro k h0 h1 h2;omega
  |succ g ih=>
   intro k h0 h1 h2;rw[M.tI];rcases cA k l.length with hk|hk
   ·have hk1:k-1<l.length:=by omega
    have hr:List.range' k (l.length-k)=k::List.range' (k+1) (l.length-(k+1)):=by
     rw[show l.length-k=(l.length-(k+1))+1 by omega];rfl
    rw[hr,kK];simp only[tO h0 (tP hk) (cC h),bz,bp,bJ,hk,hk1,bg,aA,aR,bw hk (cC h),ih (k+1) (by omega) (by omega) (by omega)];cases Go.V.eU (l.getD (k-1) []) (l.getD k [])<;>rfl
   ·have:k=l.length:=by omega
    subst this;have:decide (((l.length:Nat):Int)<((l.length:Nat):Int))=false:=by simp
    rw[this,rF];rfl
 unfold M.tJ k9;rcases lg l.length with h0|h0
 ·have:l=[]:=ja h0;subst this;obtain⟨f,hf⟩:∃f,af=f+1:=⟨af-1,by have:=bV;omega⟩;rw[hf,M.tI];rfl
 ·have e:=key af 1 (bY _) h0 (by have:=bV;omega);have e':M.tI l af 1=_:=e;rw[e'];have hr:List.range l.length=0::List.range' 1 (l.length-1):=by
   rw[List.range_eq_range',show l.length=(l.length-1)+1 by omega];rfl
  have hc:(List.range' 1 (l.length-1)).all (fun k=>(k==0)||Go.V.eU (l.getD (k-1) []) (l.getD k []))=(List.range' 1 (l.length-1)).all (fun k=>Go.V.eU (l.getD (k-1) []) (l.getD k [])):=by
   rw[fW,dz,dz];have hp:∀k∈List.range' 1 (l.length-1),(k==0)=false:=fun k hk=>by
    rw[List.mem_range']at hk;obtain⟨i,_,rfl⟩:=hk;rw[dS];omega
   exact⟨fun h k hk=>by have:=h k hk;rwa [hp k hk,gq]at this,fun h k hk=>by rw[hp k hk,gq];exact h k hk⟩
  rw[hr,kK,hc];simp only[lF,bZ,aZ];cases (List.range' 1 (l.length-1)).all (fun k=>Go.V.eU (l.getD (k-1) []) (l.getD k []))<;>simp
def mG(R:List (List UInt8))(x:aF):Bool:=(cY x.Name&&fJ x.aS)&&(kj x.aS).all fun n=>R.any fun y=>n==y
def lI(f:ar):Bool:=
 (((cY f.dn&&cY f.Name)&&mM f.Version)&&(decide (f.bI.length<=4)&&decide (f.Funcs.length<=8)))&&
   ((k9 f.bI&&f.bI.all cY)&&(f.Funcs.all (mG f.bI)&&k9 (f.Funcs.map aF.Name)))
theorem Gs(n m:Nat):decide (((m:Nat):Int)<((n:Nat):Int))= !decide (n<=m):=by
 rw[fW];simp only[eL,bq,dR];omega
theorem gt4(n:Nat):decide ((4:Int)<((n:Nat):Int))= !decide (n<=4):=Gs n 4
theorem gt8(n:Nat):decide ((8:Int)<((n:Nat):Int))= !decide (n<=8):=Gs n 8
theorem ax5{l:List aF}(k:Nat):(l.map aF.Name).getD k []=(l.getD k aF.zero).Name:=by
 rw[dG,dG,f5];cases l[k]?<;>rfl
theorem ax6(f:ar)(h:f.sz<=1048576):M.Em f=some (lI f):=by
 rw[ar.bQ]at h;have hrl:f.bI.length<=1048576:=cD (cm List.length f.bI) (by omega);have hfl:f.Funcs.length<=1048576:=cD (cm aF.sz f.Funcs) (by omega);have hn1:=rM f.dn (by omega);have hn2:=rM f.Name (by omega);have hv:=TM f.Version;have l0:M.pv f af 0=some (if(List.range f.bI.length).all (fun i=>cY (f.bI.getD i [])&&((i==0)||Go.V.eU (f.bI.getD (i-1) []) (f.bI.getD i [])))then .inr f else .inl false):=
  lJ (p:=fun i=>cY (f.bI.getD i [])&&((i==0)||Go.V.eU (f.bI.getD (i-1) []) (f.bI.getD i []))) (F:=fun g k=>M.pv f g k) (e:=f) (b:=false) f.bI.length (by omega) (fun g k hk=>by
   show M.pv f (g+1) (k:Int)=_
   rw[M.pv];have hnm:=rM (f.bI.getD k []) (by rw[getD_lt hk];have:=dr List.length _ _ (bG hk);omega);rcases lg k with h0|h0
   ·subst h0;simp only[hnm,bz,bp,bJ,hk,bg,aA,aZ,aR,bw hk (cC hrl),aV,aX,bZ];cases cY (f.bI.getD 0 [])<;>simp
   ·have hk1:k-1<f.bI.length:=by omega
    have hp:decide ((0:Int)<(k:Int))=true:=by rw[bq];omega
    have hz:(k==0)=false:=by rw[dS];omega
    simp only[hnm,tO h0 (tP hk) (cC hrl),hp,hz,bz,bp,bJ,hk,hk1,bg,aA,aZ,aR,bw hk (cC hrl),aV,aX,bZ,gq];cases cY (f.bI.getD k [])<;>cases Go.V.eU (f.bI.getD (k-1) []) (f.bI.getD k [])<;>rfl) (fun g=>by
   show M.pv f (g+1) (f.bI.length:Int)=_
   rw[M.pv];simp)
 have l1:M.pz f af 0=some (if(List.range f.Funcs.length).all (fun i=>mG f.bI (f.Funcs.getD i aF.zero)&&((i==0)||Go.V.eU (f.Funcs.getD (i-1) aF.zero).Name (f.Funcs.getD i aF.zero).Name))then .inr ()else .inl false):=
  lJ (p:=fun i=>mG f.bI (f.Funcs.getD i aF.zero)&&((i==0)||Go.V.eU (f.Funcs.getD (i-1) aF.zero).Name (f.Funcs.getD i aF.zero).Name)) (F:=fun g k=>M.pz f g k) (e:=()) (b:=false) f.Funcs.length (by omega) (fun g k hk=>by
   show M.pz f (g+1) (k:Int)=_
   rw[M.pz];have hm:=dr aF.sz _ _ (bG hk);have hsz:=aF.bQ f.Funcs[k];have hnm:=rM f.Funcs[k].Name (by omega);have hfn:=ax7 f.Funcs[k].aS (by omega);have hkn:=ax2 f.Funcs[k].aS f.bI (by omega) hrl;have fin:∀(r:Bool),((k==0)||Go.V.eU (f.Funcs.getD (k-1) aF.zero).Name (f.Funcs.getD k aF.zero).Name)=r->(decide ((0:Int)<(k:Int))&& !Go.V.eU (f.Funcs.getD (Int.toNat (Go.IntKind.wrap .i64 ((k:Int)-1))) aF.zero).Name (f.Funcs[k]).Name)= !r/\
    (inB (Go.IntKind.wrap .i64 ((k:Int)-1)) f.Funcs.length|| !(decide ((0:Int)<(k:Int))))=true:=fun r hr=>by
    rcases lg k with h0|h0
    ·subst h0;simp at hr⊢;exact hr.symm ▸ rfl
    ·have hk1:k-1<f.Funcs.length:=by omega
     have hp:decide ((0:Int)<(k:Int))=true:=by rw[bq];omega
     have hz:(k==0)=false:=by rw[dS];omega
     rw[tO h0 (tP hk) (cC hfl),hp,bz,bp];rw[hz,gq,getD_lt hk]at hr;rw[hr];simp[hk1]
   generalize hr:((k==0)||Go.V.eU (f.Funcs.getD (k-1) aF.zero).Name (f.Funcs.getD k aF.zero).Name)=r;obtain⟨f1,f2⟩:=fin r hr;simp only[ay.ai,getD_lt hk,hnm,hfn,f1,bz,bp,bJ,hk,bg,aA,aZ,aR,bw hk (cC hfl),aV,aX,bZ];have hin:∀b:Bool,(inB (Go.IntKind.wrap .i64 ((k:Int)-1)) f.Funcs.length||(!(b&&(decide ((0:Int)<(k:Int))==true))))=true:=fun b=>by
    cases b
    ·simp
    ·revert f2
     cases inB (Go.IntKind.wrap .i64 ((k:Int)-1)) f.Funcs.length<;>cases decide ((0:Int)<(k:Int))<;>simp
   simp only[hin,aR,aZ];unfold mG;cases hN:cY f.Funcs[k].Name
   ·simp
   ·cases r
    ·simp
    ·cases hF:fJ f.Funcs[k].aS
     ·simp
     ·rw[hkn hF];cases ((kj f.Funcs[k].aS).all fun n=>f.bI.any fun y=>n==y)<;>simp) (fun g=>by
   show M.pz f (g+1) (f.Funcs.length:Int)=_
   rw[M.pz];simp)
 rw[EN,EO cY f.bI []]at l0;rw[EN,EO (mG f.bI) f.Funcs aF.zero]at l1;have hr1:(List.range f.bI.length).all (fun i=>(i==0)||Go.V.eU (f.bI.getD (i-1) []) (f.bI.getD i []))=k9 f.bI:=rfl;have hr2:(List.range f.Funcs.length).all (fun i=>(i==0)||Go.V.eU (f.Funcs.getD (i-1) aF.zero).Name (f.Funcs.getD i aF.zero).Name)=k9 (f.Funcs.map aF.Name):=by
  unfold k9;simp only[cr,ax5]
 rw[hr1]at l0;rw[hr2]at l1;unfold M.Em lI;simp only[hn1,hn2,hv,l0,gt4,gt8,aV,aX,bZ,aR,aZ,aA];cases cY f.dn<;>cases cY f.Name<;>cases mM f.Version<;>cases decide (f.bI.length<=4)<;>cases decide (f.Funcs.length<=8)<;>try rfl
 cases f.bI.all cY<;>cases k9 f.bI<;>try rfl
 simp only[dE,tQ,bN,cK,eY,l1];cases f.Funcs.all (mG f.bI)<;>cases k9 (f.Funcs.map aF.Name)<;>rfl
theorem MH(l:List (List UInt8))(v:List UInt8)(hl:l.length<=1048576):M.rJ l v=some (l.any fun y=>v==y):=by
 have e:=fY (p:=fun y=>v==y) (F:=M.wv l v (l.length:Int)) (e:=()) (fun k=>k) l (by omega) (fun g k hk=>by
  rw[M.wv];simp only[getD_lt hk,bz,bp,bJ,hk,bg,aA,aR,bw hk (by omega:l.length<2^62)]
  ) (fun g=>by rw[M.wv];simp)
 unfold M.rJ M.J8;rw[e,jJ];cases l.findIdx? (fun y=>v==y)<;>simp
theorem ax8(f:ar)(h:f.sz<=1048576):M.EA f=some (lI f):=by
 rw[ar.bQ]at h;have hrl:f.bI.length<=1048576:=cD (cm List.length f.bI) (by omega);have hfl:f.Funcs.length<=1048576:=cD (cm aF.sz f.Funcs) (by omega);have hn1:=rN f.dn (by omega);have hn2:=rN f.Name (by omega);have hv:=TP f.Version (by omega);have EP:=OF f.bI hrl;have hc2:M.Es f.bI=some (f.bI.any fun s=> !cY s):=by
  have e:=fY (p:=fun s=> !cY s) (F:=M.wo f.bI (f.bI.length:Int)) (e:=()) (fun k=>k) f.bI (by omega) (fun g k hk=>by
   rw[M.wo];have hn:f.bI[k].length<=1048576:=by have:=dr List.length _ _ (bG hk);omega
   have hc:M.Ep f.bI[k]=some (!cY f.bI[k]):=by unfold M.Ep;rw[rN _ hn];rfl
   simp only[getD_lt hk,hc,bz,bp,bJ,hk,bg,aA,aZ,aR,bw hk (by omega:f.bI.length<2^62),aV,aX]) (fun g=>by rw[M.wo];simp)
  unfold M.Es M.J2;rw[e,jJ];cases f.bI.findIdx? (fun s=> !cY s)<;>simp
 have hc3:∀l:List (List UInt8),l.length<=8388608->M.Ez l f=some (l.any fun n=> !(f.bI.any fun y=>n==y)):=fun l hl=>by
  have e:=fY (p:=fun n=> !(f.bI.any fun y=>n==y)) (F:=M.wx l f (l.length:Int)) (e:=()) (fun k=>k) l (by omega) (fun g k hk=>by
   rw[M.wx];have hc:M.Ey l[k] f=some (!(f.bI.any fun y=>l[k]==y)):=by unfold M.Ey;rw[MH _ _ hrl];rfl
   simp only[getD_lt hk,hc,bz,bp,bJ,hk,bg,aA,aZ,aR,bw hk (by omega:l.length<2^62),aV,aX]) (fun g=>by rw[M.wx];simp)
  unfold M.Ez M.Ko;rw[e,jJ];cases l.findIdx? (fun n=> !(f.bI.any fun y=>n==y))<;>simp
 have hres:∀k (hk:k<f.Funcs.length),(kj f.Funcs[k].aS).length<=8388608:=fun k hk=>by
  have hm:=dr aF.sz _ _ (bG hk);have hsz:=aF.bQ f.Funcs[k];have hsz2:=ay.bQ f.Funcs[k].aS;unfold kj;rw[bA];have h1:=zl f.Funcs[k].aS.Result;have h2:=EL f.Funcs[k].aS.Result;have h3:=aho (l:=f.Funcs[k].aS.Params) (by omega) f.Funcs[k].aS.Params.length;rw[iJ]at h3;have h4:=cm aw.sz f.Funcs[k].aS.Params;omega
 have key:∀g k,k<=f.Funcs.length->f.Funcs.length-k<g->M.tM f.Funcs (f.Funcs.length:Int) f g (k:Int) ((f.Funcs.take k).map aF.Name)=some (if(f.Funcs.drop k).all (mG f.bI)then .inr (f.Funcs.map aF.Name)else .inl false):=by
  intro g
  induction g with
  |zero=>intro k h1 h2;omega
  |succ g ih=>
   intro k h1 h2;rcases cA k f.Funcs.length with hk|hk
   ·rw[M.tM];have hm:=dr aF.sz _ _ (bG hk);have hsz:=aF.bQ f.Funcs[k];have hnm:=rN f.Funcs[k].Name (by omega);have hfn:=ax9 f.Funcs[k].aS (by omega);have hfr:=axZ f.Funcs[k].aS (by omega);have hcc:=hc3 _ (hres k hk);have hd:decide ((((f.Funcs.take k).map aF.Name).length+([f.Funcs[k].Name]:List (List UInt8)).length)<=1073741824)=true:=by
     simp only[bq,cr,ib,aO,aU];omega
    have ht:(f.Funcs.take k).map aF.Name++[f.Funcs[k].Name]=(f.Funcs.take (k+1)).map aF.Name:=by
     rw[ka,wQ,ct hk];rfl
    simp only[ay.ai,getD_lt hk,hnm,hfn,hfr,hcc,bz,bp,bJ,hk,bg,aA,aZ,aR,bw hk (cC hfl),aV,aX,bZ,hd,ht];rw[ih (k+1) (by omega) (by omega),OG _ hk];unfold mG;have hna:((kj f.Funcs[k].aS).any fun n=> !(f.bI.any fun y=>n==y))= !((kj f.Funcs[k].aS).all fun n=>f.bI.any fun y=>n==y):=by rw[wK]
    rw[hna];cases cY f.Funcs[k].Name<;>cases fJ f.Funcs[k].aS<;>cases ((kj f.Funcs[k].aS).all fun n=>f.bI.any fun y=>n==y)<;>simp
   ·have:k=f.Funcs.length:=by omega
    subst this;rw[M.tM];simp
 have e:=key af 0 (abo _) (by have:=bV;omega);have e':M.tM f.Funcs (f.Funcs.length:Int) f af 0 []=_:=e;rw[gm]at e';have aya:=OF (f.Funcs.map aF.Name) (by rw[cr];exact hfl);have hna:(f.bI.any fun s=> !cY s)= !f.bI.all cY:=by rw[wK]
 unfold M.EA lI;simp only[hn1,hn2,hv,EP,hc2,hna,e',gt4,gt8,aV,aX,bZ,aR,aZ,aA];cases cY f.dn<;>cases cY f.Name<;>cases mM f.Version<;>cases decide (f.bI.length<=4)<;>cases decide (f.Funcs.length<=8)<;>try rfl
 cases f.bI.all cY<;>cases k9 f.bI<;>try rfl
 simp only[dE,tQ,bN,cK,aZ];cases f.Funcs.all (mG f.bI)
 ·rfl
 ·simp only[eY,aya,aV,aX,aA,aZ]
theorem Gq(f:ar)(h:f.sz<=1048576):M.kO f=some ((f.dn++[47])++f.Name):=by
 rw[ar.bQ]at h;unfold M.kO;rw[qH (by simp;omega),qH (by simp;omega)];rfl
theorem AS(f:ar)(h:f.sz<=1048576):M.jr f=some ((f.dn++[47])++f.Name):=by
 rw[ar.bQ]at h;unfold M.jr;rw[qH (by simp;omega),qH (by simp;omega)];rfl
end M
namespace M
open Go.V (inB cF af bV)
def jb(t:aa):Bool:=gC (fun k=>(k==22)||(k==23)) t
def jw(f:ay):Bool:= !f.Async&& !(f.Params.any (fun p=>jb p.aS)||jb f.Result)
theorem ahr(t:aa)(h:t.sz<=1048576):M.jH t 22 23=some (jb t):=by
 rw[show M.jH=M.lO af from rfl,Kx 22 23 af _ (ahL h) h];congr 1;exact congrFun (zq fun k=>by
  rw[fW];simp only[bC,bq,eC,de];omega) t
theorem ayb(t:aa)(h:t.sz<=1048576):M.kf t [22,23]=some (jb t):=by
 rw[show M.kf=M.mg af from rfl,Ky [22,23] (by simp) af _ (ahL h) h];congr 1;exact congrFun (zq fun k=>by simp) t
theorem ayc(f:ay)(h:f.sz<=1048576):M.En f=some (jw f):=by
 rw[ay.bQ]at h;have hl:f.Params.length<=1048576:=cD (cm aw.sz f.Params) (by omega);have e:M.pA af 0 f=some (if f.Params.all (fun p=> !jb p.aS)then .inr ()else .inl false):=
  mJ (p:=fun p=> !jb p.aS) (F:=fun g k=>M.pA g k f) (e:=()) (b:=false) f.Params (by omega) (fun g k hk=>by
   show M.pA (g+1) (k:Int) f=_
   rw[M.pA];have hm:=dr aw.sz _ _ (bG hk);have ht:=ahr f.Params[k].aS (aw.tN (N:=1048576) (by omega));simp only[aa.ai,ay.ai,getD_lt hk,ht,bz,bp,bJ,hk,bg,aA,aZ,aR,bw hk (cC hl),aV,aX];cases jb f.Params[k].aS<;>rfl) (fun g=>by
   show M.pA (g+1) (f.Params.length:Int) f=_
   rw[M.pA];simp)
 have hr:=ahr f.Result (by omega);unfold M.En jw;simp only[aa.ai,ay.ai,hr,e,aV,aX,bZ,aR,aA];have ha:f.Params.all (fun p=> !jb p.aS)= !(f.Params.any fun p=>jb p.aS):=by rw[List.not_any_eq_all_not]
 rw[ha];cases f.Async<;>cases jb f.Result<;>cases (f.Params.any fun p=>jb p.aS)<;>rfl
theorem ayd(f:ay)(h:f.sz<=1048576):M.qo f=some (f.Params.map aw.aS):=by
 rw[ay.bQ]at h;have hl:f.Params.length<=1048576:=cD (cm aw.sz f.Params) (by omega);have key:∀g k,k<=f.Params.length->f.Params.length-k<g->M.mX f.Params (f.Params.length:Int) g (k:Int) ((f.Params.take k).map aw.aS)=some (f.Params.map aw.aS):=by
  intro g
  induction g with
  |zero=>intro k h1 h2;omega
  |succ g ih=>
   intro k h1 h2;rw[M.mX];rcases cA k f.Params.length with hk|hk
   ·have hd:decide ((((f.Params.take k).map aw.aS).length+([f.Params[k].aS]:List aa).length)<=1073741824)=true:=by
     simp only[bq,cr,ib,aO,aU];omega
    have ht:(f.Params.take k).map aw.aS++[f.Params[k].aS]=(f.Params.take (k+1)).map aw.aS:=by
     rw[ka,wQ,ct hk];rfl
    simp only[aa.ai,getD_lt hk,bz,bp,bJ,hk,bg,aA,aZ,aR,bw hk (cC hl),hd,ht];exact ih (k+1) (by omega) (by omega)
   ·have:k=f.Params.length:=by omega
    subst this;have:decide (((f.Params.length:Nat):Int)<((f.Params.length:Nat):Int))=false:=by simp
    rw[this,iJ];rfl
 have e:=key af 0 (abo _) (by have:=bV;omega);unfold M.qo;have e':M.mX f.Params (f.Params.length:Int) af 0 []=_:=e;rw[e']
theorem aye(l:List aa)(hl:l.length<=2097152)(hs:∀x∈l,x.sz<=1048576):M.EC l=some (l.any jb):=by
 have e:=fY (p:=jb) (F:=M.wy l (l.length:Int)) (e:=()) (fun k=>k) l (by omega) (fun g k hk=>by
  rw[M.wy];have hc:M.EB l[k]=some (jb l[k]):=by
   unfold M.EB;rw[aa.ai,ayb _ (hs _ (bG hk))];rfl
  simp only[aa.ai,getD_lt hk,hc,bz,bp,bJ,hk,bg,aA,aZ,aR,bw hk (by omega:l.length<2^62),aV,aX]) (fun g=>by rw[M.wy];simp)
 unfold M.EC M.Ks;rw[e,jJ];cases l.findIdx? jb<;>simp
theorem ayf(f:ay)(h:f.sz<=1048576):M.ED f=some (jw f):=by
 have hp:=ayd f h;rw[ay.bQ]at h;have hl:f.Params.length<=1048576:=cD (cm aw.sz f.Params) (by omega);have hc:=aye (f.Params.map aw.aS++[f.Result]) (by simp;omega) (fun x hx=>by
  rcases dx.1 hx with hx|hx
  ·obtain⟨p,hp,rfl⟩:=jB.1 hx;have hm:=dr aw.sz _ _ hp;exact aw.tN (N:=1048576) (by omega)
  ·simp at hx;subst hx;omega)
 have hd:decide (((f.Params.map aw.aS).length+([f.Result]:List aa).length)<=1073741824)=true:=by
  simp only[bq,cr,aO,aU];omega
 have ha:(f.Params.map aw.aS++[f.Result]).any jb=(f.Params.any (fun p=>jb p.aS)||jb f.Result):=by
  rw[List.any_append,List.any_map];simp;rfl
 unfold M.ED jw;cases hA:f.Async
 ·simp only[ay.ai,aa.ai,hp,hc,hd,ha,iP,aA,aV,aX];simp
 ·simp
def mH(f:ar):Bool:=lI f&&f.Funcs.all fun x=>jw x.aS
def dB(f:ar):List UInt8:=(f.dn++[47])++f.Name
def gU(l:List ar):Bool:=decide (l.length<=6)&&(l.all mH&&k9 (l.map dB))
theorem gt6(n:Nat):decide ((6:Int)<((n:Nat):Int))= !decide (n<=6):=Gs n 6
theorem ahs{l:List ar}(k:Nat)(hk:k<l.length):(l.map dB).getD k []=dB l[k]:=by
 rw[getD_lt (by simpa using hk),uK]
theorem TN(l:List ar)(h:az ar.sz l<=1048576):M.yl l=some (gU l):=by
 have hl:l.length<=1048576:=cD (cm ar.sz l) h;have hsz:∀k (hk:k<l.length),l[k].sz<=1048576:=fun k hk=>by have:=dr ar.sz _ _ (bG hk);omega
 have inner:∀i (hi:i<l.length),M.tH l (i:Int) af 0=some (if l[i].Funcs.all (fun x=>jw x.aS)then .inr (l,(i:Int))else .inl false):=fun i hi=>by
  have hs:=hsz i hi;rw[ar.bQ]at hs;have hfl:l[i].Funcs.length<=1048576:=cD (cm aF.sz l[i].Funcs) (by omega);exact mJ (p:=fun x=>jw x.aS) (F:=M.tH l (i:Int)) (e:=(l,(i:Int))) (b:=false) l[i].Funcs (by omega) (fun g k hk=>by
   rw[M.tH];have hm:=dr aF.sz _ _ (bG hk);have hsz:=aF.bQ l[i].Funcs[k];have hp:=ayc l[i].Funcs[k].aS (by omega);simp only[ay.ai,getD_lt hi,getD_lt hk,hp,bz,bp,bJ,hk,hi,bg,aA,aZ,aR,bw hk (cC hfl),aV,aX];cases jw l[i].Funcs[k].aS<;>rfl) (fun g=>by
   rw[M.tH];simp only[getD_lt hi,bz,bp,hi,bg];simp)
 have outer:M.pB af l 0=some (if(List.range l.length).all (fun i=>mH (l.getD i ar.zero)&&((i==0)||Go.V.eU ((l.map dB).getD (i-1) []) ((l.map dB).getD i [])))then .inr ()else .inl false):=
  lJ (p:=fun i=>mH (l.getD i ar.zero)&&((i==0)||Go.V.eU ((l.map dB).getD (i-1) []) ((l.map dB).getD i []))) (F:=fun g k=>M.pB g l k) (e:=()) (b:=false) l.length (by omega) (fun g k hk=>by
   show M.pB (g+1) l (k:Int)=_
   rw[M.pB];have hf:=ax6 l[k] (hsz k hk);have hn:M.jr l[k]=some (dB l[k]):=AS l[k] (hsz k hk);have hin:=inner k hk;unfold mH;rcases lg k with h0|h0
   ·subst h0;have hd0:decide ((0:Int)<((0:Nat):Int))=false:=rfl;simp only[getD_lt hk,hf,hn,hin,hd0,bz,bp,bJ,hk,bg,aA,aZ,aR,bw hk (cC hl),aV,aX,bZ,mE,jC,lF];cases lI l[0]
    ·simp
    ·cases l[0].Funcs.all fun x=>jw x.aS
     ·simp
     ·have hw1:Go.IntKind.wrap .i64 1=1:=wrap_i64 (by omega) (by omega);simp[hw1]
   ·have hk1:k-1<l.length:=by omega
    have hp:decide ((0:Int)<(k:Int))=true:=by rw[bq];omega
    have hz:(k==0)=false:=by rw[dS];omega
    have hn1:M.jr l[k-1]=some (dB l[k-1]):=AS l[k-1] (hsz _ hk1);simp only[ahs k hk,ahs (k-1) hk1,getD_lt hk,getD_lt hk1,hf,hn,hn1,hin,hp,hz,tO h0 (tP hk) (cC hl),bz,bp,bJ,hk,hk1,bg,aA,aZ,aR,bw hk (cC hl),aV,aX,bZ,gq];cases lI l[k]
    ·simp
    ·cases Go.V.eU (dB l[k-1]) (dB l[k])
     ·simp
     ·cases l[k].Funcs.all fun x=>jw x.aS
      ·simp
      ·simp[bw hk (cC hl)]) (fun g=>by
   show M.pB (g+1) l (l.length:Int)=_
   rw[M.pB];simp)
 rw[EN,EO mH l ar.zero]at outer;have hr:(List.range l.length).all (fun i=>(i==0)||Go.V.eU ((l.map dB).getD (i-1) []) ((l.map dB).getD i []))=k9 (l.map dB):=by
  unfold k9;rw[cr]
 rw[hr]at outer;unfold M.yl gU;rw[gt6,outer];cases decide (l.length<=6)
 ·rfl
 ·cases l.all mH<;>cases k9 (l.map dB)<;>rfl
theorem TQ(l:List ar)(h:az ar.sz l<=1048576):M.yy l=some (gU l):=by
 have hl:l.length<=1048576:=cD (cm ar.sz l) h;have hsz:∀k (hk:k<l.length),l[k].sz<=1048576:=fun k hk=>by have:=dr ar.sz _ _ (bG hk);omega
 have hcf:∀f:ar,f.sz<=1048576->M.EF f.Funcs=some (f.Funcs.any fun x=> !jw x.aS):=fun f hf=>by
  rw[ar.bQ]at hf;have hfl:f.Funcs.length<=1048576:=cD (cm aF.sz f.Funcs) (by omega);have e:=fY (p:=fun x:aF=> !jw x.aS) (F:=M.wA f.Funcs (f.Funcs.length:Int)) (e:=()) (fun k=>k) f.Funcs (by omega) (fun g k hk=>by
   rw[M.wA];have hm:=dr aF.sz _ _ (bG hk);have hsz:=aF.bQ f.Funcs[k];have hc:M.EE f.Funcs[k]=some (!jw f.Funcs[k].aS):=by
    unfold M.EE;rw[ay.ai,ayf _ (by omega)];rfl
   simp only[aF.ai,getD_lt hk,hc,bz,bp,bJ,hk,bg,aA,aZ,aR,bw hk (cC hfl),aV,aX]) (fun g=>by rw[M.wA];simp)
  unfold M.EF M.Ku;rw[e,jJ];cases f.Funcs.findIdx? (fun x=> !jw x.aS)<;>simp
 have key:∀g k,k<=l.length->l.length-k<g->M.wB l l (l.length:Int) g (k:Int) ((l.take k).map dB)=some (if(l.drop k).all mH then .inr (l,l.map dB)else .inl false):=by
  intro g
  induction g with
  |zero=>intro k h1 h2;omega
  |succ g ih=>
   intro k h1 h2;rw[M.wB];rcases cA k l.length with hk|hk
   ·have hf:=ax8 l[k] (hsz k hk);have hn:M.kO l[k]=some (dB l[k]):=Gq l[k] (hsz k hk);have hc:=hcf l[k] (hsz k hk);have hd:decide ((((l.take k).map dB).length+([dB l[k]]:List (List UInt8)).length)<=1073741824)=true:=by
     simp only[bq,cr,ib,aO,aU];omega
    have ht:(l.take k).map dB++[dB l[k]]=(l.take (k+1)).map dB:=by
     rw[ka,wQ,ct hk];rfl
    have hna:(l[k].Funcs.any fun x=> !jw x.aS)= !(l[k].Funcs.all fun x=>jw x.aS):=by rw[wK]
    simp only[getD_lt hk,hf,hn,hc,hna,bz,bp,bJ,hk,bg,aA,aZ,aR,bw hk (cC hl),aV,aX,bZ,hd,ht];rw[ih (k+1) (by omega) (by omega),OG _ hk];unfold mH;cases lI l[k]<;>cases (l[k].Funcs.all fun x=>jw x.aS)<;>simp
   ·have:k=l.length:=by omega
    subst this;have:decide (((l.length:Nat):Int)<((l.length:Nat):Int))=false:=by simp
    rw[this,gP,iJ];rfl
 have e:=key af 0 (abo _) (by have:=bV;omega);have e':M.wB l l (l.length:Int) af 0 []=_:=e;rw[gm]at e';have EP:=OF (l.map dB) (by rw[cr];exact hl);have e6:decide (((l.length:Nat):Int)<=6)=decide (l.length<=6):=by simp only[eZ];omega
 unfold M.yy gU;rw[e'];cases l.all mH
 ·simp
 ·simp only[eY,EP,e6,aV,aX,bZ,aZ,aR,aA]
end M
