/-
  VERSIONS: what the program and the reference find of them.
-/
import Derived.Test.YtnkkcmdomlkdmaaGreatDoorXETP
import Derived.Test.YtnkkcmdomlkdmaaGreatDoorXVER
set_option linter.unusedVariables false
set_option linter.unusedSimpArgs false
namespace M
open Go.V (inB cJ af bU)
def nq(s:List UInt8):Bool:=(dP.xp s).isSome
theorem aAk(s:List UInt8):(match M.ft s with|(v,b)=>if b=true/\(0<=v/\v<=999)then some v.toNat else none)=dP.qe s:=by
 unfold M.ft dP.qe;cases Go.Lib.parseIntB 64 s with
 |ok v=>
  simp only;by_cases h:Go.Lib.itoa v=s
  ·rw[cz h];simp only[h,qk]
  ·rw[aw h];simp[h]
 |_=>simp
theorem PV(s:List UInt8):(dP.qe s=none/\((!(M.ft s).2)||(!(decide ((0:Int)<=(M.ft s).1)&&decide ((M.ft s).1<=999))))=true)\/∃n:Nat,dP.qe s=some n/\n<=999/\(M.ft s).1=(n:Int)/\((!(M.ft s).2)||(!(decide ((0:Int)<=(M.ft s).1)&&decide ((M.ft s).1<=999))))=false:=by
 have h:=aAk s;generalize M.ft s=p at h;obtain⟨v,b⟩:=p;simp only at h⊢;by_cases hc:b=true/\(0<=v/\v<=999)
 ·rw[cz hc]at h;exact .inr ⟨v.toNat,h.symm,by omega,by omega,by simp[hc.1,hc.2.1,hc.2.2]⟩
 ·rw[aw hc]at h;refine .inl ⟨h.symm,?_⟩;cases b
  ·rfl
  ·simp only[eH,nN,fj,Bool.and_eq_false_iff,cm];simp only[qk]at hc;omega
theorem aAl(s:List UInt8):∀p∈dP.eF s,p.length<=s.length:=by
 have key:∀(s:List UInt8),∀p∈dP.eF s,p.length<=s.length:=by
  intro s
  induction s with
  |nil=>intro p hp;simp[dP.eF]at hp;subst hp;simp
  |cons c r ih=>
   intro p hp;unfold dP.eF at hp;split at hp
   ·rcases gz.1 hp with rfl|hp
    ·simp
    ·have:=ih p hp;simp;omega
   ·split at hp
    ·rename_i x y e;rw[e]at ih;rcases gz.1 hp with rfl|hp
     ·have:=ih x (by simp);simp;omega
     ·have:=ih p (by simp[hp]);simp;omega
    ·simp at hp;subst hp;simp
 exact key s
theorem U5(s:List UInt8)(h:s.length<=1048576):M.v8 s=some (nq s):=by
 have hs:M.strings_Split s [46]=some (dP.eF s):=by
  unfold M.strings_Split;have:decide (s.length<4294967281)=true:=by rw[bw];omega
  rw[this];rfl
 have hrd:∀p∈dP.eF s,M.qZ p=some (M.ft p):=fun p hp=>by
  have:=aAl s p hp;unfold M.qZ;have:decide (p.length<=281474976710656)=true:=by rw[bw];omega
  rw[this];rfl
 have hv:∃v:Int×Bool,M.EV s=some v/\v.2=nq s:=by
  unfold M.EV nq dP.xp;rw[hs];simp only[aR,aT,az,aQ,cr]
  match hp:dP.eF s,hrd with
  |[],_=>exact⟨_,rfl,rfl⟩
  |[a],_=>exact⟨_,rfl,rfl⟩
  |[a,b],_=>exact⟨_,rfl,rfl⟩
  |a::b::c::d::r,_=>
   have:((((a::b::c::d::r).length:Nat):Int) !=3)=true:=by
    simp only[aZ,qj];omega
   rw[this];exact⟨_,rfl,rfl⟩
  |[a,b,c],hrd=>
    have h3:((((([a,b,c]:List (List UInt8)).length:Nat):Int) !=3))=false:=rfl;rw[h3];simp only[ef];obtain⟨f0,hf0⟩:∃f0,af=f0+4:=⟨af-4,by have:=bU;omega⟩;have ra:=hrd a (by simp);have rb:=hrd b (by simp);have rc:=hrd c (by simp);have st:∀(f:Nat)(n:Int)(k:Nat)(p:List UInt8)(hk:k<3),([a,b,c].getD k [])=p->M.qZ p=some (M.ft p)->M.qY [a,b,c] ((([a,b,c]:List (List UInt8)).length:Nat):Int) (f+1) n (k:Int)=
     bif((!(M.ft p).2)||(!(decide ((0:Int)<=(M.ft p).1)&&decide ((M.ft p).1<=999))))then some (.inl (0,false))else M.qY [a,b,c] ((([a,b,c]:List (List UInt8)).length:Nat):Int) f (Go.IntKind.wrap .i64 (Go.IntKind.wrap .i64 (n*1000)+(M.ft p).1)) ((k+1:Nat):Int):=fun f n k p hk hg hr=>by
     rw[M.qY];have hlt:decide ((k:Int)<((([a,b,c]:List (List UInt8)).length:Nat):Int))=true:=by simp;omega
     have hin:inB (k:Int) ([a,b,c]:List (List UInt8)).length=true:=by rw[bn];simp;omega
     simp only[hlt,cr,bz,hg,hr,aR,aT,hin,az,aQ,bo (show k<3 from hk) (by omega)]
    have e0:=st (f0+3) 0 0 a (by omega) rfl ra;rw[hf0];change M.qY [a,b,c] ((([a,b,c]:List (List UInt8)).length:Nat):Int) (f0+4) 0 0=_ at e0;rw[e0];rcases PV a with⟨ha,ca⟩|⟨x,ha,hx,ea,ca⟩
    ·rw[ca,ha];exact⟨_,rfl,rfl⟩
    rw[ca,ha];have w1:Go.IntKind.wrap .i64 (Go.IntKind.wrap .i64 ((0:Int)*1000)+(M.ft a).1)=(x:Int):=by
     rw[ea,wrap_i64 (n:=0*1000) (by omega) (by omega),wrap_i64 (by omega) (by omega)];omega
    rw[ef,w1,st (f0+2) _ 1 b (by omega) rfl rb];rcases PV b with⟨hb,cb⟩|⟨y,hb,hy,eb,cb⟩
    ·rw[cb,hb];exact⟨_,rfl,rfl⟩
    rw[cb,hb];have w2:Go.IntKind.wrap .i64 (Go.IntKind.wrap .i64 ((x:Int)*1000)+(M.ft b).1)=((x*1000+y:Nat):Int):=by
     rw[eb,wrap_i64 (show -9223372036854775808<=(x:Int)*1000 by omega) (by omega),wrap_i64 (by omega) (by omega)];omega
    rw[ef,w2,st (f0+1) _ 2 c (by omega) rfl rc];rcases PV c with⟨hc,cc⟩|⟨z,hc,hz,ec,cc⟩
    ·rw[cc,hc];exact⟨_,rfl,rfl⟩
    rw[cc,hc];have w3:Go.IntKind.wrap .i64 (Go.IntKind.wrap .i64 (((x*1000+y:Nat):Int)*1000)+(M.ft c).1)=(((x*1000+y)*1000+z:Nat):Int):=by
     rw[ec,wrap_i64 (show -9223372036854775808<=((x*1000+y:Nat):Int)*1000 by omega) (by omega),wrap_i64 (by omega) (by omega)];omega
    rw[ef,w3,M.qY];exact⟨_,rfl,rfl⟩
 obtain⟨v,h1,h2⟩:=hv;unfold M.v8;rw[h1];simp only[aT,aR,aQ,cr,h2]
end M
namespace M
open Go.V (inB cJ af bU)
theorem ajv{n:Nat}(h:n<10):Go.IntKind.wrap .u8 (Go.IntKind.wrap .i64 ((48:Int)+(n:Int)))=((48+n:Nat):Int):=by
 rw[wrap_i64 (by omega) (by omega)];have:∀m:Fin 10,Go.IntKind.wrap .u8 ((48:Int)+((m.val:Nat):Int))=((48+m.val:Nat):Int):=by decide
 exact this ⟨n,h⟩
theorem ajw{n:Nat}(h:n<10):Go.V.iN ((48+n:Nat):Int)=true:=by
 unfold Go.V.iN;simp only[bD,bw];omega
theorem ajx(n:Nat):Go.V.fH ((48+n:Nat):Int)=UInt8.ofNat (48+n):=by
 unfold Go.V.fH;rw[bz]
theorem PW{n:Nat}(h:n<10)(f:Nat):M.pW (f+1) (n:Int)=some [UInt8.ofNat (48+n)]:=by
 show M.zD (M.pW f) (n:Int)=_
 unfold M.zD;have:decide ((n:Int)<10)=true:=by rw[bw];omega
 simp only[this,ajv h,ajw h,ajx];rfl
theorem PX(a b:Nat):Int.tdiv (a:Int) (b:Int)=((a/b:Nat):Int):=(Int.ofNat_tdiv a b).symm
theorem PY(a b:Nat):Int.tmod (a:Int) (b:Int)=((a%b:Nat):Int):=(Int.ofNat_tmod a b).symm
theorem ri{a b:List UInt8}(h:a.length+b.length<=4611686018427387904):Go.V.bM a b=true:=by
 unfold Go.V.bM;rw[bw];exact h
theorem PZ{n:Nat}(h:10<=n)(hn:n<1000)(f:Nat){x:List UInt8}(hx:M.pW f ((n/10:Nat):Int)=some x)(hl:x.length<=10):M.pW (f+1) (n:Int)=some (x++[UInt8.ofNat (48+n%10)]):=by
 show M.zD (M.pW f) (n:Int)=_
 unfold M.zD;have h1:decide ((n:Int)<10)=false:=by rw[cm];omega
 have h2:Go.IntKind.wrap .i64 (Int.tdiv (n:Int) 10)=((n/10:Nat):Int):=by
  rw[show Int.tdiv (n:Int) 10=((n/10:Nat):Int)from PX n 10,wrap_i64 (by omega) (by omega)]
 have h3:Int.tmod (n:Int) 10=((n%10:Nat):Int):=PY n 10;have h4:n%10<10:=Nat.mod_lt _ (by decide);simp only[h1,h2,h3,hx,ajv h4,ajw h4,ajx,aR,aT,ef,fB,List.map_nil];rw[ri (by simp;omega)];rfl
theorem P0{n:Nat}(h:n<1000):M.w8 (n:Int)=some (dP.dec n):=by
 obtain⟨f,hf⟩:∃f,af=f+3:=⟨af-3,by have:=bU;omega⟩;rw[show M.w8=M.pW af from rfl,hf];unfold dP.dec;by_cases h1:n<10
 ·rw[cz h1];exact PW h1 (f+2)
 ·rw[aw h1];by_cases h2:n<100
  ·rw[cz h2];have:=PZ (by omega) h (f+2) (PW (show n/10<10 by omega) (f+1)) (by simp);simpa using this
  ·rw[aw h2];have a:=PW (show n/100<10 by omega) f;have b:=PZ (n:=n/10) (by omega) (by omega) (f+1) (by rw[show n/10/10=n/100 by omega];exact a) (by simp);have:=PZ (by omega) h (f+2) b (by simp);simpa using this
theorem aAm{n:Nat}(h:n<1000000000):M.EN (n:Int)=some (dP.kO n):=by
 unfold M.EN;have e1:Go.IntKind.wrap .i64 (Int.tdiv (n:Int) 1000000)=((n/1000000:Nat):Int):=by rw[show Int.tdiv (n:Int) 1000000=((n/1000000:Nat):Int)from PX n 1000000,wrap_i64 (by omega) (by omega)]
 have e2:Int.tmod (Go.IntKind.wrap .i64 (Int.tdiv (n:Int) 1000)) 1000=((n/1000%1000:Nat):Int):=by
  rw[show Int.tdiv (n:Int) 1000=((n/1000:Nat):Int)from PX n 1000,wrap_i64 (by omega) (by omega)];exact PY (n/1000) 1000
 have e3:Int.tmod (n:Int) 1000=((n%1000:Nat):Int):=PY n 1000;have l1:=dP.qf (n:=n/1000000);have l2:=dP.qf (n:=n/1000%1000);have l3:=dP.qf (n:=n%1000);simp only[e1,e2,e3,P0 (show n/1000000<1000 by omega),P0 (show n/1000%1000<1000 by omega),P0 (show n%1000<1000 by omega),aR,aT];rw[ri (by simp;omega),ri (by simp;omega),ri (by simp;omega),ri (by simp;omega)];unfold dP.kO;simp
structure ajy (k n p d:Nat) (n':Int):Prop where
 fp:p<10^k
 fd:d<=k
 eq:d<=2->n'=(n:Int)
 d0:d=0->n=0
 d1:d=1->n<1001000000000000
 d2:d=2->n<2000000000000000000
theorem P1(s:List UInt8):∀(g k n p d:Nat)(n':Int),k<=min s.length 12->min s.length 12-k<g->ajy k n p d n'->
 (dP.scan (n,p,d) ((s.take 12).drop k)=none/\M.pV s g n' (p:Int) (d:Int) (k:Int)=some (.inl (-1)))\/
 ∃(m q e:Nat)(m':Int),dP.scan (n,p,d) ((s.take 12).drop k)=some (m,q,e)/\M.pV s g n' (p:Int) (d:Int) (k:Int)=some (.inr (s,m',(q:Int),(e:Int)))/\ajy (min s.length 12) m q e m'
 |0,k,n,p,d,n',h1,h2,_=>by omega
 |g+1,k,n,p,d,n',h1,h2,hI=>by
  rw[M.pV];have hlen:(s.take 12).length=min s.length 12:=by rw[gZ,Nat.min_comm]
  rcases cG k (min s.length 12)with hk|hk
  ·have hks:k<s.length:=by omega
   have hd:(s.take 12).drop k=s[k]::(s.take 12).drop (k+1):=by
    rw[fa (by rw[hlen];exact hk)];congr 1;rw[List.getElem_take]
   have aFY:p<1000000000000:=ml hI.fp (cq (Nat.pow_le_pow_right (by decide) (show k<=12 by omega)) (by decide));have c1:decide ((k:Int)<((s.length:Nat):Int))=true:=by rw[bw];omega
   have c2:decide ((k:Int)<12)=true:=by rw[bw];omega
   have c3:inB (k:Int) s.length=true:=by rw[bn];simpa using hks
   have hw:Go.IntKind.wrap .i64 ((k:Int)+1)=((k+1:Nat):Int):=by rw[wrap_i64 (by omega) (by omega)];omega
   rw[hd];simp only[c1,c2,c3,hw,bz,getD_lt hks,aQ,az,cg,cr];rw[dP.scan];by_cases h46:s[k]=46
   ·rw[cz h46];have:((((s[k]).toNat:Nat):Int)==46)=true:=by rw[h46];decide
    rw[this,cr];have hw2:Go.IntKind.wrap .i64 ((d:Int)+1)=((d+1:Nat):Int):=by have:=hI.fd;rw[wrap_i64 (by omega) (by omega)];omega
    rw[hw2];refine P1 s g (k+1) ((n+p)*1000) 0 (d+1) _ (by omega) (by omega) ⟨Nat.pow_pos (by decide),by have:=hI.fd;omega,fun hd2=>?_,fun h=>by omega,fun h=>?_,fun h=>?_⟩
    ·have hn:n<1001000000000000:=by
      rcases cG d 1 with h|h
      ·rw[hI.d0 (by omega)];decide
      ·exact hI.d1 (by omega)
     rw[hI.eq (by omega),wrap_i64 (n:=(n:Int)+(p:Int)) (by omega) (by omega),wrap_i64 (by omega) (by omega)];omega
    ·rw[hI.d0 (by omega)];omega
    ·have:=hI.d1 (by omega);omega
   ·rw[aw h46];have hne:((((s[k]).toNat:Nat):Int)==46)=false:=by
     rw[d6];intro e;exact h46 (UInt8.toNat.inj (by have:(46:UInt8).toNat=46:=rfl;omega))
    rw[hne,ef];by_cases hdig:48<=s[k].toNat/\s[k].toNat<=57
    ·rw[cz hdig];have d1:decide ((((s[k]).toNat:Nat):Int)<48)=false:=by rw[cm];omega
     have d2:decide ((57:Int)<(((s[k]).toNat:Nat):Int))=false:=by rw[cm];omega
     have hu:Go.IntKind.wrap .u8 ((((s[k]).toNat:Nat):Int)-48)=((s[k].toNat-48:Nat):Int):=by
      have:∀m:Fin 58,48<=m.val->Go.IntKind.wrap .u8 (((m.val:Nat):Int)-48)=((m.val-48:Nat):Int):=by decide
      exact this ⟨s[k].toNat,by omega⟩ hdig.1
     have hw3:Go.IntKind.wrap .i64 (Go.IntKind.wrap .i64 ((10:Int)*(p:Int))+Go.IntKind.wrap .i64 (((s[k].toNat-48:Nat):Int)))=((10*p+(s[k].toNat-48):Nat):Int):=by
      rw[wrap_i64 (n:=(10:Int)*(p:Int)) (by omega) (by omega),wrap_i64 (n:=((s[k].toNat-48:Nat):Int)) (by omega) (by omega),wrap_i64 (by omega) (by omega)];omega
     simp only[d1,d2,kJ,ef,hu,hw3];refine P1 s g (k+1) n (10*p+(s[k].toNat-48)) d n' (by omega) (by omega) ⟨?_,by have:=hI.fd;omega,hI.eq,hI.d0,hI.d1,hI.d2⟩;have:=hI.fp;rw[Nat.pow_succ];omega
    ·rw[aw hdig];have:(decide ((((s[k]).toNat:Nat):Int)<48)||decide ((57:Int)<(((s[k]).toNat:Nat):Int)))=true:=by
      rw[gq,bw,bw];omega
     rw[this];exact .inl ⟨rfl,rfl⟩
  ·have hk':k=min s.length 12:=by omega
   subst hk';have hd:(s.take 12).drop (min s.length 12)=[]:=by rw[<-hlen,eB]
   have:(decide (((min s.length 12:Nat):Int)<((s.length:Nat):Int))&&decide (((min s.length 12:Nat):Int)<12))=false:=by
    rw[Bool.and_eq_false_iff,cm,cm];omega
   rw[this,hd];exact .inr ⟨n,p,d,n',rfl,rfl,hI⟩
theorem U3(s:List UInt8):M.vU s=some (nq s):=by
 have key:∃r:Int,M.EO s=some r/\decide (0<=r)=(dP.xr s).isSome:=by
  unfold M.EO dP.xr;have hl:=P1 s af 0 0 0 0 0 (cZ _) (by have:=bU;omega) ⟨by simp,eL _,fun _=>rfl,fun _=>rfl,fun h=>by omega,fun h=>by omega⟩;rw[gP]at hl;rcases hl with⟨e1,e2⟩|⟨m,q,e,m',e1,e2,hI⟩
  ·have e2':M.pV s af 0 0 0 0=_:=e2;rw[e1,e2'];exact⟨-1,rfl,rfl⟩
  ·have e2':M.pV s af 0 0 0 0=_:=e2;rw[e1,e2'];simp only;have hq:q<1000000000000:=ml hI.fp (cq (Nat.pow_le_pow_right (by decide) (show min s.length 12<=12 by omega)) (by decide));by_cases he:e=2
   ·subst he;have hm:=hI.d2 rfl;have hw:Go.IntKind.wrap .i64 (m'+(q:Int))=((m+q:Nat):Int):=by
     rw[hI.eq (by omega),wrap_i64 (by omega) (by omega)];omega
    rw[hw];by_cases hc:q<=999/\m+q<1000000000
    ·have c1:((((2:Nat):Int) !=2)||decide ((999:Int)<(q:Int)))=false:=by
      rw[lj,cm];exact⟨rfl,by omega⟩
     have c2:(decide ((0:Int)<=((m+q:Nat):Int))&&decide (((m+q:Nat):Int)<=999999999))=true:=by
      rw[bD,bw,bw];omega
     rw[c1,c2,aAm hc.2];by_cases ht:dP.kO (m+q)=s
     ·rw[cz ⟨rfl,hc.1,hc.2,ht⟩];refine⟨((m+q:Nat):Int),?_,by simp;omega⟩;simp[ht]
     ·rw[aw (fun h=>ht h.2.2.2)];refine⟨-1,?_,by simp⟩;have:(dP.kO (m+q)==s)=false:=by rw[d6];exact ht
      simp[this]
    ·rw[aw (fun h=>hc ⟨h.2.1,h.2.2.1⟩)];have c:(((((2:Nat):Int) !=2)||decide ((999:Int)<(q:Int)))|| !(decide ((0:Int)<=((m+q:Nat):Int))&&decide (((m+q:Nat):Int)<=999999999)))=true:=by
      rw[gq,gq,bw,fj,Bool.and_eq_false_iff,cm,cm];omega
     rw[c];exact⟨-1,by simp,by simp⟩
   ·rw[aw (fun h=>he h.1)];have c:((((e:Nat):Int) !=2))=true:=by rw[qj];omega
    rw[c];exact⟨-1,by simp,by simp⟩
 obtain⟨r,h1,h2⟩:=key;unfold M.vU nq;rw[h1,dP.aAn];simp only[aT,aR,aQ,cr,h2]
end M
namespace M
open Go.V (inB cJ af bU)
mutual
def gi:aa->List (List UInt8)
 |.mk k n l kids=>(if qD (.mk k n l kids)then[n]else[])++jz kids
def jz:List aa->List (List UInt8)
 |[]=>[]
 |x::r=>gi x++jz r
end
theorem P2(t:aa):gi t=(if qD t then[t.Name]else[])++jz t.Kids:=by cases t;rfl
mutual
def zL:aa->List (List UInt8)
 |.mk k n l kids=>(if n==[]then[]else[n])++rj kids
def rj:List aa->List (List UInt8)
 |[]=>[]
 |x::r=>zL x++rj r
end
theorem ajz(t:aa):zL t=(if t.Name==[]then[]else[t.Name])++rj t.Kids:=by cases t;rfl
theorem P3:∀l:List aa,(∀x∈l,(gi x).length<=dT x)->(jz l).length<=dx l
 |[],_=>eL _
 |x::r,h=>by
  have:=h x (by simp);have:=P3 r fun y hy=>h y (by simp[hy])
  simp only[jz,dx,bq];omega
theorem ajA:∀(n:Nat)(t:aa),t.sz<n->(gi t).length<=dT t
 |0,t,h=>by omega
 |n+1,t,h=>by
  rw[P2,rk,bq];have:=P3 t.Kids fun x hx=>ajA n x (by have:=aa.il hx;omega)
  split
  ·simp;omega
  ·simp;omega
theorem zM(t:aa):(gi t).length<=dT t:=ajA _ t (sj _)
theorem ajB:∀(n:Nat)(t:aa),t.sz<n->dF t=true->gi t=zL t
 |0,t,h,_=>by omega
 |n+1,t,h,hs=>by
  rw[P2,ajz];have hk:∀l:List aa,(∀x∈l,x∈t.Kids)->jz l=rj l:=by
   intro l
   induction l with
   |nil=>intro _;rfl
   |cons x r ih=>
    intro hl;have hx:=hl x (by simp);rw[qC,bD,u7,dr]at hs;simp only[jz,rj];rw[ih fun y hy=>hl y (by simp[hy]),ajB n x (by have:=aa.il hx;omega) (hs.2 x hx)]
  rw[hk t.Kids fun _ h=>h];congr 1;rw[qC,bD]at hs;have h1:=hs.1;unfold mY at h1;simp only[bD]at h1;have h2:=h1.1.2;cases hn:qD t
  ·rw[hn]at h2;simp only[eS,gU]at h2⊢;rw[cz h2]
  ·rw[hn]at h2;simp only[fJ]at h2⊢;have:(t.Name==[])=false:=by
    rw[d6];intro e;rw[e]at h2;revert h2;decide
   rw[this];rfl
theorem ajC{t:aa}(h:dF t=true):gi t=zL t:=ajB _ t (sj _) h
theorem P4:∀(m:Nat)(t:aa),t.sz<m->t.sz<=1048576->M.rh m t=some (gi t)
 |0,t,h,_=>by omega
 |m+1,t,h,hN=>by
  show M.Ll (M.rh m) t=_
  unfold M.Ll;have hl:=aa.kd hN;have hsum:=Fp (aa.sc hN);have hkl:∀k,k<=t.Kids.length->(jz (t.Kids.take k)).length<=dx t.Kids:=fun k hk=>
   cq (P3 _ fun x _=>zM x) (aAo _ _)
  have key:∀f k (pre:List (List UInt8)),pre.length<=1->k<=t.Kids.length->t.Kids.length-k<f->M.rf (M.rh m) t.Kids (t.Kids.length:Int) f (k:Int) (pre++jz (t.Kids.take k))=some (pre++jz t.Kids):=by
   intro f
   induction f with
   |zero=>intro k pre _ h1 h2;omega
   |succ f ih=>
    intro k pre hp h1 h2;rw[M.rf];rcases cG k t.Kids.length with hk|hk
    ·have hx:=aa.il (bA hk);have hc:=P4 m t.Kids[k] (by omega) (by omega);have hlen:=hkl k h1;have hlx:(gi t.Kids[k]).length<=dx t.Kids:=cq (zM _) (P5 _ _ (bA hk));have hd:decide ((pre++jz (t.Kids.take k)).length+(gi t.Kids[k]).length<=1073741824)=true:=by rw[bw,bq];omega
     have ht:jz (t.Kids.take (k+1))=jz (t.Kids.take k)++gi t.Kids[k]:=by
      have app:∀(a b:List aa),jz (a++b)=jz a++jz b:=fun a b=>by
       induction a with
       |nil=>rfl
       |cons x r ih=>simp only[jB,jz,ih,ib]
      rw[l6,bG hk,app];simp[jz]
     simp only[aa.aj,getD_lt hk,hc,bz,bn,bH,hk,bj,cr,az,aQ,bo hk (cu hl),aR,aT,hd];rw[ib,<-ht];exact ih (k+1) pre hp (by omega) (by omega)
    ·have:k=t.Kids.length:=by omega
     subst this;simp
  have e1:=key af 0 [t.Name] (by simp) (cZ _) (by have:=bU;omega);have e2:=key af 0 [] (by simp) (cZ _) (by have:=bU;omega);rw[List.take_zero]at e1 e2;have e1':M.rf (M.rh m) t.Kids (t.Kids.length:Int) af 0 ([]++[t.Name])=_:=e1;have e2':M.rf (M.rh m) t.Kids (t.Kids.length:Int) af 0 []=_:=e2;rw[e1',e2',P2];have hnb:((t.Kind==20)||(t.Kind==21))=qD t:=rfl;rw[hnb];cases qD t<;>simp
def kP(f:aJ):List (List UInt8):=gi f.Result++f.Params.flatMap fun p=>gi p.aF
theorem P6{t:aa}(h:fZ t=true):dT t<=24:=by
 unfold fZ at h;simp only[bD,bw]at h;exact h.1.2
theorem ajD{l:List ar}(h:aK ar.sz l<=1048576):∀k,((l.take k).flatMap fun p=>gi p.aF).length<=aK ar.sz l+l.length:=fun k=>by
 have key:∀l:List ar,(l.flatMap fun p=>gi p.aF).length<=aK ar.sz l+l.length:=by
  intro l
  induction l with
  |nil=>simp
  |cons p r ih=>
   have h1:=zM p.aF;have h2:=Fq p.aF;have h3:=ar.bI p;simp only[List.flatMap_cons,bq,aK,aZ];omega
 have h1:=key (l.take k);have h2:aK ar.sz (l.take k)<=aK ar.sz l:=by
  have:∀(l:List ar) k,aK ar.sz (l.take k)<=aK ar.sz l:=by
   intro l
   induction l with
   |nil=>intro k;simp
   |cons x r ih=>
    intro k;cases k with
    |zero=>simp[aK]
    |succ k=>simp only[List.take_succ_cons,aK];have:=ih k;omega
  exact this l k
 have h3:(l.take k).length<=l.length:=by simp;omega
 omega
theorem aAp(f:aJ)(h:f.sz<=1048576):M.E0 f=some (kP f):=by
 rw[aJ.bI]at h;have hl:f.Params.length<=1048576:=cq (bW ar.sz f.Params) (by omega);have hr:M.zK f.Result=some (gi f.Result):=P4 af _ (iQ (by omega)) (by omega);have hrl:(gi f.Result).length<=f.Result.sz+1:=cq (zM _) (Fq _);have key:∀g k,k<=f.Params.length->f.Params.length-k<g->M.xd f.Params (f.Params.length:Int) g (k:Int) (gi f.Result++(f.Params.take k).flatMap fun p=>gi p.aF)=some (kP f):=by
  intro g
  induction g with
  |zero=>intro k h1 h2;omega
  |succ g ih=>
   intro k h1 h2;rw[M.xd];rcases cG k f.Params.length with hk|hk
   ·have hm:=aC ar.sz _ _ (bA hk);have hty:f.Params[k].aF.sz<=1048576:=ar.uk (N:=1048576) (by omega);have hc:M.zK f.Params[k].aF=some (gi f.Params[k].aF):=P4 af _ (iQ hty) hty;have hb:=ajD (l:=f.Params) (by omega) k;have hb2:(gi f.Params[k].aF).length<=1048577:=by have:=zM f.Params[k].aF;have:=Fq f.Params[k].aF;omega
    have hd:decide ((gi f.Result++(f.Params.take k).flatMap fun p=>gi p.aF).length+(gi f.Params[k].aF).length<=1073741824)=true:=by
     rw[bw,bq];omega
    simp only[aa.aj,getD_lt hk,hc,bz,bn,bH,hk,bj,cr,az,aQ,bo hk (cu hl),aR,aT,hd];have:=ih (k+1) (by omega) (by omega);rw[l6,bG hk,List.flatMap_append]at this;simpa [ib]using this
   ·have:k=f.Params.length:=by omega
    subst this;rw[Aa];have:decide (((f.Params.length:Nat):Int)<((f.Params.length:Nat):Int))=false:=by simp
    rw[this];rfl
 have e:=key af 0 (cZ _) (by have:=bU;omega);unfold M.E0;have e':M.xd f.Params (f.Params.length:Int) af 0 (gi f.Result)=some (kP f):=by simpa using e
 simp only[aa.aj,hr,aR,e',aT,aQ,cr]
end M
namespace M
open Go.V (inB cJ af bU)
theorem aAq(l:List (List UInt8))(s:List UInt8)(hl:l.length<=16777216):∃out,M.ER l s=some out/\(∀x,x∈out↔x∈l\/x=s)/\out.length<=l.length+1:=by
 have key:∀g k (done:Bool) (out:List (List UInt8)),k<=l.length->l.length-k<g->(∀x,x∈out↔x∈l.take k\/(done=true/\x=s))->out.length<=k+1->(done=false->out.length<=k)->
  ∃done' out',M.ub l s g done (k:Int) out=some (s,done',out')/\(∀x,x∈out'↔x∈l\/(done'=true/\x=s))/\out'.length<=l.length+1/\(done'=false->out'.length<=l.length):=by
  intro g
  induction g with
  |zero=>intro k done out h1 h2;omega
  |succ g ih=>
   intro k done out h1 h2 hm hlen hlen2;rw[M.ub];rcases cG k l.length with hk|hk
   ·have ht:∀x,x∈l.take (k+1)↔x∈l.take k\/x=l[k]:=fun x=>by
     rw[l6,bG hk,dB];simp
    have d2:decide (out.length+([l[k]]:List (List UInt8)).length<=1073741824)=true:=by rw[bw];simp;omega
    have d3:decide (out.length+([s]:List (List UInt8)).length<=1073741824)=true:=by rw[bw];simp;omega
    have d4:decide ((out++[s]).length+([l[k]]:List (List UInt8)).length<=1073741824)=true:=by rw[bw];simp;omega
    simp only[getD_lt hk,bz,bn,bH,hk,bj,cr,az,aQ,cg,bo hk (by omega:l.length<2^62),d2,d3,d4];have hq:∀b:Bool,(((decide True&&true|| !b)&&(decide True&&true||b)))=true:=fun b=>by cases b<;>rfl
    by_cases he:l[k]=s
    ·have hb:(l[k]==s)=true:=by rw[he];exact mA s
     simp only[hb,cg,eH,Ai,ef,aQ,az,sf,cr];refine ih (k+1) true _ (by omega) (by omega) (fun x=>?_) (by simp;omega) (fun h=>by cases h);rw[dB,hm,ht];simp only[zN,qk];constructor
     ·rintro ((h|⟨-,h⟩)|h)
      ·exact .inl (.inl h)
      ·exact .inr h
      ·exact .inl (.inr h)
     ·rintro ((h|h)|h)
      ·exact .inl (.inl h)
      ·exact .inr h
      ·exact .inr (by rw[h,he])
    ·have hb:(l[k]==s)=false:=by rw[d6];exact he
     simp only[hb,nN,kJ,rq,sf,aQ,az,cr];cases done
     ·simp only[rq,az];cases hlt:Go.V.fu l[k] s
      ·simp only[rq,cr];refine ih (k+1) true _ (by omega) (by omega) (fun x=>?_) (by simp;have:=hlen2 rfl;omega) (fun h=>by cases h);rw[dB,dB,hm,ht];simp only[zN,qk,eS,false_and,G5];constructor
       ·rintro ((h|h)|h)
        ·exact .inl (.inl h)
        ·exact .inr h
        ·exact .inl (.inr h)
       ·rintro ((h|h)|h)
        ·exact .inl (.inl h)
        ·exact .inr h
        ·exact .inl (.inr h)
      ·simp only[eH,ef];refine ih (k+1) false _ (by omega) (by omega) (fun x=>?_) (by simp;have:=hlen2 rfl;omega) (fun h=>by simp;have:=hlen2 rfl;omega);rw[dB,hm,ht];simp
     ·simp only[eH,Ai,ef];refine ih (k+1) true _ (by omega) (by omega) (fun x=>?_) (by simp;omega) (fun h=>by cases h);rw[dB,hm,ht];simp only[zN,qk];constructor
      ·rintro ((h|h)|h)
       ·exact .inl (.inl h)
       ·exact .inr h
       ·exact .inl (.inr h)
      ·rintro ((h|h)|h)
       ·exact .inl (.inl h)
       ·exact .inr h
       ·exact .inl (.inr h)
   ·have:k=l.length:=by omega
    subst this;have:decide (((l.length:Nat):Int)<((l.length:Nat):Int))=false:=by simp
    rw[this];exact⟨done,out,rfl,by simpa using hm,hlen,hlen2⟩
 obtain⟨done,out,e,h1,h2,h3⟩:=key af 0 false [] (cZ _) (by have:=bU;omega) (by simp) (by simp) (by simp);have e':M.ub l s af false 0 []=_:=e;unfold M.ER;rw[e'];cases done
 ·have hd:decide (out.length+([s]:List (List UInt8)).length<=1073741824)=true:=by rw[bw];have:=h3 rfl;simp;omega
  simp only[rq,cr,hd,aQ];refine⟨out++[s],rfl,fun x=>?_,by simp;exact h3 rfl⟩;rw[dB,h1];simp
 ·simp only[eH,ef];exact⟨out,rfl,fun x=>by rw[h1];simp,h2⟩
theorem aAr{l:List aa}{k:Nat}(h:k<l.length):rj (l.drop k)=zL l[k]++rj (l.drop (k+1)):=by rw[fa h];rfl
theorem P7:∀(m:Nat)(t:aa)(out:List (List UInt8)),t.sz<m->t.sz<=1048576->out.length+dT t<=8388608->
 ∃out',M.qX m t out=some out'/\(∀x,x∈out'↔x∈out\/x∈zL t)/\out'.length<=out.length+dT t
 |0,t,out,h,_,_=>by omega
 |m+1,t,out,h,hN,ho=>by
  show ∃out',M.K7 (M.qX m) t out=_/\_
  unfold M.K7;have hl:=aa.kd hN;rw[rk]at ho⊢;have key:∀f k (o:List (List UInt8)),k<=t.Kids.length->t.Kids.length-k<f->o.length+dx (t.Kids.drop k)<=8388608->
   ∃out',M.qW (M.qX m) f o (k:Int) t=some out'/\(∀x,x∈out'↔x∈o\/x∈rj (t.Kids.drop k))/\out'.length<=o.length+dx (t.Kids.drop k):=by
   intro f
   induction f with
   |zero=>intro k o h1 h2;omega
   |succ f ih=>
    intro k o h1 h2 h3;rw[M.qW];rcases cG k t.Kids.length with hk|hk
    ·have hx:=aa.il (bA hk);rw[xt hk]at h3⊢;obtain⟨o1,e1,g1,g2⟩:=P7 m t.Kids[k] o (by omega) (by omega) (by omega);simp only[aa.aj,getD_lt hk,e1,bz,bn,bH,hk,bj,cr,az,aQ,bo hk (cu hl),aR,aT];obtain⟨o2,e2,g3,g4⟩:=ih (k+1) o1 (by omega) (by omega) (by omega);refine⟨o2,e2,fun x=>?_,by omega⟩;rw[g3,g1,aAr hk,dB];constructor
     ·rintro ((h|h)|h)
      ·exact .inl h
      ·exact .inr (.inl h)
      ·exact .inr (.inr h)
     ·rintro (h|h|h)
      ·exact .inl (.inl h)
      ·exact .inl (.inr h)
      ·exact .inr h
    ·have:k=t.Kids.length:=by omega
     subst this;have:decide (((t.Kids.length:Nat):Int)<((t.Kids.length:Nat):Int))=false:=by simp
     rw[this,eB];exact⟨o,rfl,fun x=>by simp[rj],by simp[dx]⟩
  rw[aa.aj];have hnm:=ajz t;cases hn:t.Name==[]
  ·simp only[rq,cr];obtain⟨o1,e1,g1,g2⟩:=aAq out t.Name (by omega);rw[e1];simp only[aR,aT,aQ,cr];obtain⟨o2,e2,g3,g4⟩:=key af 0 o1 (cZ _) (by have:=bU;omega) (by rw[gP];omega);rw[gP]at g3 g4;have e2':M.qW (M.qX m) af o1 0 t=_:=e2;rw[e2'];refine⟨o2,rfl,fun x=>?_,by omega⟩;rw[g3,g1,hnm,hn];simp only[eS,gU,dB,zN];constructor
   ·rintro ((h|h)|h)
    ·exact .inl h
    ·exact .inr (.inl h)
    ·exact .inr (.inr h)
   ·rintro (h|h|h)
    ·exact .inl (.inl h)
    ·exact .inl (.inr h)
    ·exact .inr h
  ·simp only[eH,ef];obtain⟨o2,e2,g3,g4⟩:=key af 0 out (cZ _) (by have:=bU;omega) (by rw[gP];omega);rw[gP]at g3 g4;have e2':M.qW (M.qX m) af out 0 t=_:=e2;rw[e2'];refine⟨o2,rfl,fun x=>?_,by omega⟩;rw[g3,hnm,hn];simp
theorem aAs(f:aJ)(l:List (List UInt8))(h:f.sz<=1048576)(hl:l.length<=1048576)(hok:ip f=true):M.ES f l=some ((kP f).all fun x=>l.any fun y=>x==y):=by
 rw[aJ.bI]at h;have hpl:f.Params.length<=1048576:=cq (bW ar.sz f.Params) (by omega);have hps:∀p∈f.Params,fZ p.aF=true:=fun p hp=>by
  unfold ip at hok;simp only[bD,dr]at hok;have:=hok.1.1.2.1 p hp;unfold lp at this;simp only[fj,lj,Bool.not_eq_false']at this;exact this.1.2
 have hres:fZ f.Result=true:=by
  unfold ip at hok;simp only[bD]at hok;exact hok.1.2
 have hp6:f.Params.length<=6:=by
  unfold ip at hok;simp only[bD,bw]at hok;exact hok.1.1.1
 have shp:∀{t:aa},fZ t=true->dF t=true:=fun{t} h=>by unfold fZ at h;simp only[bD]at h;exact h.2
 obtain⟨o0,e0,g0,k0⟩:=P7 af f.Result [] (iQ (by omega)) (by omega) (by have:=P6 hres;simp;omega);have e0':M.zG f.Result []=some o0:=e0;have aAt:∀g k (o:List (List UInt8)),k<=f.Params.length->f.Params.length-k<g->o.length+24*(f.Params.length-k)<=1000->
  ∃o',M.w9 l g o (k:Int) f=some (l,o')/\(∀x,x∈o'↔x∈o\/x∈(f.Params.drop k).flatMap fun p=>gi p.aF)/\o'.length<=1000:=by
  intro g
  induction g with
  |zero=>intro k o h1 h2;omega
  |succ g ih=>
   intro k o h1 h2 h3;rw[M.w9];rcases cG k f.Params.length with hk|hk
   ·have hm:=aC ar.sz _ _ (bA hk);have hty:f.Params[k].aF.sz<=1048576:=ar.uk (N:=1048576) (by omega);have ht:=hps _ (bA hk);have hZ:=P6 ht;obtain⟨o1,e1,g1,g2⟩:=P7 af f.Params[k].aF o (iQ hty) hty (by omega);have e1':M.zG f.Params[k].aF o=some o1:=e1;simp only[aa.aj,aJ.aj,getD_lt hk,e1',bz,bn,bH,hk,bj,cr,az,aQ,bo hk (cu hpl),aR,aT];obtain⟨o2,e2,g3,g4⟩:=ih (k+1) o1 (by omega) (by omega) (by omega);refine⟨o2,e2,fun x=>?_,g4⟩;rw[g3,g1,fa hk,List.flatMap_cons,dB,ajC (shp ht)];constructor
    ·rintro ((h|h)|h)
     ·exact .inl h
     ·exact .inr (.inl h)
     ·exact .inr (.inr h)
    ·rintro (h|h|h)
     ·exact .inl (.inl h)
     ·exact .inl (.inr h)
     ·exact .inr h
   ·have:k=f.Params.length:=by omega
    subst this;have:decide (((f.Params.length:Nat):Int)<((f.Params.length:Nat):Int))=false:=by simp
    rw[this,eB];exact⟨o,rfl,fun x=>by simp,by omega⟩
 obtain⟨all,ea,ga,la⟩:=aAt af 0 o0 (cZ _) (by have:=bU;omega) (by have:=P6 hres;simp at k0;omega);have ea':M.w9 l af o0 0 f=some (l,all):=ea;have hmem:∀x,x∈all↔x∈kP f:=fun x=>by
  rw[ga,g0,gP];unfold kP;rw[dB,ajC (shp hres)];simp
 have inner:∀i (hi:i<all.length),M.xa l all (i:Int) af false 0=some (l,all,(i:Int),l.any fun y=>all[i]==y):=fun i hi=>by
  have k1:∀g k (met:Bool),k<=l.length->l.length-k<g->M.xa l all (i:Int) g met (k:Int)=some (l,all,(i:Int),met||(l.drop k).any fun y=>all[i]==y):=by
   intro g
   induction g with
   |zero=>intro k met h1 h2;omega
   |succ g ih=>
    intro k met h1 h2;rw[M.xa];rcases cG k l.length with hk|hk
    ·simp only[getD_lt hk,getD_lt hi,bz,bn,bH,hk,hi,bj,cr,cg,az,aQ,bo hk (cu hl)];rw[ih (k+1) _ (by omega) (by omega),U1 _ hk,<-Bool.or_assoc];have:(l[k]==all[i])=(all[i]==l[k]):=by rw[gv,hU,hU];exact eq_comm
     rw[this]
    ·have:k=l.length:=by omega
     subst this;have:decide (((l.length:Nat):Int)<((l.length:Nat):Int))=false:=by simp
     rw[this,eB];simp
  have:=k1 af 0 false (cZ _) (by have:=bU;omega);simpa using this
 have outer:M.qa af l all 0=some (if all.all (fun x=>l.any fun y=>x==y)then .inr ()else .inl false):=
  ng (p:=fun x=>l.any fun y=>x==y) (F:=fun g k=>M.qa g l all k) (e:=()) (b:=false) all (by omega) (fun g k hk=>by
   show M.qa (g+1) l all (k:Int)=_
   rw[M.qa];have hin:=inner k hk;simp only[hin,bH,hk,bj,cr,bo hk (by omega:all.length<2^62)];cases (l.any fun y=>all[k]==y)<;>rfl) (fun g=>by
   show M.qa (g+1) l all (all.length:Int)=_
   rw[M.qa];simp)
 unfold M.ES;simp only[aa.aj,aJ.aj,e0',aR,ea',outer,aT,aQ,cr];have hall:all.all (fun x=>l.any fun y=>x==y)=(kP f).all fun x=>l.any fun y=>x==y:=by
  rw[gv,dr,dr];exact⟨fun h x hx=>h x ((hmem x).2 hx),fun h x hx=>h x ((hmem x).1 hx)⟩
 rw[hall];cases (kP f).all fun x=>l.any fun y=>x==y<;>simp
end M
namespace M
open Go.V (inB cJ af bU)
def lJ(l:List (List UInt8)):Bool:=(List.range l.length).all fun k=>(k==0)||Go.V.fu (l.getD (k-1) []) (l.getD k [])
theorem P8(l:List (List UInt8))(h:l.length<=1048576):M.ug l=some (lJ l):=by
 have key:∀g k,1<=k->k<=l.length->l.length-k<g->M.uf l g (k:Int)=some (if(List.range' k (l.length-k)).all (fun k=>Go.V.fu (l.getD (k-1) []) (l.getD k []))then .inr ()else .inl false):=by
  intro g
  induction g with
  |zero=>intro k h0 h1 h2;omega
  |succ g ih=>
   intro k h0 h1 h2;rw[M.uf];rcases cG k l.length with hk|hk
   ·have hk1:k-1<l.length:=by omega
    have hr:List.range' k (l.length-k)=k::List.range' (k+1) (l.length-(k+1)):=by
     rw[show l.length-k=(l.length-(k+1))+1 by omega];rfl
    rw[hr,xC];simp only[um h0 (sd hk) (cu h),bz,bn,bH,hk,hk1,bj,cr,aQ,bo hk (cu h),ih (k+1) (by omega) (by omega) (by omega)];cases Go.V.fu (l.getD (k-1) []) (l.getD k [])<;>rfl
   ·have:k=l.length:=by omega
    subst this;have:decide (((l.length:Nat):Int)<((l.length:Nat):Int))=false:=by simp
    rw[this,uo];rfl
 unfold M.ug lJ;rcases lK l.length with h0|h0
 ·have:l=[]:=fD h0;subst this;obtain⟨f,hf⟩:∃f,af=f+1:=⟨af-1,by have:=bU;omega⟩;rw[hf,M.uf];rfl
 ·have e:=key af 1 (eL _) h0 (by have:=bU;omega);have e':M.uf l af 1=_:=e;rw[e'];have hr:List.range l.length=0::List.range' 1 (l.length-1):=by
   rw[List.range_eq_range',show l.length=(l.length-1)+1 by omega];rfl
  have hc:(List.range' 1 (l.length-1)).all (fun k=>(k==0)||Go.V.fu (l.getD (k-1) []) (l.getD k []))=(List.range' 1 (l.length-1)).all (fun k=>Go.V.fu (l.getD (k-1) []) (l.getD k [])):=by
   rw[gv,dr,dr];have hp:∀k∈List.range' 1 (l.length-1),(k==0)=false:=fun k hk=>by
    rw[List.mem_range']at hk;obtain⟨i,_,rfl⟩:=hk;rw[d6];omega
   exact⟨fun h k hk=>by have:=h k hk;rwa [hp k hk,nN]at this,fun h k hk=>by rw[hp k hk,nN];exact h k hk⟩
  rw[hr,xC,hc];simp only[mA,cg,az];cases (List.range' 1 (l.length-1)).all (fun k=>Go.V.fu (l.getD (k-1) []) (l.getD k []))<;>simp
def mZ(R:List (List UInt8))(x:aA):Bool:=(dj x.Name&&ip x.aF)&&(kP x.aF).all fun n=>R.any fun y=>n==y
def jM(f:ax):Bool:=
 (((dj f.cV&&dj f.Name)&&nq f.Version)&&(decide (f.bK.length<=4)&&decide (f.Funcs.length<=8)))&&
   ((lJ f.bK&&f.bK.all dj)&&(f.Funcs.all (mZ f.bK)&&lJ (f.Funcs.map aA.Name)))
theorem Hg(n m:Nat):decide (((m:Nat):Int)<((n:Nat):Int))= !decide (n<=m):=by
 rw[gv];simp only[fj,bw,cm];omega
theorem gt4(n:Nat):decide ((4:Int)<((n:Nat):Int))= !decide (n<=4):=Hg n 4
theorem gt8(n:Nat):decide ((8:Int)<((n:Nat):Int))= !decide (n<=8):=Hg n 8
theorem aAv{l:List aA}(k:Nat):(l.map aA.Name).getD k []=(l.getD k aA.zero).Name:=by
 rw[aH,aH,fL];cases l[k]?<;>rfl
theorem aAw(f:ax)(h:f.sz<=1048576):M.ET f=some (jM f):=by
 rw[ax.bI]at h;have hrl:f.bK.length<=1048576:=cq (bW List.length f.bK) (by omega);have hfl:f.Funcs.length<=1048576:=cq (bW aA.sz f.Funcs) (by omega);have hn1:=su f.cV (by omega);have hn2:=su f.Name (by omega);have hv:=U3 f.Version;have l0:M.pX f af 0=some (if(List.range f.bK.length).all (fun i=>dj (f.bK.getD i [])&&((i==0)||Go.V.fu (f.bK.getD (i-1) []) (f.bK.getD i [])))then .inr f else .inl false):=
  l7 (p:=fun i=>dj (f.bK.getD i [])&&((i==0)||Go.V.fu (f.bK.getD (i-1) []) (f.bK.getD i []))) (F:=fun g k=>M.pX f g k) (e:=f) (b:=false) f.bK.length (by omega) (fun g k hk=>by
   show M.pX f (g+1) (k:Int)=_
   rw[M.pX];have hnm:=su (f.bK.getD k []) (by rw[getD_lt hk];have:=aC List.length _ _ (bA hk);omega);rcases lK k with h0|h0
   ·subst h0;simp only[hnm,bz,bn,bH,hk,bj,cr,az,aQ,bo hk (cu hrl),aR,aT,cg];cases dj (f.bK.getD 0 [])<;>simp
   ·have hk1:k-1<f.bK.length:=by omega
    have hp:decide ((0:Int)<(k:Int))=true:=by rw[bw];omega
    have hz:(k==0)=false:=by rw[d6];omega
    simp only[hnm,um h0 (sd hk) (cu hrl),hp,hz,bz,bn,bH,hk,hk1,bj,cr,az,aQ,bo hk (cu hrl),aR,aT,cg,nN];cases dj (f.bK.getD k [])<;>cases Go.V.fu (f.bK.getD (k-1) []) (f.bK.getD k [])<;>rfl) (fun g=>by
   show M.pX f (g+1) (f.bK.length:Int)=_
   rw[M.pX];simp)
 have l1:M.qb f af 0=some (if(List.range f.Funcs.length).all (fun i=>mZ f.bK (f.Funcs.getD i aA.zero)&&((i==0)||Go.V.fu (f.Funcs.getD (i-1) aA.zero).Name (f.Funcs.getD i aA.zero).Name))then .inr ()else .inl false):=
  l7 (p:=fun i=>mZ f.bK (f.Funcs.getD i aA.zero)&&((i==0)||Go.V.fu (f.Funcs.getD (i-1) aA.zero).Name (f.Funcs.getD i aA.zero).Name)) (F:=fun g k=>M.qb f g k) (e:=()) (b:=false) f.Funcs.length (by omega) (fun g k hk=>by
   show M.qb f (g+1) (k:Int)=_
   rw[M.qb];have hm:=aC aA.sz _ _ (bA hk);have hsz:=aA.bI f.Funcs[k];have hnm:=su f.Funcs[k].Name (by omega);have hfn:=aAx f.Funcs[k].aF (by omega);have hkn:=aAs f.Funcs[k].aF f.bK (by omega) hrl;have fin:∀(r:Bool),((k==0)||Go.V.fu (f.Funcs.getD (k-1) aA.zero).Name (f.Funcs.getD k aA.zero).Name)=r->(decide ((0:Int)<(k:Int))&& !Go.V.fu (f.Funcs.getD (Int.toNat (Go.IntKind.wrap .i64 ((k:Int)-1))) aA.zero).Name (f.Funcs[k]).Name)= !r/\
    (inB (Go.IntKind.wrap .i64 ((k:Int)-1)) f.Funcs.length|| !(decide ((0:Int)<(k:Int))))=true:=fun r hr=>by
    rcases lK k with h0|h0
    ·subst h0;simp at hr⊢;exact hr.symm ▸ rfl
    ·have hk1:k-1<f.Funcs.length:=by omega
     have hp:decide ((0:Int)<(k:Int))=true:=by rw[bw];omega
     have hz:(k==0)=false:=by rw[d6];omega
     rw[um h0 (sd hk) (cu hfl),hp,bz,bn];rw[hz,nN,getD_lt hk]at hr;rw[hr];simp[hk1]
   generalize hr:((k==0)||Go.V.fu (f.Funcs.getD (k-1) aA.zero).Name (f.Funcs.getD k aA.zero).Name)=r;obtain⟨f1,f2⟩:=fin r hr;simp only[aJ.aj,getD_lt hk,hnm,hfn,f1,bz,bn,bH,hk,bj,cr,az,aQ,bo hk (cu hfl),aR,aT,cg];have hin:∀b:Bool,(inB (Go.IntKind.wrap .i64 ((k:Int)-1)) f.Funcs.length||(!(b&&(decide ((0:Int)<(k:Int))==true))))=true:=fun b=>by
    cases b
    ·simp
    ·revert f2
     cases inB (Go.IntKind.wrap .i64 ((k:Int)-1)) f.Funcs.length<;>cases decide ((0:Int)<(k:Int))<;>simp
   simp only[hin,aQ,az];unfold mZ;cases hN:dj f.Funcs[k].Name
   ·simp
   ·cases r
    ·simp
    ·cases hF:ip f.Funcs[k].aF
     ·simp
     ·rw[hkn hF];cases ((kP f.Funcs[k].aF).all fun n=>f.bK.any fun y=>n==y)<;>simp) (fun g=>by
   show M.qb f (g+1) (f.Funcs.length:Int)=_
   rw[M.qb];simp)
 rw[Ft,Fv dj f.bK []]at l0;rw[Ft,Fv (mZ f.bK) f.Funcs aA.zero]at l1;have hr1:(List.range f.bK.length).all (fun i=>(i==0)||Go.V.fu (f.bK.getD (i-1) []) (f.bK.getD i []))=lJ f.bK:=rfl;have hr2:(List.range f.Funcs.length).all (fun i=>(i==0)||Go.V.fu (f.Funcs.getD (i-1) aA.zero).Name (f.Funcs.getD i aA.zero).Name)=lJ (f.Funcs.map aA.Name):=by
  unfold lJ;simp only[dC,aAv]
 rw[hr1]at l0;rw[hr2]at l1;unfold M.ET jM;simp only[hn1,hn2,hv,l0,gt4,gt8,aR,aT,cg,aQ,az,cr];cases dj f.cV<;>cases dj f.Name<;>cases nq f.Version<;>cases decide (f.bK.length<=4)<;>cases decide (f.Funcs.length<=8)<;>try rfl
 cases f.bK.all dj<;>cases lJ f.bK<;>try rfl
 simp only[eH,uA,ef,bJ,fJ,l1];cases f.Funcs.all (mZ f.bK)<;>cases lJ (f.Funcs.map aA.Name)<;>rfl
theorem N6(l:List (List UInt8))(v:List UInt8)(hl:l.length<=1048576):M.sq l v=some (l.any fun y=>v==y):=by
 have e:=f5 (p:=fun y=>v==y) (F:=M.xe l v (l.length:Int)) (e:=()) (fun k=>k) l (by omega) (fun g k hk=>by
  rw[M.xe];simp only[getD_lt hk,bz,bn,bH,hk,bj,cr,aQ,bo hk (by omega:l.length<2^62)]
  ) (fun g=>by rw[M.xe];simp)
 unfold M.sq M.Lo;rw[e,jN];cases l.findIdx? (fun y=>v==y)<;>simp
theorem aAy(f:ax)(h:f.sz<=1048576):M.E3 f=some (jM f):=by
 rw[ax.bI]at h;have hrl:f.bK.length<=1048576:=cq (bW List.length f.bK) (by omega);have hfl:f.Funcs.length<=1048576:=cq (bW aA.sz f.Funcs) (by omega);have hn1:=sw f.cV (by omega);have hn2:=sw f.Name (by omega);have hv:=U5 f.Version (by omega);have Fz:=P8 f.bK hrl;have hc2:M.EX f.bK=some (f.bK.any fun s=> !dj s):=by
  have e:=f5 (p:=fun s=> !dj s) (F:=M.xb f.bK (f.bK.length:Int)) (e:=()) (fun k=>k) f.bK (by omega) (fun g k hk=>by
   rw[M.xb];have hn:f.bK[k].length<=1048576:=by have:=aC List.length _ _ (bA hk);omega
   have hc:M.EW f.bK[k]=some (!dj f.bK[k]):=by unfold M.EW;rw[sw _ hn];rfl
   simp only[getD_lt hk,hc,bz,bn,bH,hk,bj,cr,az,aQ,bo hk (by omega:f.bK.length<2^62),aR,aT]) (fun g=>by rw[M.xb];simp)
  unfold M.EX M.Le;rw[e,jN];cases f.bK.findIdx? (fun s=> !dj s)<;>simp
 have hc3:∀l:List (List UInt8),l.length<=8388608->M.E2 l f=some (l.any fun n=> !(f.bK.any fun y=>n==y)):=fun l hl=>by
  have e:=f5 (p:=fun n=> !(f.bK.any fun y=>n==y)) (F:=M.xf l f (l.length:Int)) (e:=()) (fun k=>k) l (by omega) (fun g k hk=>by
   rw[M.xf];have hc:M.E1 l[k] f=some (!(f.bK.any fun y=>l[k]==y)):=by unfold M.E1;rw[N6 _ _ hrl];rfl
   simp only[getD_lt hk,hc,bz,bn,bH,hk,bj,cr,az,aQ,bo hk (by omega:l.length<2^62),aR,aT]) (fun g=>by rw[M.xf];simp)
  unfold M.E2 M.Lq;rw[e,jN];cases l.findIdx? (fun n=> !(f.bK.any fun y=>n==y))<;>simp
 have hres:∀k (hk:k<f.Funcs.length),(kP f.Funcs[k].aF).length<=8388608:=fun k hk=>by
  have hm:=aC aA.sz _ _ (bA hk);have hsz:=aA.bI f.Funcs[k];have hsz2:=aJ.bI f.Funcs[k].aF;unfold kP;rw[bq];have h1:=zM f.Funcs[k].aF.Result;have h2:=Fq f.Funcs[k].aF.Result;have h3:=ajD (l:=f.Funcs[k].aF.Params) (by omega) f.Funcs[k].aF.Params.length;rw[Aa]at h3;have h4:=bW ar.sz f.Funcs[k].aF.Params;omega
 have key:∀g k,k<=f.Funcs.length->f.Funcs.length-k<g->M.uj f.Funcs (f.Funcs.length:Int) f g (k:Int) ((f.Funcs.take k).map aA.Name)=some (if(f.Funcs.drop k).all (mZ f.bK)then .inr (f.Funcs.map aA.Name)else .inl false):=by
  intro g
  induction g with
  |zero=>intro k h1 h2;omega
  |succ g ih=>
   intro k h1 h2;rcases cG k f.Funcs.length with hk|hk
   ·rw[M.uj];have hm:=aC aA.sz _ _ (bA hk);have hsz:=aA.bI f.Funcs[k];have hnm:=sw f.Funcs[k].Name (by omega);have hfn:=aAz f.Funcs[k].aF (by omega);have hfr:=aAp f.Funcs[k].aF (by omega);have hcc:=hc3 _ (hres k hk);have hd:decide ((((f.Funcs.take k).map aA.Name).length+([f.Funcs[k].Name]:List (List UInt8)).length)<=1073741824)=true:=by
     simp only[bw,dC,gZ,aZ,bS];omega
    have ht:(f.Funcs.take k).map aA.Name++[f.Funcs[k].Name]=(f.Funcs.take (k+1)).map aA.Name:=by
     rw[l6,xx,bG hk];rfl
    simp only[aJ.aj,getD_lt hk,hnm,hfn,hfr,hcc,bz,bn,bH,hk,bj,cr,az,aQ,bo hk (cu hfl),aR,aT,cg,hd,ht];rw[ih (k+1) (by omega) (by omega),P9 _ hk];unfold mZ;have hna:((kP f.Funcs[k].aF).any fun n=> !(f.bK.any fun y=>n==y))= !((kP f.Funcs[k].aF).all fun n=>f.bK.any fun y=>n==y):=by rw[iE]
    rw[hna];cases dj f.Funcs[k].Name<;>cases ip f.Funcs[k].aF<;>cases ((kP f.Funcs[k].aF).all fun n=>f.bK.any fun y=>n==y)<;>simp
   ·have:k=f.Funcs.length:=by omega
    subst this;rw[M.uj];simp
 have e:=key af 0 (cZ _) (by have:=bU;omega);have e':M.uj f.Funcs (f.Funcs.length:Int) f af 0 []=_:=e;rw[gP]at e';have aAA:=P8 (f.Funcs.map aA.Name) (by rw[dC];exact hfl);have hna:(f.bK.any fun s=> !dj s)= !f.bK.all dj:=by rw[iE]
 unfold M.E3 jM;simp only[hn1,hn2,hv,Fz,hc2,hna,e',gt4,gt8,aR,aT,cg,aQ,az,cr];cases dj f.cV<;>cases dj f.Name<;>cases nq f.Version<;>cases decide (f.bK.length<=4)<;>cases decide (f.Funcs.length<=8)<;>try rfl
 cases f.bK.all dj<;>cases lJ f.bK<;>try rfl
 simp only[eH,uA,ef,bJ,az];cases f.Funcs.all (mZ f.bK)
 ·rfl
 ·simp only[fJ,aAA,aR,aT,cr,az]
theorem N5(f:ax)(h:f.sz<=1048576):M.mE f=some ((f.cV++[47])++f.Name):=by
 rw[ax.bI]at h;unfold M.mE;rw[ri (by simp;omega),ri (by simp;omega)];rfl
theorem BY(f:ax)(h:f.sz<=1048576):M.jP f=some ((f.cV++[47])++f.Name):=by
 rw[ax.bI]at h;unfold M.jP;rw[ri (by simp;omega),ri (by simp;omega)];rfl
end M
namespace M
open Go.V (inB cJ af bU)
def jA(t:aa):Bool:=ia (fun k=>(k==22)||(k==23)) t
def jR(f:aJ):Bool:= !f.Async&& !(f.Params.any (fun p=>jA p.aF)||jA f.Result)
theorem ajH(t:aa)(h:t.sz<=1048576):M.ki t 22 23=some (jA t):=by
 rw[show M.ki=M.mc af from rfl,LI 22 23 af _ (iQ h) h];congr 1;exact congrFun (zO fun k=>by
  rw[gv];simp only[bD,bw,gq,hU];omega) t
theorem aAB(t:aa)(h:t.sz<=1048576):M.kN t [22,23]=some (jA t):=by
 rw[show M.kN=M.mJ af from rfl,LJ [22,23] (by simp) af _ (iQ h) h];congr 1;exact congrFun (zO fun k=>by simp) t
theorem aAC(f:aJ)(h:f.sz<=1048576):M.EU f=some (jR f):=by
 rw[aJ.bI]at h;have hl:f.Params.length<=1048576:=cq (bW ar.sz f.Params) (by omega);have e:M.qc af 0 f=some (if f.Params.all (fun p=> !jA p.aF)then .inr ()else .inl false):=
  ng (p:=fun p=> !jA p.aF) (F:=fun g k=>M.qc g k f) (e:=()) (b:=false) f.Params (by omega) (fun g k hk=>by
   show M.qc (g+1) (k:Int) f=_
   rw[M.qc];have hm:=aC ar.sz _ _ (bA hk);have ht:=ajH f.Params[k].aF (ar.uk (N:=1048576) (by omega));simp only[aa.aj,aJ.aj,getD_lt hk,ht,bz,bn,bH,hk,bj,cr,az,aQ,bo hk (cu hl),aR,aT];cases jA f.Params[k].aF<;>rfl) (fun g=>by
   show M.qc (g+1) (f.Params.length:Int) f=_
   rw[M.qc];simp)
 have hr:=ajH f.Result (by omega);unfold M.EU jR;simp only[aa.aj,aJ.aj,hr,e,aR,aT,cg,aQ,cr];have ha:f.Params.all (fun p=> !jA p.aF)= !(f.Params.any fun p=>jA p.aF):=by rw[List.not_any_eq_all_not]
 rw[ha];cases f.Async<;>cases jA f.Result<;>cases (f.Params.any fun p=>jA p.aF)<;>rfl
theorem aAD(f:aJ)(h:f.sz<=1048576):M.qQ f=some (f.Params.map ar.aF):=by
 rw[aJ.bI]at h;have hl:f.Params.length<=1048576:=cq (bW ar.sz f.Params) (by omega);have key:∀g k,k<=f.Params.length->f.Params.length-k<g->M.nE f.Params (f.Params.length:Int) g (k:Int) ((f.Params.take k).map ar.aF)=some (f.Params.map ar.aF):=by
  intro g
  induction g with
  |zero=>intro k h1 h2;omega
  |succ g ih=>
   intro k h1 h2;rw[M.nE];rcases cG k f.Params.length with hk|hk
   ·have hd:decide ((((f.Params.take k).map ar.aF).length+([f.Params[k].aF]:List aa).length)<=1073741824)=true:=by
     simp only[bw,dC,gZ,aZ,bS];omega
    have ht:(f.Params.take k).map ar.aF++[f.Params[k].aF]=(f.Params.take (k+1)).map ar.aF:=by
     rw[l6,xx,bG hk];rfl
    simp only[aa.aj,getD_lt hk,bz,bn,bH,hk,bj,cr,az,aQ,bo hk (cu hl),hd,ht];exact ih (k+1) (by omega) (by omega)
   ·have:k=f.Params.length:=by omega
    subst this;have:decide (((f.Params.length:Nat):Int)<((f.Params.length:Nat):Int))=false:=by simp
    rw[this,Aa];rfl
 have e:=key af 0 (cZ _) (by have:=bU;omega);unfold M.qQ;have e':M.nE f.Params (f.Params.length:Int) af 0 []=_:=e;rw[e']
theorem aAE(l:List aa)(hl:l.length<=2097152)(hs:∀x∈l,x.sz<=1048576):M.E5 l=some (l.any jA):=by
 have e:=f5 (p:=jA) (F:=M.xg l (l.length:Int)) (e:=()) (fun k=>k) l (by omega) (fun g k hk=>by
  rw[M.xg];have hc:M.E4 l[k]=some (jA l[k]):=by
   unfold M.E4;rw[aa.aj,aAB _ (hs _ (bA hk))];rfl
  simp only[aa.aj,getD_lt hk,hc,bz,bn,bH,hk,bj,cr,az,aQ,bo hk (by omega:l.length<2^62),aR,aT]) (fun g=>by rw[M.xg];simp)
 unfold M.E5 M.Lu;rw[e,jN];cases l.findIdx? jA<;>simp
theorem aAF(f:aJ)(h:f.sz<=1048576):M.E6 f=some (jR f):=by
 have hp:=aAD f h;rw[aJ.bI]at h;have hl:f.Params.length<=1048576:=cq (bW ar.sz f.Params) (by omega);have hc:=aAE (f.Params.map ar.aF++[f.Result]) (by simp;omega) (fun x hx=>by
  rcases dB.1 hx with hx|hx
  ·obtain⟨p,hp,rfl⟩:=qh.1 hx;have hm:=aC ar.sz _ _ hp;exact ar.uk (N:=1048576) (by omega)
  ·simp at hx;subst hx;omega)
 have hd:decide (((f.Params.map ar.aF).length+([f.Result]:List aa).length)<=1073741824)=true:=by
  simp only[bw,dC,aZ,bS];omega
 have ha:(f.Params.map ar.aF++[f.Result]).any jA=(f.Params.any (fun p=>jA p.aF)||jA f.Result):=by
  rw[List.any_append,List.any_map];simp;rfl
 unfold M.E6 jR;cases hA:f.Async
 ·simp only[aJ.aj,aa.aj,hp,hc,hd,ha,rq,cr,aR,aT];simp
 ·simp
def m6(f:ax):Bool:=jM f&&f.Funcs.all fun x=>jR x.aF
def dH(f:ax):List UInt8:=(f.cV++[47])++f.Name
def iq(l:List ax):Bool:=decide (l.length<=6)&&(l.all m6&&lJ (l.map dH))
theorem gt6(n:Nat):decide ((6:Int)<((n:Nat):Int))= !decide (n<=6):=Hg n 6
theorem ajI{l:List ax}(k:Nat)(hk:k<l.length):(l.map dH).getD k []=dH l[k]:=by
 rw[getD_lt (by simpa using hk),Mc]
theorem U4(l:List ax)(h:aK ax.sz l<=1048576):M.yX l=some (iq l):=by
 have hl:l.length<=1048576:=cq (bW ax.sz l) h;have hsz:∀k (hk:k<l.length),l[k].sz<=1048576:=fun k hk=>by have:=aC ax.sz _ _ (bA hk);omega
 have inner:∀i (hi:i<l.length),M.ue l (i:Int) af 0=some (if l[i].Funcs.all (fun x=>jR x.aF)then .inr (l,(i:Int))else .inl false):=fun i hi=>by
  have hs:=hsz i hi;rw[ax.bI]at hs;have hfl:l[i].Funcs.length<=1048576:=cq (bW aA.sz l[i].Funcs) (by omega);exact ng (p:=fun x=>jR x.aF) (F:=M.ue l (i:Int)) (e:=(l,(i:Int))) (b:=false) l[i].Funcs (by omega) (fun g k hk=>by
   rw[M.ue];have hm:=aC aA.sz _ _ (bA hk);have hsz:=aA.bI l[i].Funcs[k];have hp:=aAC l[i].Funcs[k].aF (by omega);simp only[aJ.aj,getD_lt hi,getD_lt hk,hp,bz,bn,bH,hk,hi,bj,cr,az,aQ,bo hk (cu hfl),aR,aT];cases jR l[i].Funcs[k].aF<;>rfl) (fun g=>by
   rw[M.ue];simp only[getD_lt hi,bz,bn,hi,bj];simp)
 have outer:M.qd af l 0=some (if(List.range l.length).all (fun i=>m6 (l.getD i ax.zero)&&((i==0)||Go.V.fu ((l.map dH).getD (i-1) []) ((l.map dH).getD i [])))then .inr ()else .inl false):=
  l7 (p:=fun i=>m6 (l.getD i ax.zero)&&((i==0)||Go.V.fu ((l.map dH).getD (i-1) []) ((l.map dH).getD i []))) (F:=fun g k=>M.qd g l k) (e:=()) (b:=false) l.length (by omega) (fun g k hk=>by
   show M.qd (g+1) l (k:Int)=_
   rw[M.qd];have hf:=aAw l[k] (hsz k hk);have hn:M.jP l[k]=some (dH l[k]):=BY l[k] (hsz k hk);have hin:=inner k hk;unfold m6;rcases lK k with h0|h0
   ·subst h0;have hd0:decide ((0:Int)<((0:Nat):Int))=false:=rfl;simp only[getD_lt hk,hf,hn,hin,hd0,bz,bn,bH,hk,bj,cr,az,aQ,bo hk (cu hl),aR,aT,cg,Ai,kJ,mA];cases jM l[0]
    ·simp
    ·cases l[0].Funcs.all fun x=>jR x.aF
     ·simp
     ·have hw1:Go.IntKind.wrap .i64 1=1:=wrap_i64 (by omega) (by omega);simp[hw1]
   ·have hk1:k-1<l.length:=by omega
    have hp:decide ((0:Int)<(k:Int))=true:=by rw[bw];omega
    have hz:(k==0)=false:=by rw[d6];omega
    have hn1:M.jP l[k-1]=some (dH l[k-1]):=BY l[k-1] (hsz _ hk1);simp only[ajI k hk,ajI (k-1) hk1,getD_lt hk,getD_lt hk1,hf,hn,hn1,hin,hp,hz,um h0 (sd hk) (cu hl),bz,bn,bH,hk,hk1,bj,cr,az,aQ,bo hk (cu hl),aR,aT,cg,nN];cases jM l[k]
    ·simp
    ·cases Go.V.fu (dH l[k-1]) (dH l[k])
     ·simp
     ·cases l[k].Funcs.all fun x=>jR x.aF
      ·simp
      ·simp[bo hk (cu hl)]) (fun g=>by
   show M.qd (g+1) l (l.length:Int)=_
   rw[M.qd];simp)
 rw[Ft,Fv m6 l ax.zero]at outer;have hr:(List.range l.length).all (fun i=>(i==0)||Go.V.fu ((l.map dH).getD (i-1) []) ((l.map dH).getD i []))=lJ (l.map dH):=by
  unfold lJ;rw[dC]
 rw[hr]at outer;unfold M.yX iq;rw[gt6,outer];cases decide (l.length<=6)
 ·rfl
 ·cases l.all m6<;>cases lJ (l.map dH)<;>rfl
theorem U6(l:List ax)(h:aK ax.sz l<=1048576):M.zh l=some (iq l):=by
 have hl:l.length<=1048576:=cq (bW ax.sz l) h;have hsz:∀k (hk:k<l.length),l[k].sz<=1048576:=fun k hk=>by have:=aC ax.sz _ _ (bA hk);omega
 have hcf:∀f:ax,f.sz<=1048576->M.E8 f.Funcs=some (f.Funcs.any fun x=> !jR x.aF):=fun f hf=>by
  rw[ax.bI]at hf;have hfl:f.Funcs.length<=1048576:=cq (bW aA.sz f.Funcs) (by omega);have e:=f5 (p:=fun x:aA=> !jR x.aF) (F:=M.xh f.Funcs (f.Funcs.length:Int)) (e:=()) (fun k=>k) f.Funcs (by omega) (fun g k hk=>by
   rw[M.xh];have hm:=aC aA.sz _ _ (bA hk);have hsz:=aA.bI f.Funcs[k];have hc:M.E7 f.Funcs[k]=some (!jR f.Funcs[k].aF):=by
    unfold M.E7;rw[aJ.aj,aAF _ (by omega)];rfl
   simp only[aA.aj,getD_lt hk,hc,bz,bn,bH,hk,bj,cr,az,aQ,bo hk (cu hfl),aR,aT]) (fun g=>by rw[M.xh];simp)
  unfold M.E8 M.Ly;rw[e,jN];cases f.Funcs.findIdx? (fun x=> !jR x.aF)<;>simp
 have key:∀g k,k<=l.length->l.length-k<g->M.xi l l (l.length:Int) g (k:Int) ((l.take k).map dH)=some (if(l.drop k).all m6 then .inr (l,l.map dH)else .inl false):=by
  intro g
  induction g with
  |zero=>intro k h1 h2;omega
  |succ g ih=>
   intro k h1 h2;rw[M.xi];rcases cG k l.length with hk|hk
   ·have hf:=aAy l[k] (hsz k hk);have hn:M.mE l[k]=some (dH l[k]):=N5 l[k] (hsz k hk);have hc:=hcf l[k] (hsz k hk);have hd:decide ((((l.take k).map dH).length+([dH l[k]]:List (List UInt8)).length)<=1073741824)=true:=by
     simp only[bw,dC,gZ,aZ,bS];omega
    have ht:(l.take k).map dH++[dH l[k]]=(l.take (k+1)).map dH:=by
     rw[l6,xx,bG hk];rfl
    have hna:(l[k].Funcs.any fun x=> !jR x.aF)= !(l[k].Funcs.all fun x=>jR x.aF):=by rw[iE]
    simp only[getD_lt hk,hf,hn,hc,hna,bz,bn,bH,hk,bj,cr,az,aQ,bo hk (cu hl),aR,aT,cg,hd,ht];rw[ih (k+1) (by omega) (by omega),P9 _ hk];unfold m6;cases jM l[k]<;>cases (l[k].Funcs.all fun x=>jR x.aF)<;>simp
   ·have:k=l.length:=by omega
    subst this;have:decide (((l.length:Nat):Int)<((l.length:Nat):Int))=false:=by simp
    rw[this,eB,Aa];rfl
 have e:=key af 0 (cZ _) (by have:=bU;omega);have e':M.xi l l (l.length:Int) af 0 []=_:=e;rw[gP]at e';have Fz:=P8 (l.map dH) (by rw[dC];exact hl);have e6:decide (((l.length:Nat):Int)<=6)=decide (l.length<=6):=by simp only[ka];omega
 unfold M.zh iq;rw[e'];cases l.all m6
 ·simp
 ·simp only[fJ,Fz,e6,aR,aT,cg,az,aQ,cr]
end M
