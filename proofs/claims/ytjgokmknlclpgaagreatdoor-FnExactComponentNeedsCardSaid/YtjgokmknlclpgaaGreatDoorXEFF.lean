/-
  VERSIONS: what the program and the reference find of them.
-/
import Derived.Test.YtjgokmknlclpgaaGreatDoorXETP
import Derived.Test.YtjgokmknlclpgaaGreatDoorXVER
set_option linter.unusedVariables false
set_option linter.unusedSimpArgs false
namespace M
open Go.V (inB yx az bU)
def Y1(s:List UInt8):Bool:=(SY.apJ s).isSome
theorem asU(s:List UInt8):(match M.jv s with|(v,b)=>if b=true/\(0<=v/\v<=999)then some v.toNat else none)=SY.Sz s:=by
 unfold M.jv SY.Sz;cases Go.Lib.parseIntB 64 s with
 |ok v=>
  simp only;by_cases h:Go.Lib.itoa v=s
  ·rw[bI h];simp only[h,apK]
  ·rw[bu h];simp[h]
 |_=>simp
theorem WA(s:List UInt8):(SY.Sz s=none/\((!(M.jv s).2)||(!(decide ((0:Int)<=(M.jv s).1)&&decide ((M.jv s).1<=999))))=true)\/∃n:Nat,SY.Sz s=some n/\n<=999/\(M.jv s).1=(n:Int)/\((!(M.jv s).2)||(!(decide ((0:Int)<=(M.jv s).1)&&decide ((M.jv s).1<=999))))=false:=by
 have h:=asU s;generalize M.jv s=p at h;obtain⟨v,b⟩:=p;simp only at h⊢;by_cases hc:b=true/\(0<=v/\v<=999)
 ·rw[bI hc]at h;exact .inr ⟨v.toNat,h.symm,by omega,by omega,by simp[hc.1,hc.2.1,hc.2.2]⟩
 ·rw[bu hc]at h;refine .inl ⟨h.symm,?_⟩;cases b
  ·rfl
  ·simp only[Ad,NT,EY,Bool.and_eq_false_iff,AO];simp only[apK]at hc;omega
theorem aAU(s:List UInt8):∀p∈SY.gq s,p.length<=s.length:=by
 have key:∀(s:List UInt8),∀p∈SY.gq s,p.length<=s.length:=by
  intro s
  induction s with
  |nil=>intro p hp;simp[SY.gq]at hp;subst hp;simp
  |cons c r ih=>
   intro p hp;unfold SY.gq at hp;split at hp
   ·rcases AB.1 hp with rfl|hp
    ·simp
    ·have:=ih p hp;simp;omega
   ·split at hp
    ·rename_i x y e;rw[e]at ih;rcases AB.1 hp with rfl|hp
     ·have:=ih x (by simp);simp;omega
     ·have:=ih p (by simp[hp]);simp;omega
    ·simp at hp;subst hp;simp
 exact key s
theorem ate(s:List UInt8)(h:s.length<=1048576):M.AY s=some (Y1 s):=by
 have hs:M.strings_Split s [46]=some (SY.gq s):=by
  unfold M.strings_Split;have:decide (s.length<4294967281)=true:=by rw[jX];omega
  rw[this];rfl
 have hrd:∀p∈SY.gq s,M.oI p=some (M.jv p):=fun p hp=>by
  have:=aAU s p hp;unfold M.oI;have:decide (p.length<=281474976710656)=true:=by rw[jX];omega
  rw[this];rfl
 have hv:∃v:Int×Bool,M.zI s=some v/\v.2=Y1 s:=by
  unfold M.zI Y1 SY.apJ;rw[hs];simp only[jR,jY,dY,jg,bQ]
  match hp:SY.gq s,hrd with
  |[],_=>exact⟨_,rfl,rfl⟩
  |[a],_=>exact⟨_,rfl,rfl⟩
  |[a,b],_=>exact⟨_,rfl,rfl⟩
  |a::b::c::d::r,_=>
   have:((((a::b::c::d::r).length:Nat):Int) !=3)=true:=by
    simp only[jA,Ti];omega
   rw[this];exact⟨_,rfl,rfl⟩
  |[a,b,c],hrd=>
    have h3:((((([a,b,c]:List (List UInt8)).length:Nat):Int) !=3))=false:=rfl;rw[h3];simp only[gG];obtain⟨f0,hf0⟩:∃f0,az=f0+4:=⟨az-4,by have:=bU;omega⟩;have ra:=hrd a (by simp);have rb:=hrd b (by simp);have rc:=hrd c (by simp);have st:∀(f:Nat)(n:Int)(k:Nat)(p:List UInt8)(hk:k<3),([a,b,c].getD k [])=p->M.oI p=some (M.jv p)->M.jr [a,b,c] ((([a,b,c]:List (List UInt8)).length:Nat):Int) (f+1) n (k:Int)=
     bif((!(M.jv p).2)||(!(decide ((0:Int)<=(M.jv p).1)&&decide ((M.jv p).1<=999))))then some (.inl (0,false))else M.jr [a,b,c] ((([a,b,c]:List (List UInt8)).length:Nat):Int) f (Go.IntKind.wrap .i64 (Go.IntKind.wrap .i64 (n*1000)+(M.jv p).1)) ((k+1:Nat):Int):=fun f n k p hk hg hr=>by
     rw[M.jr];have hlt:decide ((k:Int)<((([a,b,c]:List (List UInt8)).length:Nat):Int))=true:=by simp;omega
     have hin:inB (k:Int) ([a,b,c]:List (List UInt8)).length=true:=by rw[bn];simp;omega
     simp only[hlt,bQ,kE,hg,hr,jR,jY,hin,dY,jg,dB (show k<3 from hk) (by omega)]
    have e0:=st (f0+3) 0 0 a (by omega) rfl ra;rw[hf0];change M.jr [a,b,c] ((([a,b,c]:List (List UInt8)).length:Nat):Int) (f0+4) 0 0=_ at e0;rw[e0];rcases WA a with⟨ha,ca⟩|⟨x,ha,hx,ea,ca⟩
    ·rw[ca,ha];exact⟨_,rfl,rfl⟩
    rw[ca,ha];have w1:Go.IntKind.wrap .i64 (Go.IntKind.wrap .i64 ((0:Int)*1000)+(M.jv a).1)=(x:Int):=by
     rw[ea,wrap_i64 (n:=0*1000) (by omega) (by omega),wrap_i64 (by omega) (by omega)];omega
    rw[gG,w1,st (f0+2) _ 1 b (by omega) rfl rb];rcases WA b with⟨hb,cb⟩|⟨y,hb,hy,eb,cb⟩
    ·rw[cb,hb];exact⟨_,rfl,rfl⟩
    rw[cb,hb];have w2:Go.IntKind.wrap .i64 (Go.IntKind.wrap .i64 ((x:Int)*1000)+(M.jv b).1)=((x*1000+y:Nat):Int):=by
     rw[eb,wrap_i64 (show -9223372036854775808<=(x:Int)*1000 by omega) (by omega),wrap_i64 (by omega) (by omega)];omega
    rw[gG,w2,st (f0+1) _ 2 c (by omega) rfl rc];rcases WA c with⟨hc,cc⟩|⟨z,hc,hz,ec,cc⟩
    ·rw[cc,hc];exact⟨_,rfl,rfl⟩
    rw[cc,hc];have w3:Go.IntKind.wrap .i64 (Go.IntKind.wrap .i64 (((x*1000+y:Nat):Int)*1000)+(M.jv c).1)=(((x*1000+y)*1000+z:Nat):Int):=by
     rw[ec,wrap_i64 (show -9223372036854775808<=((x*1000+y:Nat):Int)*1000 by omega) (by omega),wrap_i64 (by omega) (by omega)];omega
    rw[gG,w3,M.jr];exact⟨_,rfl,rfl⟩
 obtain⟨v,h1,h2⟩:=hv;unfold M.AY;rw[h1];simp only[jY,jR,jg,bQ,h2]
end M
namespace M
open Go.V (inB yx az bU)
theorem azP{n:Nat}(h:n<10):Go.IntKind.wrap .u8 (Go.IntKind.wrap .i64 ((48:Int)+(n:Int)))=((48+n:Nat):Int):=by
 rw[wrap_i64 (by omega) (by omega)];have:∀m:Fin 10,Go.IntKind.wrap .u8 ((48:Int)+((m.val:Nat):Int))=((48+m.val:Nat):Int):=by decide
 exact this ⟨n,h⟩
theorem apL{n:Nat}(h:n<10):Go.V.apM ((48+n:Nat):Int)=true:=by
 unfold Go.V.apM;simp only[lS,jX];omega
theorem apN(n:Nat):Go.V.asV ((48+n:Nat):Int)=UInt8.ofNat (48+n):=by
 unfold Go.V.asV;rw[kE]
theorem ayl{n:Nat}(h:n<10)(f:Nat):M.wV (f+1) (n:Int)=some [UInt8.ofNat (48+n)]:=by
 show M.Ih (M.wV f) (n:Int)=_
 unfold M.Ih;have:decide ((n:Int)<10)=true:=by rw[jX];omega
 simp only[this,azP h,apL h,apN];rfl
theorem apO(a b:Nat):Int.tdiv (a:Int) (b:Int)=((a/b:Nat):Int):=(Int.ofNat_tdiv a b).symm
theorem apP(a b:Nat):Int.tmod (a:Int) (b:Int)=((a%b:Nat):Int):=(Int.ofNat_tmod a b).symm
theorem ui{a b:List UInt8}(h:a.length+b.length<=4611686018427387904):Go.V.agI a b=true:=by
 unfold Go.V.agI;rw[jX];exact h
theorem alc{n:Nat}(h:10<=n)(hn:n<1000)(f:Nat){x:List UInt8}(hx:M.wV f ((n/10:Nat):Int)=some x)(hl:x.length<=10):M.wV (f+1) (n:Int)=some (x++[UInt8.ofNat (48+n%10)]):=by
 show M.Ih (M.wV f) (n:Int)=_
 unfold M.Ih;have h1:decide ((n:Int)<10)=false:=by rw[AO];omega
 have h2:Go.IntKind.wrap .i64 (Int.tdiv (n:Int) 10)=((n/10:Nat):Int):=by
  rw[show Int.tdiv (n:Int) 10=((n/10:Nat):Int)from apO n 10,wrap_i64 (by omega) (by omega)]
 have h3:Int.tmod (n:Int) 10=((n%10:Nat):Int):=apP n 10;have h4:n%10<10:=Nat.mod_lt _ (by decide);simp only[h1,h2,h3,hx,azP h4,apL h4,apN,jR,jY,gG,YY,List.map_nil];rw[ui (by simp;omega)];rfl
theorem aCg{n:Nat}(h:n<1000):M.PH (n:Int)=some (SY.dec n):=by
 obtain⟨f,hf⟩:∃f,az=f+3:=⟨az-3,by have:=bU;omega⟩;rw[show M.PH=M.wV az from rfl,hf];unfold SY.dec;by_cases h1:n<10
 ·rw[bI h1];exact ayl h1 (f+2)
 ·rw[bu h1];by_cases h2:n<100
  ·rw[bI h2];have:=alc (by omega) h (f+2) (ayl (show n/10<10 by omega) (f+1)) (by simp);simpa using this
  ·rw[bu h2];have a:=ayl (show n/100<10 by omega) f;have b:=alc (n:=n/10) (by omega) (by omega) (f+1) (by rw[show n/10/10=n/100 by omega];exact a) (by simp);have:=alc (by omega) h (f+2) b (by simp);simpa using this
theorem aHI{n:Nat}(h:n<1000000000):M.Vx (n:Int)=some (SY.PL n):=by
 unfold M.Vx;have e1:Go.IntKind.wrap .i64 (Int.tdiv (n:Int) 1000000)=((n/1000000:Nat):Int):=by rw[show Int.tdiv (n:Int) 1000000=((n/1000000:Nat):Int)from apO n 1000000,wrap_i64 (by omega) (by omega)]
 have e2:Int.tmod (Go.IntKind.wrap .i64 (Int.tdiv (n:Int) 1000)) 1000=((n/1000%1000:Nat):Int):=by
  rw[show Int.tdiv (n:Int) 1000=((n/1000:Nat):Int)from apO n 1000,wrap_i64 (by omega) (by omega)];exact apP (n/1000) 1000
 have e3:Int.tmod (n:Int) 1000=((n%1000:Nat):Int):=apP n 1000;have l1:=SY.I9 (n:=n/1000000);have l2:=SY.I9 (n:=n/1000%1000);have l3:=SY.I9 (n:=n%1000);simp only[e1,e2,e3,aCg (show n/1000000<1000 by omega),aCg (show n/1000%1000<1000 by omega),aCg (show n%1000<1000 by omega),jR,jY];rw[ui (by simp;omega),ui (by simp;omega),ui (by simp;omega),ui (by simp;omega)];unfold SY.PL;simp
structure aG3 (k n p d:Nat) (n':Int):Prop where
 fp:p<10^k
 fd:d<=k
 eq:d<=2->n'=(n:Int)
 d0:d=0->n=0
 d1:d=1->n<1001000000000000
 d2:d=2->n<2000000000000000000
theorem apQ(s:List UInt8):∀(g k n p d:Nat)(n':Int),k<=min s.length 12->min s.length 12-k<g->aG3 k n p d n'->
 (SY.scan (n,p,d) ((s.take 12).drop k)=none/\M.rU s g n' (p:Int) (d:Int) (k:Int)=some (.inl (-1)))\/
 ∃(m q e:Nat)(m':Int),SY.scan (n,p,d) ((s.take 12).drop k)=some (m,q,e)/\M.rU s g n' (p:Int) (d:Int) (k:Int)=some (.inr (s,m',(q:Int),(e:Int)))/\aG3 (min s.length 12) m q e m'
 |0,k,n,p,d,n',h1,h2,_=>by omega
 |g+1,k,n,p,d,n',h1,h2,hI=>by
  rw[M.rU];have hlen:(s.take 12).length=min s.length 12:=by rw[VB,Nat.min_comm]
  rcases kF k (min s.length 12)with hk|hk
  ·have hks:k<s.length:=by omega
   have hd:(s.take 12).drop k=s[k]::(s.take 12).drop (k+1):=by
    rw[jb (by rw[hlen];exact hk)];congr 1;rw[List.getElem_take]
   have aLf:p<1000000000000:=agJ hI.fp (lH (Nat.pow_le_pow_right (by decide) (show k<=12 by omega)) (by decide));have c1:decide ((k:Int)<((s.length:Nat):Int))=true:=by rw[jX];omega
   have c2:decide ((k:Int)<12)=true:=by rw[jX];omega
   have c3:inB (k:Int) s.length=true:=by rw[bn];simpa using hks
   have hw:Go.IntKind.wrap .i64 ((k:Int)+1)=((k+1:Nat):Int):=by rw[wrap_i64 (by omega) (by omega)];omega
   rw[hd];simp only[c1,c2,c3,hw,kE,getD_lt hks,jg,dY,jc,bQ];rw[SY.scan];by_cases h46:s[k]=46
   ·rw[bI h46];have:((((s[k]).toNat:Nat):Int)==46)=true:=by rw[h46];decide
    rw[this,bQ];have hw2:Go.IntKind.wrap .i64 ((d:Int)+1)=((d+1:Nat):Int):=by have:=hI.fd;rw[wrap_i64 (by omega) (by omega)];omega
    rw[hw2];refine apQ s g (k+1) ((n+p)*1000) 0 (d+1) _ (by omega) (by omega) ⟨Nat.pow_pos (by decide),by have:=hI.fd;omega,fun hd2=>?_,fun h=>by omega,fun h=>?_,fun h=>?_⟩
    ·have hn:n<1001000000000000:=by
      rcases kF d 1 with h|h
      ·rw[hI.d0 (by omega)];decide
      ·exact hI.d1 (by omega)
     rw[hI.eq (by omega),wrap_i64 (n:=(n:Int)+(p:Int)) (by omega) (by omega),wrap_i64 (by omega) (by omega)];omega
    ·rw[hI.d0 (by omega)];omega
    ·have:=hI.d1 (by omega);omega
   ·rw[bu h46];have hne:((((s[k]).toNat:Nat):Int)==46)=false:=by
     rw[AP];intro e;exact h46 (UInt8.toNat.inj (by have:(46:UInt8).toNat=46:=rfl;omega))
    rw[hne,gG];by_cases hdig:48<=s[k].toNat/\s[k].toNat<=57
    ·rw[bI hdig];have d1:decide ((((s[k]).toNat:Nat):Int)<48)=false:=by rw[AO];omega
     have d2:decide ((57:Int)<(((s[k]).toNat:Nat):Int))=false:=by rw[AO];omega
     have hu:Go.IntKind.wrap .u8 ((((s[k]).toNat:Nat):Int)-48)=((s[k].toNat-48:Nat):Int):=by
      have:∀m:Fin 58,48<=m.val->Go.IntKind.wrap .u8 (((m.val:Nat):Int)-48)=((m.val-48:Nat):Int):=by decide
      exact this ⟨s[k].toNat,by omega⟩ hdig.1
     have hw3:Go.IntKind.wrap .i64 (Go.IntKind.wrap .i64 ((10:Int)*(p:Int))+Go.IntKind.wrap .i64 (((s[k].toNat-48:Nat):Int)))=((10*p+(s[k].toNat-48):Nat):Int):=by
      rw[wrap_i64 (n:=(10:Int)*(p:Int)) (by omega) (by omega),wrap_i64 (n:=((s[k].toNat-48:Nat):Int)) (by omega) (by omega),wrap_i64 (by omega) (by omega)];omega
     simp only[d1,d2,aoH,gG,hu,hw3];refine apQ s g (k+1) n (10*p+(s[k].toNat-48)) d n' (by omega) (by omega) ⟨?_,by have:=hI.fd;omega,hI.eq,hI.d0,hI.d1,hI.d2⟩;have:=hI.fp;rw[Nat.pow_succ];omega
    ·rw[bu hdig];have:(decide ((((s[k]).toNat:Nat):Int)<48)||decide ((57:Int)<(((s[k]).toNat:Nat):Int)))=true:=by
      rw[CG,jX,jX];omega
     rw[this];exact .inl ⟨rfl,rfl⟩
  ·have hk':k=min s.length 12:=by omega
   subst hk';have hd:(s.take 12).drop (min s.length 12)=[]:=by rw[<-hlen,Sl]
   have:(decide (((min s.length 12:Nat):Int)<((s.length:Nat):Int))&&decide (((min s.length 12:Nat):Int)<12))=false:=by
    rw[Bool.and_eq_false_iff,AO,AO];omega
   rw[this,hd];exact .inr ⟨n,p,d,n',rfl,rfl,hI⟩
theorem atd(s:List UInt8):M.Bi s=some (Y1 s):=by
 have key:∃r:Int,M.abZ s=some r/\decide (0<=r)=(SY.apR s).isSome:=by
  unfold M.abZ SY.apR;have hl:=apQ s az 0 0 0 0 0 (oG _) (by have:=bU;omega) ⟨by simp,iM _,fun _=>rfl,fun _=>rfl,fun h=>by omega,fun h=>by omega⟩;rw[Nk]at hl;rcases hl with⟨e1,e2⟩|⟨m,q,e,m',e1,e2,hI⟩
  ·have e2':M.rU s az 0 0 0 0=_:=e2;rw[e1,e2'];exact⟨-1,rfl,rfl⟩
  ·have e2':M.rU s az 0 0 0 0=_:=e2;rw[e1,e2'];simp only;have hq:q<1000000000000:=agJ hI.fp (lH (Nat.pow_le_pow_right (by decide) (show min s.length 12<=12 by omega)) (by decide));by_cases he:e=2
   ·subst he;have hm:=hI.d2 rfl;have hw:Go.IntKind.wrap .i64 (m'+(q:Int))=((m+q:Nat):Int):=by
     rw[hI.eq (by omega),wrap_i64 (by omega) (by omega)];omega
    rw[hw];by_cases hc:q<=999/\m+q<1000000000
    ·have c1:((((2:Nat):Int) !=2)||decide ((999:Int)<(q:Int)))=false:=by
      rw[alf,AO];exact⟨rfl,by omega⟩
     have c2:(decide ((0:Int)<=((m+q:Nat):Int))&&decide (((m+q:Nat):Int)<=999999999))=true:=by
      rw[lS,jX,jX];omega
     rw[c1,c2,aHI hc.2];by_cases ht:SY.PL (m+q)=s
     ·rw[bI ⟨rfl,hc.1,hc.2,ht⟩];refine⟨((m+q:Nat):Int),?_,by simp;omega⟩;simp[ht]
     ·rw[bu (fun h=>ht h.2.2.2)];refine⟨-1,?_,by simp⟩;have:(SY.PL (m+q)==s)=false:=by rw[AP];exact ht
      simp[this]
    ·rw[bu (fun h=>hc ⟨h.2.1,h.2.2.1⟩)];have c:(((((2:Nat):Int) !=2)||decide ((999:Int)<(q:Int)))|| !(decide ((0:Int)<=((m+q:Nat):Int))&&decide (((m+q:Nat):Int)<=999999999)))=true:=by
      rw[CG,CG,jX,EY,Bool.and_eq_false_iff,AO,AO];omega
     rw[c];exact⟨-1,by simp,by simp⟩
   ·rw[bu (fun h=>he h.1)];have c:((((e:Nat):Int) !=2))=true:=by rw[Ti];omega
    rw[c];exact⟨-1,by simp,by simp⟩
 obtain⟨r,h1,h2⟩:=key;unfold M.Bi Y1;rw[h1,SY.aCh];simp only[jY,jR,jg,bQ,h2]
end M
namespace M
open Go.V (inB yx az bU)
mutual
def J8:ae->List (List UInt8)
 |.mk k n l kids=>(if ab7 (.mk k n l kids)then[n]else[])++YR kids
def YR:List ae->List (List UInt8)
 |[]=>[]
 |x::r=>J8 x++YR r
end
theorem au5(t:ae):J8 t=(if ab7 t then[t.Name]else[])++YR t.Kids:=by cases t;rfl
mutual
def aAW:ae->List (List UInt8)
 |.mk k n l kids=>(if n==[]then[]else[n])++au6 kids
def au6:List ae->List (List UInt8)
 |[]=>[]
 |x::r=>aAW x++au6 r
end
theorem azQ(t:ae):aAW t=(if t.Name==[]then[]else[t.Name])++au6 t.Kids:=by cases t;rfl
theorem apS:∀l:List ae,(∀x∈l,(J8 x).length<=je x)->(YR l).length<=qU l
 |[],_=>iM _
 |x::r,h=>by
  have:=h x (by simp);have:=apS r fun y hy=>h y (by simp[hy])
  simp only[YR,qU,zH];omega
theorem atg:∀(n:Nat)(t:ae),t.sz<n->(J8 t).length<=je t
 |0,t,h=>by omega
 |n+1,t,h=>by
  rw[au5,CJ,zH];have:=apS t.Kids fun x hx=>atg n x (by have:=ae.zA hx;omega)
  split
  ·simp;omega
  ·simp;omega
theorem VC(t:ae):(J8 t).length<=je t:=atg _ t (awE _)
theorem ath:∀(n:Nat)(t:ae),t.sz<n->ku t=true->J8 t=aAW t
 |0,t,h,_=>by omega
 |n+1,t,h,hs=>by
  rw[au5,azQ];have hk:∀l:List ae,(∀x∈l,x∈t.Kids)->YR l=au6 l:=by
   intro l
   induction l with
   |nil=>intro _;rfl
   |cons x r ih=>
    intro hl;have hx:=hl x (by simp);rw[NL,lS,PM,zG]at hs;simp only[YR,au6];rw[ih fun y hy=>hl y (by simp[hy]),ath n x (by have:=ae.zA hx;omega) (hs.2 x hx)]
  rw[hk t.Kids fun _ h=>h];congr 1;rw[NL,lS]at hs;have h1:=hs.1;unfold SA at h1;simp only[lS]at h1;have h2:=h1.1.2;cases hn:ab7 t
  ·rw[hn]at h2;simp only[PN,Nl]at h2⊢;rw[bI h2]
  ·rw[hn]at h2;simp only[Fh]at h2⊢;have:(t.Name==[])=false:=by
    rw[AP];intro e;rw[e]at h2;revert h2;decide
   rw[this];rfl
theorem awF{t:ae}(h:ku t=true):J8 t=aAW t:=ath _ t (awE _) h
theorem ab8:∀(m:Nat)(t:ae),t.sz<m->t.sz<=1048576->M.oJ m t=some (J8 t)
 |0,t,h,_=>by omega
 |m+1,t,h,hN=>by
  show M.II (M.oJ m) t=_
  unfold M.II;have hl:=ae.uj hN;have hsum:=aiZ (ae.acX hN);have hkl:∀k,k<=t.Kids.length->(YR (t.Kids.take k)).length<=qU t.Kids:=fun k hk=>
   lH (apS _ fun x _=>VC x) (au7 _ _)
  have key:∀f k (pre:List (List UInt8)),pre.length<=1->k<=t.Kids.length->t.Kids.length-k<f->M.mQ (M.oJ m) t.Kids (t.Kids.length:Int) f (k:Int) (pre++YR (t.Kids.take k))=some (pre++YR t.Kids):=by
   intro f
   induction f with
   |zero=>intro k pre _ h1 h2;omega
   |succ f ih=>
    intro k pre hp h1 h2;rw[M.mQ];rcases kF k t.Kids.length with hk|hk
    ·have hx:=ae.zA (gp hk);have hc:=ab8 m t.Kids[k] (by omega) (by omega);have hlen:=hkl k h1;have hlx:(J8 t.Kids[k]).length<=qU t.Kids:=lH (VC _) (apT _ _ (gp hk));have hd:decide ((pre++YR (t.Kids.take k)).length+(J8 t.Kids[k]).length<=1073741824)=true:=by rw[jX,zH];omega
     have ht:YR (t.Kids.take (k+1))=YR (t.Kids.take k)++J8 t.Kids[k]:=by
      have app:∀(a b:List ae),YR (a++b)=YR a++YR b:=fun a b=>by
       induction a with
       |nil=>rfl
       |cons x r ih=>simp only[Hw,YR,ih,aoI]
      rw[ajP,wH hk,app];simp[YR]
     simp only[ae.aF,getD_lt hk,hc,kE,bn,gZ,hk,eG,bQ,dY,jg,dB hk (dO hl),jR,jY,hd];rw[aoI,<-ht];exact ih (k+1) pre hp (by omega) (by omega)
    ·have:k=t.Kids.length:=by omega
     subst this;simp
  have e1:=key az 0 [t.Name] (by simp) (oG _) (by have:=bU;omega);have e2:=key az 0 [] (by simp) (oG _) (by have:=bU;omega);rw[List.take_zero]at e1 e2;have e1':M.mQ (M.oJ m) t.Kids (t.Kids.length:Int) az 0 ([]++[t.Name])=_:=e1;have e2':M.mQ (M.oJ m) t.Kids (t.Kids.length:Int) az 0 []=_:=e2;rw[e1',e2',au5];have hnb:((t.Kind==20)||(t.Kind==21))=ab7 t:=rfl;rw[hnb];cases ab7 t<;>simp
def agK(f:ah):List (List UInt8):=J8 f.Result++f.Params.flatMap fun p=>J8 p.aZ
theorem WB{t:ae}(h:tOk t=true):je t<=24:=by
 unfold tOk at h;simp only[lS,jX]at h;exact h.1.2
theorem apU{l:List ay}(h:eF ay.sz l<=1048576):∀k,((l.take k).flatMap fun p=>J8 p.aZ).length<=eF ay.sz l+l.length:=fun k=>by
 have key:∀l:List ay,(l.flatMap fun p=>J8 p.aZ).length<=eF ay.sz l+l.length:=by
  intro l
  induction l with
  |nil=>simp
  |cons p r ih=>
   have h1:=VC p.aZ;have h2:=VD p.aZ;have h3:=ay.dN p;simp only[List.flatMap_cons,zH,eF,jA];omega
 have h1:=key (l.take k);have h2:eF ay.sz (l.take k)<=eF ay.sz l:=by
  have:∀(l:List ay) k,eF ay.sz (l.take k)<=eF ay.sz l:=by
   intro l
   induction l with
   |nil=>intro k;simp
   |cons x r ih=>
    intro k;cases k with
    |zero=>simp[eF]
    |succ k=>simp only[List.take_succ_cons,eF];have:=ih k;omega
  exact this l k
 have h3:(l.take k).length<=l.length:=by simp;omega
 omega
theorem aAX(f:ah)(h:f.sz<=1048576):M.zJ f=some (agK f):=by
 rw[ah.dN]at h;have hl:f.Params.length<=1048576:=lH (dh ay.sz f.Params) (by omega);have hr:M.Ez f.Result=some (J8 f.Result):=ab8 az _ (uz (by omega)) (by omega);have hrl:(J8 f.Result).length<=f.Result.sz+1:=lH (VC _) (VD _);have key:∀g k,k<=f.Params.length->f.Params.length-k<g->M.lG f.Params (f.Params.length:Int) g (k:Int) (J8 f.Result++(f.Params.take k).flatMap fun p=>J8 p.aZ)=some (agK f):=by
  intro g
  induction g with
  |zero=>intro k h1 h2;omega
  |succ g ih=>
   intro k h1 h2;rw[M.lG];rcases kF k f.Params.length with hk|hk
   ·have hm:=eY ay.sz _ _ (gp hk);have hty:f.Params[k].aZ.sz<=1048576:=ay.Ry (N:=1048576) (by omega);have hc:M.Ez f.Params[k].aZ=some (J8 f.Params[k].aZ):=ab8 az _ (uz hty) hty;have hb:=apU (l:=f.Params) (by omega) k;have hb2:(J8 f.Params[k].aZ).length<=1048577:=by have:=VC f.Params[k].aZ;have:=VD f.Params[k].aZ;omega
    have hd:decide ((J8 f.Result++(f.Params.take k).flatMap fun p=>J8 p.aZ).length+(J8 f.Params[k].aZ).length<=1073741824)=true:=by
     rw[jX,zH];omega
    simp only[ae.aF,getD_lt hk,hc,kE,bn,gZ,hk,eG,bQ,dY,jg,dB hk (dO hl),jR,jY,hd];have:=ih (k+1) (by omega) (by omega);rw[ajP,wH hk,List.flatMap_append]at this;simpa [aoI]using this
   ·have:k=f.Params.length:=by omega
    subst this;rw[atz];have:decide (((f.Params.length:Nat):Int)<((f.Params.length:Nat):Int))=false:=by simp
    rw[this];rfl
 have e:=key az 0 (oG _) (by have:=bU;omega);unfold M.zJ;have e':M.lG f.Params (f.Params.length:Int) az 0 (J8 f.Result)=some (agK f):=by simpa using e
 simp only[ae.aF,hr,jR,e',jY,jg,bQ]
end M
namespace M
open Go.V (inB yx az bU)
theorem aAY(l:List (List UInt8))(s:List UInt8)(hl:l.length<=16777216):∃out,M.GK l s=some out/\(∀x,x∈out↔x∈l\/x=s)/\out.length<=l.length+1:=by
 have key:∀g k (done:Bool) (out:List (List UInt8)),k<=l.length->l.length-k<g->(∀x,x∈out↔x∈l.take k\/(done=true/\x=s))->out.length<=k+1->(done=false->out.length<=k)->
  ∃done' out',M.nR l s g done (k:Int) out=some (s,done',out')/\(∀x,x∈out'↔x∈l\/(done'=true/\x=s))/\out'.length<=l.length+1/\(done'=false->out'.length<=l.length):=by
  intro g
  induction g with
  |zero=>intro k done out h1 h2;omega
  |succ g ih=>
   intro k done out h1 h2 hm hlen hlen2;rw[M.nR];rcases kF k l.length with hk|hk
   ·have ht:∀x,x∈l.take (k+1)↔x∈l.take k\/x=l[k]:=fun x=>by
     rw[ajP,wH hk,qC];simp
    have d2:decide (out.length+([l[k]]:List (List UInt8)).length<=1073741824)=true:=by rw[jX];simp;omega
    have d3:decide (out.length+([s]:List (List UInt8)).length<=1073741824)=true:=by rw[jX];simp;omega
    have d4:decide ((out++[s]).length+([l[k]]:List (List UInt8)).length<=1073741824)=true:=by rw[jX];simp;omega
    simp only[getD_lt hk,kE,bn,gZ,hk,eG,bQ,dY,jg,jc,dB hk (by omega:l.length<2^62),d2,d3,d4];have hq:∀b:Bool,(((decide True&&true|| !b)&&(decide True&&true||b)))=true:=fun b=>by cases b<;>rfl
    by_cases he:l[k]=s
    ·have hb:(l[k]==s)=true:=by rw[he];exact aoD s
     simp only[hb,jc,Ad,ati,gG,jg,dY,alR,bQ];refine ih (k+1) true _ (by omega) (by omega) (fun x=>?_) (by simp;omega) (fun h=>by cases h);rw[qC,hm,ht];simp only[axd,apK];constructor
     ·rintro ((h|⟨-,h⟩)|h)
      ·exact .inl (.inl h)
      ·exact .inr h
      ·exact .inl (.inr h)
     ·rintro ((h|h)|h)
      ·exact .inl (.inl h)
      ·exact .inr h
      ·exact .inr (by rw[h,he])
    ·have hb:(l[k]==s)=false:=by rw[AP];exact he
     simp only[hb,NT,aoH,am9,alR,jg,dY,bQ];cases done
     ·simp only[am9,dY];cases hlt:Go.V.ltS l[k] s
      ·simp only[am9,bQ];refine ih (k+1) true _ (by omega) (by omega) (fun x=>?_) (by simp;have:=hlen2 rfl;omega) (fun h=>by cases h);rw[qC,qC,hm,ht];simp only[axd,apK,PN,false_and,awG];constructor
       ·rintro ((h|h)|h)
        ·exact .inl (.inl h)
        ·exact .inr h
        ·exact .inl (.inr h)
       ·rintro ((h|h)|h)
        ·exact .inl (.inl h)
        ·exact .inr h
        ·exact .inl (.inr h)
      ·simp only[Ad,gG];refine ih (k+1) false _ (by omega) (by omega) (fun x=>?_) (by simp;have:=hlen2 rfl;omega) (fun h=>by simp;have:=hlen2 rfl;omega);rw[qC,hm,ht];simp
     ·simp only[Ad,ati,gG];refine ih (k+1) true _ (by omega) (by omega) (fun x=>?_) (by simp;omega) (fun h=>by cases h);rw[qC,hm,ht];simp only[axd,apK];constructor
      ·rintro ((h|h)|h)
       ·exact .inl (.inl h)
       ·exact .inr h
       ·exact .inl (.inr h)
      ·rintro ((h|h)|h)
       ·exact .inl (.inl h)
       ·exact .inr h
       ·exact .inl (.inr h)
   ·have:k=l.length:=by omega
    subst this;have:decide (((l.length:Nat):Int)<((l.length:Nat):Int))=false:=by simp
    rw[this];exact⟨done,out,rfl,by simpa using hm,hlen,hlen2⟩
 obtain⟨done,out,e,h1,h2,h3⟩:=key az 0 false [] (oG _) (by have:=bU;omega) (by simp) (by simp) (by simp);have e':M.nR l s az false 0 []=_:=e;unfold M.GK;rw[e'];cases done
 ·have hd:decide (out.length+([s]:List (List UInt8)).length<=1073741824)=true:=by rw[jX];have:=h3 rfl;simp;omega
  simp only[am9,bQ,hd,jg];refine⟨out++[s],rfl,fun x=>?_,by simp;exact h3 rfl⟩;rw[qC,h1];simp
 ·simp only[Ad,gG];exact⟨out,rfl,fun x=>by rw[h1];simp,h2⟩
theorem aAZ{l:List ae}{k:Nat}(h:k<l.length):au6 (l.drop k)=aAW l[k]++au6 (l.drop (k+1)):=by rw[jb h];rfl
theorem ab9:∀(m:Nat)(t:ae)(out:List (List UInt8)),t.sz<m->t.sz<=1048576->out.length+je t<=8388608->
 ∃out',M.kK m t out=some out'/\(∀x,x∈out'↔x∈out\/x∈aAW t)/\out'.length<=out.length+je t
 |0,t,out,h,_,_=>by omega
 |m+1,t,out,h,hN,ho=>by
  show ∃out',M.CE (M.kK m) t out=_/\_
  unfold M.CE;have hl:=ae.uj hN;rw[CJ]at ho⊢;have key:∀f k (o:List (List UInt8)),k<=t.Kids.length->t.Kids.length-k<f->o.length+qU (t.Kids.drop k)<=8388608->
   ∃out',M.jQ (M.kK m) f o (k:Int) t=some out'/\(∀x,x∈out'↔x∈o\/x∈au6 (t.Kids.drop k))/\out'.length<=o.length+qU (t.Kids.drop k):=by
   intro f
   induction f with
   |zero=>intro k o h1 h2;omega
   |succ f ih=>
    intro k o h1 h2 h3;rw[M.jQ];rcases kF k t.Kids.length with hk|hk
    ·have hx:=ae.zA (gp hk);rw[Ii hk]at h3⊢;obtain⟨o1,e1,g1,g2⟩:=ab9 m t.Kids[k] o (by omega) (by omega) (by omega);simp only[ae.aF,getD_lt hk,e1,kE,bn,gZ,hk,eG,bQ,dY,jg,dB hk (dO hl),jR,jY];obtain⟨o2,e2,g3,g4⟩:=ih (k+1) o1 (by omega) (by omega) (by omega);refine⟨o2,e2,fun x=>?_,by omega⟩;rw[g3,g1,aAZ hk,qC];constructor
     ·rintro ((h|h)|h)
      ·exact .inl h
      ·exact .inr (.inl h)
      ·exact .inr (.inr h)
     ·rintro (h|h|h)
      ·exact .inl (.inl h)
      ·exact .inl (.inr h)
      ·exact .inr h
    ·have:k=t.Kids.length:=by omega
     subst this;have:decide (((t.Kids.length:Nat):Int)<((t.Kids.length:Nat):Int))=false:=by simp
     rw[this,Sl];exact⟨o,rfl,fun x=>by simp[au6],by simp[qU]⟩
  rw[ae.aF];have hnm:=azQ t;cases hn:t.Name==[]
  ·simp only[am9,bQ];obtain⟨o1,e1,g1,g2⟩:=aAY out t.Name (by omega);rw[e1];simp only[jR,jY,jg,bQ];obtain⟨o2,e2,g3,g4⟩:=key az 0 o1 (oG _) (by have:=bU;omega) (by rw[Nk];omega);rw[Nk]at g3 g4;have e2':M.jQ (M.kK m) az o1 0 t=_:=e2;rw[e2'];refine⟨o2,rfl,fun x=>?_,by omega⟩;rw[g3,g1,hnm,hn];simp only[PN,Nl,qC,axd];constructor
   ·rintro ((h|h)|h)
    ·exact .inl h
    ·exact .inr (.inl h)
    ·exact .inr (.inr h)
   ·rintro (h|h|h)
    ·exact .inl (.inl h)
    ·exact .inl (.inr h)
    ·exact .inr h
  ·simp only[Ad,gG];obtain⟨o2,e2,g3,g4⟩:=key az 0 out (oG _) (by have:=bU;omega) (by rw[Nk];omega);rw[Nk]at g3 g4;have e2':M.jQ (M.kK m) az out 0 t=_:=e2;rw[e2'];refine⟨o2,rfl,fun x=>?_,by omega⟩;rw[g3,hnm,hn];simp
theorem aEB(f:ah)(l:List (List UInt8))(h:f.sz<=1048576)(hl:l.length<=1048576)(hok:fOk f=true):M.PK f l=some ((agK f).all fun x=>l.any fun y=>x==y):=by
 rw[ah.dN]at h;have hpl:f.Params.length<=1048576:=lH (dh ay.sz f.Params) (by omega);have hps:∀p∈f.Params,tOk p.aZ=true:=fun p hp=>by
  unfold fOk at hok;simp only[lS,zG]at hok;have:=hok.1.1.2.1 p hp;unfold VE at this;simp only[EY,alf,Bool.not_eq_false']at this;exact this.1.2
 have hres:tOk f.Result=true:=by
  unfold fOk at hok;simp only[lS]at hok;exact hok.1.2
 have hp6:f.Params.length<=6:=by
  unfold fOk at hok;simp only[lS,jX]at hok;exact hok.1.1.1
 have shp:∀{t:ae},tOk t=true->ku t=true:=fun{t} h=>by unfold tOk at h;simp only[lS]at h;exact h.2
 obtain⟨o0,e0,g0,k0⟩:=ab9 az f.Result [] (uz (by omega)) (by omega) (by have:=WB hres;simp;omega);have e0':M.yg f.Result []=some o0:=e0;have aJ5:∀g k (o:List (List UInt8)),k<=f.Params.length->f.Params.length-k<g->o.length+24*(f.Params.length-k)<=1000->
  ∃o',M.wW l g o (k:Int) f=some (l,o')/\(∀x,x∈o'↔x∈o\/x∈(f.Params.drop k).flatMap fun p=>J8 p.aZ)/\o'.length<=1000:=by
  intro g
  induction g with
  |zero=>intro k o h1 h2;omega
  |succ g ih=>
   intro k o h1 h2 h3;rw[M.wW];rcases kF k f.Params.length with hk|hk
   ·have hm:=eY ay.sz _ _ (gp hk);have hty:f.Params[k].aZ.sz<=1048576:=ay.Ry (N:=1048576) (by omega);have ht:=hps _ (gp hk);have h24:=WB ht;obtain⟨o1,e1,g1,g2⟩:=ab9 az f.Params[k].aZ o (uz hty) hty (by omega);have e1':M.yg f.Params[k].aZ o=some o1:=e1;simp only[ae.aF,ah.aF,getD_lt hk,e1',kE,bn,gZ,hk,eG,bQ,dY,jg,dB hk (dO hpl),jR,jY];obtain⟨o2,e2,g3,g4⟩:=ih (k+1) o1 (by omega) (by omega) (by omega);refine⟨o2,e2,fun x=>?_,g4⟩;rw[g3,g1,jb hk,List.flatMap_cons,qC,awF (shp ht)];constructor
    ·rintro ((h|h)|h)
     ·exact .inl h
     ·exact .inr (.inl h)
     ·exact .inr (.inr h)
    ·rintro (h|h|h)
     ·exact .inl (.inl h)
     ·exact .inl (.inr h)
     ·exact .inr h
   ·have:k=f.Params.length:=by omega
    subst this;have:decide (((f.Params.length:Nat):Int)<((f.Params.length:Nat):Int))=false:=by simp
    rw[this,Sl];exact⟨o,rfl,fun x=>by simp,by omega⟩
 obtain⟨all,ea,ga,la⟩:=aJ5 az 0 o0 (oG _) (by have:=bU;omega) (by have:=WB hres;simp at k0;omega);have ea':M.wW l az o0 0 f=some (l,all):=ea;have hmem:∀x,x∈all↔x∈agK f:=fun x=>by
  rw[ga,g0,Nk];unfold agK;rw[qC,awF (shp hres)];simp
 have inner:∀i (hi:i<all.length),M.qK l all (i:Int) az false 0=some (l,all,(i:Int),l.any fun y=>all[i]==y):=fun i hi=>by
  have k1:∀g k (met:Bool),k<=l.length->l.length-k<g->M.qK l all (i:Int) g met (k:Int)=some (l,all,(i:Int),met||(l.drop k).any fun y=>all[i]==y):=by
   intro g
   induction g with
   |zero=>intro k met h1 h2;omega
   |succ g ih=>
    intro k met h1 h2;rw[M.qK];rcases kF k l.length with hk|hk
    ·simp only[getD_lt hk,getD_lt hi,kE,bn,gZ,hk,hi,eG,bQ,jc,dY,jg,dB hk (dO hl)];rw[ih (k+1) _ (by omega) (by omega),avX _ hk,<-Bool.or_assoc];have:(l[k]==all[i])=(all[i]==l[k]):=by rw[KA,sD,sD];exact eq_comm
     rw[this]
    ·have:k=l.length:=by omega
     subst this;have:decide (((l.length:Nat):Int)<((l.length:Nat):Int))=false:=by simp
     rw[this,Sl];simp
  have:=k1 az 0 false (oG _) (by have:=bU;omega);simpa using this
 have outer:M.mF az l all 0=some (if all.all (fun x=>l.any fun y=>x==y)then .inr ()else .inl false):=
  AQ (p:=fun x=>l.any fun y=>x==y) (F:=fun g k=>M.mF g l all k) (e:=()) (b:=false) all (by omega) (fun g k hk=>by
   show M.mF (g+1) l all (k:Int)=_
   rw[M.mF];have hin:=inner k hk;simp only[hin,gZ,hk,eG,bQ,dB hk (by omega:all.length<2^62)];cases (l.any fun y=>all[k]==y)<;>rfl) (fun g=>by
   show M.mF (g+1) l all (all.length:Int)=_
   rw[M.mF];simp)
 unfold M.PK;simp only[ae.aF,ah.aF,e0',jR,ea',outer,jY,jg,bQ];have hall:all.all (fun x=>l.any fun y=>x==y)=(agK f).all fun x=>l.any fun y=>x==y:=by
  rw[KA,zG,zG];exact⟨fun h x hx=>h x ((hmem x).2 hx),fun h x hx=>h x ((hmem x).1 hx)⟩
 rw[hall];cases (agK f).all fun x=>l.any fun y=>x==y<;>simp
end M
namespace M
open Go.V (inB yx az bU)
def Rz(l:List (List UInt8)):Bool:=(List.range l.length).all fun k=>(k==0)||Go.V.ltS (l.getD (k-1) []) (l.getD k [])
theorem WC(l:List (List UInt8))(h:l.length<=1048576):M.uZ l=some (Rz l):=by
 have key:∀g k,1<=k->k<=l.length->l.length-k<g->M.nM l g (k:Int)=some (if(List.range' k (l.length-k)).all (fun k=>Go.V.ltS (l.getD (k-1) []) (l.getD k []))then .inr ()else .inl false):=by
  intro g
  induction g with
  |zero=>intro k h0 h1 h2;omega
  |succ g ih=>
   intro k h0 h1 h2;rw[M.nM];rcases kF k l.length with hk|hk
   ·have hk1:k-1<l.length:=by omega
    have hr:List.range' k (l.length-k)=k::List.range' (k+1) (l.length-(k+1)):=by
     rw[show l.length-k=(l.length-(k+1))+1 by omega];rfl
    rw[hr,P8];simp only[amy h0 (amz hk) (dO h),kE,bn,gZ,hk,hk1,eG,bQ,jg,dB hk (dO h),ih (k+1) (by omega) (by omega) (by omega)];cases Go.V.ltS (l.getD (k-1) []) (l.getD k [])<;>rfl
   ·have:k=l.length:=by omega
    subst this;have:decide (((l.length:Nat):Int)<((l.length:Nat):Int))=false:=by simp
    rw[this,ad3];rfl
 unfold M.uZ Rz;rcases agM l.length with h0|h0
 ·have:l=[]:=aob h0;subst this;obtain⟨f,hf⟩:∃f,az=f+1:=⟨az-1,by have:=bU;omega⟩;rw[hf,M.nM];rfl
 ·have e:=key az 1 (iM _) h0 (by have:=bU;omega);have e':M.nM l az 1=_:=e;rw[e'];have hr:List.range l.length=0::List.range' 1 (l.length-1):=by
   rw[List.range_eq_range',show l.length=(l.length-1)+1 by omega];rfl
  have hc:(List.range' 1 (l.length-1)).all (fun k=>(k==0)||Go.V.ltS (l.getD (k-1) []) (l.getD k []))=(List.range' 1 (l.length-1)).all (fun k=>Go.V.ltS (l.getD (k-1) []) (l.getD k [])):=by
   rw[KA,zG,zG];have hp:∀k∈List.range' 1 (l.length-1),(k==0)=false:=fun k hk=>by
    rw[List.mem_range']at hk;obtain⟨i,_,rfl⟩:=hk;rw[AP];omega
   exact⟨fun h k hk=>by have:=h k hk;rwa [hp k hk,NT]at this,fun h k hk=>by rw[hp k hk,NT];exact h k hk⟩
  rw[hr,P8,hc];simp only[aoD,jc,dY];cases (List.range' 1 (l.length-1)).all (fun k=>Go.V.ltS (l.getD (k-1) []) (l.getD k []))<;>simp
def arG(R:List (List UInt8))(x:aQ):Bool:=(gJ x.Name&&fOk x.aZ)&&(agK x.aZ).all fun n=>R.any fun y=>n==y
def Sm(f:aI):Bool:=
 (((gJ f.eQ&&gJ f.Name)&&Y1 f.Version)&&(decide (f.aT.length<=4)&&decide (f.Funcs.length<=8)))&&
   ((Rz f.aT&&f.aT.all gJ)&&(f.Funcs.all (arG f.aT)&&Rz (f.Funcs.map aQ.Name)))
theorem gtN(n m:Nat):decide (((m:Nat):Int)<((n:Nat):Int))= !decide (n<=m):=by
 rw[KA];simp only[EY,jX,AO];omega
theorem gt4(n:Nat):decide ((4:Int)<((n:Nat):Int))= !decide (n<=4):=gtN n 4
theorem gt8(n:Nat):decide ((8:Int)<((n:Nat):Int))= !decide (n<=8):=gtN n 8
theorem aCi{l:List aQ}(k:Nat):(l.map aQ.Name).getD k []=(l.getD k aQ.zero).Name:=by
 rw[xA,xA,Np];cases l[k]?<;>rfl
theorem aHJ(f:aI)(h:f.sz<=1048576):M.Tm f=some (Sm f):=by
 rw[aI.dN]at h;have hrl:f.aT.length<=1048576:=lH (dh List.length f.aT) (by omega);have hfl:f.Funcs.length<=1048576:=lH (dh aQ.sz f.Funcs) (by omega);have hn1:=Jm f.eQ (by omega);have hn2:=Jm f.Name (by omega);have hv:=atd f.Version;have l0:M.oQ f az 0=some (if(List.range f.aT.length).all (fun i=>gJ (f.aT.getD i [])&&((i==0)||Go.V.ltS (f.aT.getD (i-1) []) (f.aT.getD i [])))then .inr f else .inl false):=
  xG (p:=fun i=>gJ (f.aT.getD i [])&&((i==0)||Go.V.ltS (f.aT.getD (i-1) []) (f.aT.getD i []))) (F:=fun g k=>M.oQ f g k) (e:=f) (b:=false) f.aT.length (by omega) (fun g k hk=>by
   show M.oQ f (g+1) (k:Int)=_
   rw[M.oQ];have hnm:=Jm (f.aT.getD k []) (by rw[getD_lt hk];have:=eY List.length _ _ (gp hk);omega);rcases agM k with h0|h0
   ·subst h0;simp only[hnm,kE,bn,gZ,hk,eG,bQ,dY,jg,dB hk (dO hrl),jR,jY,jc];cases gJ (f.aT.getD 0 [])<;>simp
   ·have hk1:k-1<f.aT.length:=by omega
    have hp:decide ((0:Int)<(k:Int))=true:=by rw[jX];omega
    have hz:(k==0)=false:=by rw[AP];omega
    simp only[hnm,amy h0 (amz hk) (dO hrl),hp,hz,kE,bn,gZ,hk,hk1,eG,bQ,dY,jg,dB hk (dO hrl),jR,jY,jc,NT];cases gJ (f.aT.getD k [])<;>cases Go.V.ltS (f.aT.getD (k-1) []) (f.aT.getD k [])<;>rfl) (fun g=>by
   show M.oQ f (g+1) (f.aT.length:Int)=_
   rw[M.oQ];simp)
 have l1:M.oV f az 0=some (if(List.range f.Funcs.length).all (fun i=>arG f.aT (f.Funcs.getD i aQ.zero)&&((i==0)||Go.V.ltS (f.Funcs.getD (i-1) aQ.zero).Name (f.Funcs.getD i aQ.zero).Name))then .inr ()else .inl false):=
  xG (p:=fun i=>arG f.aT (f.Funcs.getD i aQ.zero)&&((i==0)||Go.V.ltS (f.Funcs.getD (i-1) aQ.zero).Name (f.Funcs.getD i aQ.zero).Name)) (F:=fun g k=>M.oV f g k) (e:=()) (b:=false) f.Funcs.length (by omega) (fun g k hk=>by
   show M.oV f (g+1) (k:Int)=_
   rw[M.oV];have hm:=eY aQ.sz _ _ (gp hk);have hsz:=aQ.dN f.Funcs[k];have hnm:=Jm f.Funcs[k].Name (by omega);have hfn:=aHK f.Funcs[k].aZ (by omega);have hkn:=aEB f.Funcs[k].aZ f.aT (by omega) hrl;have fin:∀(r:Bool),((k==0)||Go.V.ltS (f.Funcs.getD (k-1) aQ.zero).Name (f.Funcs.getD k aQ.zero).Name)=r->(decide ((0:Int)<(k:Int))&& !Go.V.ltS (f.Funcs.getD (Int.toNat (Go.IntKind.wrap .i64 ((k:Int)-1))) aQ.zero).Name (f.Funcs[k]).Name)= !r/\
    (inB (Go.IntKind.wrap .i64 ((k:Int)-1)) f.Funcs.length|| !(decide ((0:Int)<(k:Int))))=true:=fun r hr=>by
    rcases agM k with h0|h0
    ·subst h0;simp at hr⊢;exact hr.symm ▸ rfl
    ·have hk1:k-1<f.Funcs.length:=by omega
     have hp:decide ((0:Int)<(k:Int))=true:=by rw[jX];omega
     have hz:(k==0)=false:=by rw[AP];omega
     rw[amy h0 (amz hk) (dO hfl),hp,kE,bn];rw[hz,NT,getD_lt hk]at hr;rw[hr];simp[hk1]
   generalize hr:((k==0)||Go.V.ltS (f.Funcs.getD (k-1) aQ.zero).Name (f.Funcs.getD k aQ.zero).Name)=r;obtain⟨f1,f2⟩:=fin r hr;simp only[ah.aF,getD_lt hk,hnm,hfn,f1,kE,bn,gZ,hk,eG,bQ,dY,jg,dB hk (dO hfl),jR,jY,jc];have hin:∀b:Bool,(inB (Go.IntKind.wrap .i64 ((k:Int)-1)) f.Funcs.length||(!(b&&(decide ((0:Int)<(k:Int))==true))))=true:=fun b=>by
    cases b
    ·simp
    ·revert f2
     cases inB (Go.IntKind.wrap .i64 ((k:Int)-1)) f.Funcs.length<;>cases decide ((0:Int)<(k:Int))<;>simp
   simp only[hin,jg,dY];unfold arG;cases hN:gJ f.Funcs[k].Name
   ·simp
   ·cases r
    ·simp
    ·cases hF:fOk f.Funcs[k].aZ
     ·simp
     ·rw[hkn hF];cases ((agK f.Funcs[k].aZ).all fun n=>f.aT.any fun y=>n==y)<;>simp) (fun g=>by
   show M.oV f (g+1) (f.Funcs.length:Int)=_
   rw[M.oV];simp)
 rw[ai0,VF gJ f.aT []]at l0;rw[ai0,VF (arG f.aT) f.Funcs aQ.zero]at l1;have hr1:(List.range f.aT.length).all (fun i=>(i==0)||Go.V.ltS (f.aT.getD (i-1) []) (f.aT.getD i []))=Rz f.aT:=rfl;have hr2:(List.range f.Funcs.length).all (fun i=>(i==0)||Go.V.ltS (f.Funcs.getD (i-1) aQ.zero).Name (f.Funcs.getD i aQ.zero).Name)=Rz (f.Funcs.map aQ.Name):=by
  unfold Rz;simp only[xE,aCi]
 rw[hr1]at l0;rw[hr2]at l1;unfold M.Tm Sm;simp only[hn1,hn2,hv,l0,gt4,gt8,jR,jY,jc,jg,dY,bQ];cases gJ f.eQ<;>cases gJ f.Name<;>cases Y1 f.Version<;>cases decide (f.aT.length<=4)<;>cases decide (f.Funcs.length<=8)<;>try rfl
 cases f.aT.all gJ<;>cases Rz f.aT<;>try rfl
 simp only[Ad,apW,gG,pq,Fh,l1];cases f.Funcs.all (arG f.aT)<;>cases Rz (f.Funcs.map aQ.Name)<;>rfl
theorem VW(l:List (List UInt8))(v:List UInt8)(hl:l.length<=1048576):M.fG l v=some (l.any fun y=>v==y):=by
 have e:=iL (p:=fun y=>v==y) (F:=M.gK l v (l.length:Int)) (e:=()) (fun k=>k) l (by omega) (fun g k hk=>by
  rw[M.gK];simp only[getD_lt hk,kE,bn,gZ,hk,eG,bQ,jg,dB hk (by omega:l.length<2^62)]
  ) (fun g=>by rw[M.gK];simp)
 unfold M.fG M.mV;rw[e,jJ];cases l.findIdx? (fun y=>v==y)<;>simp
theorem aHL(f:aI)(h:f.sz<=1048576):M.Zb f=some (Sm f):=by
 rw[aI.dN]at h;have hrl:f.aT.length<=1048576:=lH (dh List.length f.aT) (by omega);have hfl:f.Funcs.length<=1048576:=lH (dh aQ.sz f.Funcs) (by omega);have hn1:=Jn f.eQ (by omega);have hn2:=Jn f.Name (by omega);have hv:=ate f.Version (by omega);have aCj:=WC f.aT hrl;have hc2:M.iq f.aT=some (f.aT.any fun s=> !gJ s):=by
  have e:=iL (p:=fun s=> !gJ s) (F:=M.fA f.aT (f.aT.length:Int)) (e:=()) (fun k=>k) f.aT (by omega) (fun g k hk=>by
   rw[M.fA];have hn:f.aT[k].length<=1048576:=by have:=eY List.length _ _ (gp hk);omega
   have hc:M.Jq f.aT[k]=some (!gJ f.aT[k]):=by unfold M.Jq;rw[Jn _ hn];rfl
   simp only[getD_lt hk,hc,kE,bn,gZ,hk,eG,bQ,dY,jg,dB hk (by omega:f.aT.length<2^62),jR,jY]) (fun g=>by rw[M.fA];simp)
  unfold M.iq M.jK;rw[e,jJ];cases f.aT.findIdx? (fun s=> !gJ s)<;>simp
 have hc3:∀l:List (List UInt8),l.length<=8388608->M.iw l f=some (l.any fun n=> !(f.aT.any fun y=>n==y)):=fun l hl=>by
  have e:=iL (p:=fun n=> !(f.aT.any fun y=>n==y)) (F:=M.fB l f (l.length:Int)) (e:=()) (fun k=>k) l (by omega) (fun g k hk=>by
   rw[M.fB];have hc:M.Jw l[k] f=some (!(f.aT.any fun y=>l[k]==y)):=by unfold M.Jw;rw[VW _ _ hrl];rfl
   simp only[getD_lt hk,hc,kE,bn,gZ,hk,eG,bQ,dY,jg,dB hk (by omega:l.length<2^62),jR,jY]) (fun g=>by rw[M.fB];simp)
  unfold M.iw M.jL;rw[e,jJ];cases l.findIdx? (fun n=> !(f.aT.any fun y=>n==y))<;>simp
 have hres:∀k (hk:k<f.Funcs.length),(agK f.Funcs[k].aZ).length<=8388608:=fun k hk=>by
  have hm:=eY aQ.sz _ _ (gp hk);have hsz:=aQ.dN f.Funcs[k];have hsz2:=ah.dN f.Funcs[k].aZ;unfold agK;rw[zH];have h1:=VC f.Funcs[k].aZ.Result;have h2:=VD f.Funcs[k].aZ.Result;have h3:=apU (l:=f.Funcs[k].aZ.Params) (by omega) f.Funcs[k].aZ.Params.length;rw[atz]at h3;have h4:=dh ay.sz f.Funcs[k].aZ.Params;omega
 have key:∀g k,k<=f.Funcs.length->f.Funcs.length-k<g->M.yC f.Funcs (f.Funcs.length:Int) f g (k:Int) ((f.Funcs.take k).map aQ.Name)=some (if(f.Funcs.drop k).all (arG f.aT)then .inr (f.Funcs.map aQ.Name)else .inl false):=by
  intro g
  induction g with
  |zero=>intro k h1 h2;omega
  |succ g ih=>
   intro k h1 h2;rcases kF k f.Funcs.length with hk|hk
   ·rw[M.yC];have hm:=eY aQ.sz _ _ (gp hk);have hsz:=aQ.dN f.Funcs[k];have hnm:=Jn f.Funcs[k].Name (by omega);have hfn:=aCk f.Funcs[k].aZ (by omega);have hfr:=aAX f.Funcs[k].aZ (by omega);have hcc:=hc3 _ (hres k hk);have hd:decide ((((f.Funcs.take k).map aQ.Name).length+([f.Funcs[k].Name]:List (List UInt8)).length)<=1073741824)=true:=by
     simp only[jX,xE,VB,jA,qh];omega
    have ht:(f.Funcs.take k).map aQ.Name++[f.Funcs[k].Name]=(f.Funcs.take (k+1)).map aQ.Name:=by
     rw[ajP,auj,wH hk];rfl
    simp only[ah.aF,getD_lt hk,hnm,hfn,hfr,hcc,kE,bn,gZ,hk,eG,bQ,dY,jg,dB hk (dO hfl),jR,jY,jc,hd,ht];rw[ih (k+1) (by omega) (by omega),apX _ hk];unfold arG;have hna:((agK f.Funcs[k].aZ).any fun n=> !(f.aT.any fun y=>n==y))= !((agK f.Funcs[k].aZ).all fun n=>f.aT.any fun y=>n==y):=by rw[aym]
    rw[hna];cases gJ f.Funcs[k].Name<;>cases fOk f.Funcs[k].aZ<;>cases ((agK f.Funcs[k].aZ).all fun n=>f.aT.any fun y=>n==y)<;>simp
   ·have:k=f.Funcs.length:=by omega
    subst this;rw[M.yC];simp
 have e:=key az 0 (oG _) (by have:=bU;omega);have e':M.yC f.Funcs (f.Funcs.length:Int) f az 0 []=_:=e;rw[Nk]at e';have aJm:=WC (f.Funcs.map aQ.Name) (by rw[xE];exact hfl);have hna:(f.aT.any fun s=> !gJ s)= !f.aT.all gJ:=by rw[aym]
 unfold M.Zb Sm;simp only[hn1,hn2,hv,aCj,hc2,hna,e',gt4,gt8,jR,jY,jc,jg,dY,bQ];cases gJ f.eQ<;>cases gJ f.Name<;>cases Y1 f.Version<;>cases decide (f.aT.length<=4)<;>cases decide (f.Funcs.length<=8)<;>try rfl
 cases f.aT.all gJ<;>cases Rz f.aT<;>try rfl
 simp only[Ad,apW,gG,pq,dY];cases f.Funcs.all (arG f.aT)
 ·rfl
 ·simp only[Fh,aJm,jR,jY,bQ,dY]
theorem aoo(f:aI)(h:f.sz<=1048576):M.lD f=some ((f.eQ++[47])++f.Name):=by
 rw[aI.dN]at h;unfold M.lD;rw[ui (by simp;omega),ui (by simp;omega)];rfl
theorem acO(f:aI)(h:f.sz<=1048576):M.jS f=some ((f.eQ++[47])++f.Name):=by
 rw[aI.dN]at h;unfold M.jS;rw[ui (by simp;omega),ui (by simp;omega)];rfl
end M
namespace M
open Go.V (inB yx az bU)
def uA(t:ae):Bool:=PO (fun k=>(k==22)||(k==23)) t
def BJ(f:ah):Bool:= !f.Async&& !(f.Params.any (fun p=>uA p.aZ)||uA f.Result)
theorem azR(t:ae)(h:t.sz<=1048576):M.qM t 22 23=some (uA t):=by
 rw[show M.qM=M.oh az from rfl,azS 22 23 az _ (uz h) h];congr 1;exact congrFun (NM fun k=>by
  rw[KA];simp only[lS,jX,CG,sD];omega) t
theorem aEC(t:ae)(h:t.sz<=1048576):M.nV t [22,23]=some (uA t):=by
 rw[show M.nV=M.nP az from rfl,azT [22,23] (by simp) az _ (uz h) h];congr 1;exact congrFun (NM fun k=>by simp) t
theorem aED(f:ah)(h:f.sz<=1048576):M.N8 f=some (BJ f):=by
 rw[ah.dN]at h;have hl:f.Params.length<=1048576:=lH (dh ay.sz f.Params) (by omega);have e:M.lZ az 0 f=some (if f.Params.all (fun p=> !uA p.aZ)then .inr ()else .inl false):=
  AQ (p:=fun p=> !uA p.aZ) (F:=fun g k=>M.lZ g k f) (e:=()) (b:=false) f.Params (by omega) (fun g k hk=>by
   show M.lZ (g+1) (k:Int) f=_
   rw[M.lZ];have hm:=eY ay.sz _ _ (gp hk);have ht:=azR f.Params[k].aZ (ay.Ry (N:=1048576) (by omega));simp only[ae.aF,ah.aF,getD_lt hk,ht,kE,bn,gZ,hk,eG,bQ,dY,jg,dB hk (dO hl),jR,jY];cases uA f.Params[k].aZ<;>rfl) (fun g=>by
   show M.lZ (g+1) (f.Params.length:Int) f=_
   rw[M.lZ];simp)
 have hr:=azR f.Result (by omega);unfold M.N8 BJ;simp only[ae.aF,ah.aF,hr,e,jR,jY,jc,jg,bQ];have ha:f.Params.all (fun p=> !uA p.aZ)= !(f.Params.any fun p=>uA p.aZ):=by rw[List.not_any_eq_all_not]
 rw[ha];cases f.Async<;>cases uA f.Result<;>cases (f.Params.any fun p=>uA p.aZ)<;>rfl
theorem ayn(f:ah)(h:f.sz<=1048576):M.FD f=some (f.Params.map ay.aZ):=by
 rw[ah.dN]at h;have hl:f.Params.length<=1048576:=lH (dh ay.sz f.Params) (by omega);have key:∀g k,k<=f.Params.length->f.Params.length-k<g->M.pG f.Params (f.Params.length:Int) g (k:Int) ((f.Params.take k).map ay.aZ)=some (f.Params.map ay.aZ):=by
  intro g
  induction g with
  |zero=>intro k h1 h2;omega
  |succ g ih=>
   intro k h1 h2;rw[M.pG];rcases kF k f.Params.length with hk|hk
   ·have hd:decide ((((f.Params.take k).map ay.aZ).length+([f.Params[k].aZ]:List ae).length)<=1073741824)=true:=by
     simp only[jX,xE,VB,jA,qh];omega
    have ht:(f.Params.take k).map ay.aZ++[f.Params[k].aZ]=(f.Params.take (k+1)).map ay.aZ:=by
     rw[ajP,auj,wH hk];rfl
    simp only[ae.aF,getD_lt hk,kE,bn,gZ,hk,eG,bQ,dY,jg,dB hk (dO hl),hd,ht];exact ih (k+1) (by omega) (by omega)
   ·have:k=f.Params.length:=by omega
    subst this;have:decide (((f.Params.length:Nat):Int)<((f.Params.length:Nat):Int))=false:=by simp
    rw[this,atz];rfl
 have e:=key az 0 (oG _) (by have:=bU;omega);unfold M.FD;have e':M.pG f.Params (f.Params.length:Int) az 0 []=_:=e;rw[e']
theorem aA0(l:List ae)(hl:l.length<=2097152)(hs:∀x∈l,x.sz<=1048576):M.iT l=some (l.any uA):=by
 have e:=iL (p:=uA) (F:=M.fK l (l.length:Int)) (e:=()) (fun k=>k) l (by omega) (fun g k hk=>by
  rw[M.fK];have hc:M.Ba l[k]=some (uA l[k]):=by
   unfold M.Ba;rw[ae.aF,aEC _ (hs _ (gp hk))];rfl
  simp only[ae.aF,getD_lt hk,hc,kE,bn,gZ,hk,eG,bQ,dY,jg,dB hk (by omega:l.length<2^62),jR,jY]) (fun g=>by rw[M.fK];simp)
 unfold M.iT M.kZ;rw[e,jJ];cases l.findIdx? uA<;>simp
theorem aEE(f:ah)(h:f.sz<=1048576):M.Jy f=some (BJ f):=by
 have hp:=ayn f h;rw[ah.dN]at h;have hl:f.Params.length<=1048576:=lH (dh ay.sz f.Params) (by omega);have hc:=aA0 (f.Params.map ay.aZ++[f.Result]) (by simp;omega) (fun x hx=>by
  rcases qC.1 hx with hx|hx
  ·obtain⟨p,hp,rfl⟩:=ajM.1 hx;have hm:=eY ay.sz _ _ hp;exact ay.Ry (N:=1048576) (by omega)
  ·simp at hx;subst hx;omega)
 have hd:decide (((f.Params.map ay.aZ).length+([f.Result]:List ae).length)<=1073741824)=true:=by
  simp only[jX,xE,jA,qh];omega
 have ha:(f.Params.map ay.aZ++[f.Result]).any uA=(f.Params.any (fun p=>uA p.aZ)||uA f.Result):=by
  rw[List.any_append,List.any_map];simp;rfl
 unfold M.Jy BJ;cases hA:f.Async
 ·simp only[ah.aF,ae.aF,hp,hc,hd,ha,am9,bQ,jR,jY];simp
 ·simp
def arH(f:aI):Bool:=Sm f&&f.Funcs.all fun x=>BJ x.aZ
def jy(f:aI):List UInt8:=(f.eQ++[47])++f.Name
def uw(l:List aI):Bool:=decide (l.length<=6)&&(l.all arH&&Rz (l.map jy))
theorem gt6(n:Nat):decide ((6:Int)<((n:Nat):Int))= !decide (n<=6):=gtN n 6
theorem atj{l:List aI}(k:Nat)(hk:k<l.length):(l.map jy).getD k []=jy l[k]:=by
 rw[getD_lt (by simpa using hk),avQ]
theorem azN(l:List aI)(h:eF aI.sz l<=1048576):M.H5 l=some (uw l):=by
 have hl:l.length<=1048576:=lH (dh aI.sz l) h;have hsz:∀k (hk:k<l.length),l[k].sz<=1048576:=fun k hk=>by have:=eY aI.sz _ _ (gp hk);omega
 have inner:∀i (hi:i<l.length),M.nK l (i:Int) az 0=some (if l[i].Funcs.all (fun x=>BJ x.aZ)then .inr (l,(i:Int))else .inl false):=fun i hi=>by
  have hs:=hsz i hi;rw[aI.dN]at hs;have hfl:l[i].Funcs.length<=1048576:=lH (dh aQ.sz l[i].Funcs) (by omega);exact AQ (p:=fun x=>BJ x.aZ) (F:=M.nK l (i:Int)) (e:=(l,(i:Int))) (b:=false) l[i].Funcs (by omega) (fun g k hk=>by
   rw[M.nK];have hm:=eY aQ.sz _ _ (gp hk);have hsz:=aQ.dN l[i].Funcs[k];have hp:=aED l[i].Funcs[k].aZ (by omega);simp only[ah.aF,getD_lt hi,getD_lt hk,hp,kE,bn,gZ,hk,hi,eG,bQ,dY,jg,dB hk (dO hfl),jR,jY];cases BJ l[i].Funcs[k].aZ<;>rfl) (fun g=>by
   rw[M.nK];simp only[getD_lt hi,kE,bn,hi,eG];simp)
 have outer:M.l7 az l 0=some (if(List.range l.length).all (fun i=>arH (l.getD i aI.zero)&&((i==0)||Go.V.ltS ((l.map jy).getD (i-1) []) ((l.map jy).getD i [])))then .inr ()else .inl false):=
  xG (p:=fun i=>arH (l.getD i aI.zero)&&((i==0)||Go.V.ltS ((l.map jy).getD (i-1) []) ((l.map jy).getD i []))) (F:=fun g k=>M.l7 g l k) (e:=()) (b:=false) l.length (by omega) (fun g k hk=>by
   show M.l7 (g+1) l (k:Int)=_
   rw[M.l7];have hf:=aHJ l[k] (hsz k hk);have hn:M.jS l[k]=some (jy l[k]):=acO l[k] (hsz k hk);have hin:=inner k hk;unfold arH;rcases agM k with h0|h0
   ·subst h0;have hd0:decide ((0:Int)<((0:Nat):Int))=false:=rfl;simp only[getD_lt hk,hf,hn,hin,hd0,kE,bn,gZ,hk,eG,bQ,dY,jg,dB hk (dO hl),jR,jY,jc,ati,aoH,aoD];cases Sm l[0]
    ·simp
    ·cases l[0].Funcs.all fun x=>BJ x.aZ
     ·simp
     ·have hw1:Go.IntKind.wrap .i64 1=1:=wrap_i64 (by omega) (by omega);simp[hw1]
   ·have hk1:k-1<l.length:=by omega
    have hp:decide ((0:Int)<(k:Int))=true:=by rw[jX];omega
    have hz:(k==0)=false:=by rw[AP];omega
    have hn1:M.jS l[k-1]=some (jy l[k-1]):=acO l[k-1] (hsz _ hk1);simp only[atj k hk,atj (k-1) hk1,getD_lt hk,getD_lt hk1,hf,hn,hn1,hin,hp,hz,amy h0 (amz hk) (dO hl),kE,bn,gZ,hk,hk1,eG,bQ,dY,jg,dB hk (dO hl),jR,jY,jc,NT];cases Sm l[k]
    ·simp
    ·cases Go.V.ltS (jy l[k-1]) (jy l[k])
     ·simp
     ·cases l[k].Funcs.all fun x=>BJ x.aZ
      ·simp
      ·simp[dB hk (dO hl)]) (fun g=>by
   show M.l7 (g+1) l (l.length:Int)=_
   rw[M.l7];simp)
 rw[ai0,VF arH l aI.zero]at outer;have hr:(List.range l.length).all (fun i=>(i==0)||Go.V.ltS ((l.map jy).getD (i-1) []) ((l.map jy).getD i []))=Rz (l.map jy):=by
  unfold Rz;rw[xE]
 rw[hr]at outer;unfold M.H5 uw;rw[gt6,outer];cases decide (l.length<=6)
 ·rfl
 ·cases l.all arH<;>cases Rz (l.map jy)<;>rfl
theorem azO(l:List aI)(h:eF aI.sz l<=1048576):M.NG l=some (uw l):=by
 have hl:l.length<=1048576:=lH (dh aI.sz l) h;have hsz:∀k (hk:k<l.length),l[k].sz<=1048576:=fun k hk=>by have:=eY aI.sz _ _ (gp hk);omega
 have hcf:∀f:aI,f.sz<=1048576->M.jq f.Funcs=some (f.Funcs.any fun x=> !BJ x.aZ):=fun f hf=>by
  rw[aI.dN]at hf;have hfl:f.Funcs.length<=1048576:=lH (dh aQ.sz f.Funcs) (by omega);have e:=iL (p:=fun x:aQ=> !BJ x.aZ) (F:=M.gQ f.Funcs (f.Funcs.length:Int)) (e:=()) (fun k=>k) f.Funcs (by omega) (fun g k hk=>by
   rw[M.gQ];have hm:=eY aQ.sz _ _ (gp hk);have hsz:=aQ.dN f.Funcs[k];have hc:M.FH f.Funcs[k]=some (!BJ f.Funcs[k].aZ):=by
    unfold M.FH;rw[ah.aF,aEE _ (by omega)];rfl
   simp only[aQ.aF,getD_lt hk,hc,kE,bn,gZ,hk,eG,bQ,dY,jg,dB hk (dO hfl),jR,jY]) (fun g=>by rw[M.gQ];simp)
  unfold M.jq M.mW;rw[e,jJ];cases f.Funcs.findIdx? (fun x=> !BJ x.aZ)<;>simp
 have key:∀g k,k<=l.length->l.length-k<g->M.yZ l l (l.length:Int) g (k:Int) ((l.take k).map jy)=some (if(l.drop k).all arH then .inr (l,l.map jy)else .inl false):=by
  intro g
  induction g with
  |zero=>intro k h1 h2;omega
  |succ g ih=>
   intro k h1 h2;rw[M.yZ];rcases kF k l.length with hk|hk
   ·have hf:=aHL l[k] (hsz k hk);have hn:M.lD l[k]=some (jy l[k]):=aoo l[k] (hsz k hk);have hc:=hcf l[k] (hsz k hk);have hd:decide ((((l.take k).map jy).length+([jy l[k]]:List (List UInt8)).length)<=1073741824)=true:=by
     simp only[jX,xE,VB,jA,qh];omega
    have ht:(l.take k).map jy++[jy l[k]]=(l.take (k+1)).map jy:=by
     rw[ajP,auj,wH hk];rfl
    have hna:(l[k].Funcs.any fun x=> !BJ x.aZ)= !(l[k].Funcs.all fun x=>BJ x.aZ):=by rw[aym]
    simp only[getD_lt hk,hf,hn,hc,hna,kE,bn,gZ,hk,eG,bQ,dY,jg,dB hk (dO hl),jR,jY,jc,hd,ht];rw[ih (k+1) (by omega) (by omega),apX _ hk];unfold arH;cases Sm l[k]<;>cases (l[k].Funcs.all fun x=>BJ x.aZ)<;>simp
   ·have:k=l.length:=by omega
    subst this;have:decide (((l.length:Nat):Int)<((l.length:Nat):Int))=false:=by simp
    rw[this,Sl,atz];rfl
 have e:=key az 0 (oG _) (by have:=bU;omega);have e':M.yZ l l (l.length:Int) az 0 []=_:=e;rw[Nk]at e';have aCj:=WC (l.map jy) (by rw[xE];exact hl);have e6:decide (((l.length:Nat):Int)<=6)=decide (l.length<=6):=by simp only[EZ];omega
 unfold M.NG uw;rw[e'];cases l.all arH
 ·simp
 ·simp only[Fh,aCj,e6,jR,jY,jc,dY,jg,bQ]
end M
