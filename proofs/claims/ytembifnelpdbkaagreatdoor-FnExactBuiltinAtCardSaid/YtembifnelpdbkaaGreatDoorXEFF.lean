/-
  VERSIONS: what the program and the reference find of them.
-/
import Derived.Test.YtembifnelpdbkaaGreatDoorXETP
import Derived.Test.YtembifnelpdbkaaGreatDoorXVER
set_option linter.unusedVariables false
set_option linter.unusedSimpArgs false
namespace M
open Go.V (inB xG aA bU)
def Vr (s:List UInt8):Bool:=(O3.aow s).isSome
theorem aru (s:List UInt8):(match M.iP s with |(v,b)=>if b=true /\ (0<=v /\ v<=999) then some v.toNat else none)=O3.OM s:=by
 unfold M.iP O3.OM
 cases Go.Lib.parseIntB 64 s with
 |ok v=>
  simp only
  by_cases h:Go.Lib.itoa v=s
  ·rw[if_pos h]
   simp only[h,true_and]
  ·rw[if_neg h];simp[h]
 |_=>simp
theorem SG (s:List UInt8):(O3.OM s=none /\ ((!(M.iP s).2)||(!(decide ((0:Int)<=(M.iP s).1)&&decide ((M.iP s).1<=999))))=true) \/ ∃n:Nat,O3.OM s=some n /\ n<=999 /\ (M.iP s).1=(n:Int) /\ ((!(M.iP s).2)||(!(decide ((0:Int)<=(M.iP s).1)&&decide ((M.iP s).1<=999))))=false:=by
 have h:=aru s
 generalize M.iP s=p at h
 obtain ⟨v,b⟩:=p;simp only at h ⊢
 by_cases hc:b=true /\ (0<=v /\ v<=999)
 ·rw[if_pos hc] at h
  exact .inr ⟨v.toNat,h.symm,by omega,by omega,by simp[hc.1,hc.2.1,hc.2.2]⟩
 ·rw[if_neg hc] at h
  refine .inl ⟨h.symm, ?_⟩
  cases b
  ·rfl
  ·simp only[Bool.not_true,Bool.false_or,Bool.not_eq_true',Bool.and_eq_false_iff,decide_eq_false_iff_not]
   simp only[true_and] at hc;omega
theorem ayK (s:List UInt8):∀p∈O3.fH s,p.length<=s.length:=by
 have key:∀(s:List UInt8),∀p∈O3.fH s,p.length<=s.length:=by
  intro s
  induction s with
  |nil=>intro p hp;simp[O3.fH] at hp;subst hp;simp
  |cons c r ih=>
   intro p hp;unfold O3.fH at hp;split at hp
   ·rcases List.mem_cons.1 hp with rfl |hp
    ·simp
    ·have:=ih p hp;simp;omega
   ·split at hp
    ·rename_i x y e
     rw[e] at ih
     rcases List.mem_cons.1 hp with rfl |hp
     ·have:=ih x (by simp);simp;omega
     ·have:=ih p (by simp[hp]);simp;omega
    ·simp at hp;subst hp;simp
 exact key s
theorem arI (s:List UInt8) (h:s.length<=1048576):M.yI s=some (Vr s):=by
 have hs:M.strings_Split s [46]=some (O3.fH s):=by
  unfold M.strings_Split;have:decide (s.length<4294967281)=true:=by rw[decide_eq_true_eq];omega
  rw[this];rfl
 have hrd:∀p∈O3.fH s,M.mD p=some (M.iP p):=fun p hp=>by
  have:=ayK s p hp;unfold M.mD;have:decide (p.length<=281474976710656)=true:=by rw[decide_eq_true_eq];omega
  rw[this];rfl
 have hv:∃v:Int×Bool,M.xH s=some v /\ v.2=Vr s:=by
  unfold M.xH Vr O3.aow;rw[hs];simp only[Option.getD_some,Option.isSome_some,Bool.true_and,Bool.and_true,cond_true]
  match hp:O3.fH s,hrd with
  | [],_=>exact ⟨_,rfl,rfl⟩
  | [a],_=>exact ⟨_,rfl,rfl⟩
  | [a,b],_=>exact ⟨_,rfl,rfl⟩
  |a::b::c::d::r,_=>
   have:((((a::b::c::d::r).length:Nat):Int) !=3)=true:=by
    simp only[List.length_cons,bne_iff_ne];omega
   rw[this];exact ⟨_,rfl,rfl⟩
  | [a,b,c],hrd=>
    have h3:((((([a,b,c]:List (List UInt8)).length:Nat):Int) !=3))=false:=rfl;rw[h3];simp only[cond_false];obtain ⟨f0,hf0⟩:∃f0,aA=f0+4:=⟨aA-4,by have:=bU;omega⟩
    have ra:=hrd a (by simp)
    have rb:=hrd b (by simp)
    have rc:=hrd c (by simp)
    have st:∀(f:Nat) (n:Int) (k:Nat) (p:List UInt8) (hk:k<3),([a,b,c].getD k [])=p->M.mD p=some (M.iP p)->M.iO [a,b,c] ((([a,b,c]:List (List UInt8)).length:Nat):Int) (f+1) n (k:Int)=
     bif ((!(M.iP p).2)||(!(decide ((0:Int)<=(M.iP p).1)&&decide ((M.iP p).1<=999)))) then some (.inl (0,false)) else M.iO [a,b,c] ((([a,b,c]:List (List UInt8)).length:Nat):Int) f (Go.IntKind.wrap .i64 (Go.IntKind.wrap .i64 (n*1000)+(M.iP p).1)) ((k+1:Nat):Int):=fun f n k p hk hg hr=>by
     rw[M.iO];have hlt:decide ((k:Int)<((([a,b,c]:List (List UInt8)).length:Nat):Int))=true:=by simp;omega
     have hin:inB (k:Int) ([a,b,c]:List (List UInt8)).length=true:=by rw[bf];simp;omega
     simp only[hlt,cond_true,Int.toNat_natCast,hg,hr,Option.getD_some,Option.isSome_some,hin,Bool.true_and,Bool.and_true,df (show k<3 from hk) (by omega)]
    have e0:=st (f0+3) 0 0 a (by omega) rfl ra
    rw[hf0];change M.iO [a,b,c] ((([a,b,c]:List (List UInt8)).length:Nat):Int) (f0+4) 0 0=_ at e0;rw[e0]
    rcases SG a with ⟨ha,ca⟩ |⟨x,ha,hx,ea,ca⟩
    ·rw[ca,ha];exact ⟨_,rfl,rfl⟩
    rw[ca,ha];have w1:Go.IntKind.wrap .i64 (Go.IntKind.wrap .i64 ((0:Int)*1000)+(M.iP a).1)=(x:Int):=by
     rw[ea,wrap_i64 (n:=0*1000) (by omega) (by omega),wrap_i64 (by omega) (by omega)];omega
    rw[cond_false,w1,st (f0+2) _ 1 b (by omega) rfl rb]
    rcases SG b with ⟨hb,cb⟩ |⟨y,hb,hy,eb,cb⟩
    ·rw[cb,hb];exact ⟨_,rfl,rfl⟩
    rw[cb,hb];have w2:Go.IntKind.wrap .i64 (Go.IntKind.wrap .i64 ((x:Int)*1000)+(M.iP b).1)=((x*1000+y:Nat):Int):=by
     rw[eb,wrap_i64 (show -9223372036854775808<=(x:Int)*1000 by omega) (by omega),wrap_i64 (by omega) (by omega)];omega
    rw[cond_false,w2,st (f0+1) _ 2 c (by omega) rfl rc]
    rcases SG c with ⟨hc,cc⟩ |⟨z,hc,hz,ec,cc⟩
    ·rw[cc,hc];exact ⟨_,rfl,rfl⟩
    rw[cc,hc];have w3:Go.IntKind.wrap .i64 (Go.IntKind.wrap .i64 (((x*1000+y:Nat):Int)*1000)+(M.iP c).1)=(((x*1000+y)*1000+z:Nat):Int):=by
     rw[ec,wrap_i64 (show -9223372036854775808<=((x*1000+y:Nat):Int)*1000 by omega) (by omega),wrap_i64 (by omega) (by omega)];omega
    rw[cond_false,w3,M.iO];exact ⟨_,rfl,rfl⟩
 obtain ⟨v,h1,h2⟩:=hv;unfold M.yI;rw[h1];simp only[Option.isSome_some,Option.getD_some,Bool.and_true,cond_true,h2]
end M
namespace M
open Go.V (inB xG aA bU)
theorem axV {n:Nat} (h:n<10):Go.IntKind.wrap .u8 (Go.IntKind.wrap .i64 ((48:Int)+(n:Int)))=((48+n:Nat):Int):=by
 rw[wrap_i64 (by omega) (by omega)]
 have:∀m:Fin 10,Go.IntKind.wrap .u8 ((48:Int)+((m.val:Nat):Int))=((48+m.val:Nat):Int):=by decide
 exact this ⟨n,h⟩
theorem aox {n:Nat} (h:n<10):Go.V.au0 ((48+n:Nat):Int)=true:=by
 unfold Go.V.au0;simp only[Bool.and_eq_true,decide_eq_true_eq];omega
theorem aoy (n:Nat):Go.V.au1 ((48+n:Nat):Int)=UInt8.ofNat (48+n):=by
 unfold Go.V.au1;rw[Int.toNat_natCast]
theorem awI {n:Nat} (h:n<10) (f:Nat):M.uk (f+1) (n:Int)=some [UInt8.ofNat (48+n)]:=by
 show M.Fe (M.uk f) (n:Int)=_
 unfold M.Fe;have:decide ((n:Int)<10)=true:=by rw[decide_eq_true_eq];omega
 simp only[this,axV h,aox h,aoy];rfl
theorem aoz (a b:Nat):Int.tdiv (a:Int) (b:Int)=((a/b:Nat):Int):=(Int.ofNat_tdiv a b).symm
theorem aoA (a b:Nat):Int.tmod (a:Int) (b:Int)=((a%b:Nat):Int):=(Int.ofNat_tmod a b).symm
theorem xw {a b:List UInt8} (h:a.length+b.length<=4611686018427387904):Go.V.ajd a b=true:=by
 unfold Go.V.ajd;rw[decide_eq_true_eq];exact h
theorem aje {n:Nat} (h:10<=n) (hn:n<1000) (f:Nat) {x:List UInt8} (hx:M.uk f ((n/10:Nat):Int)=some x) (hl:x.length<=10):M.uk (f+1) (n:Int)=some (x++[UInt8.ofNat (48+n%10)]):=by
 show M.Fe (M.uk f) (n:Int)=_
 unfold M.Fe;have h1:decide ((n:Int)<10)=false:=by rw[decide_eq_false_iff_not];omega
 have h2:Go.IntKind.wrap .i64 (Int.tdiv (n:Int) 10)=((n/10:Nat):Int):=by
  rw[show Int.tdiv (n:Int) 10=((n/10:Nat):Int) from aoz n 10,wrap_i64 (by omega) (by omega)]
 have h3:Int.tmod (n:Int) 10=((n%10:Nat):Int):=aoA n 10;have h4:n%10<10:=Nat.mod_lt _ (by decide)
 simp only[h1,h2,h3,hx,axV h4,aox h4,aoy,Option.getD_some,Option.isSome_some,cond_false,List.map_cons,List.map_nil];rw[xw (by simp;omega)]
 rfl
theorem azR {n:Nat} (h:n<1000):M.LP (n:Int)=some (O3.dec n):=by
 obtain ⟨f,hf⟩:∃f,aA=f+3:=⟨aA-3,by have:=bU;omega⟩
 rw[show M.LP=M.uk aA from rfl,hf]
 unfold O3.dec
 by_cases h1:n<10
 ·rw[if_pos h1];exact awI h1 (f+2)
 ·rw[if_neg h1]
  by_cases h2:n<100
  ·rw[if_pos h2]
   have:=aje (by omega) h (f+2) (awI (show n/10<10 by omega) (f+1)) (by simp)
   simpa using this
  ·rw[if_neg h2]
   have a:=awI (show n/100<10 by omega) f
   have b:=aje (n:=n/10) (by omega) (by omega) (f+1) (by rw[show n/10/10=n/100 by omega];exact a) (by simp)
   have:=aje (by omega) h (f+2) b (by simp)
   simpa using this
theorem aC8 {n:Nat} (h:n<1000000000):M.Q3 (n:Int)=some (O3.LV n):=by
 unfold M.Q3;have e1:Go.IntKind.wrap .i64 (Int.tdiv (n:Int) 1000000)=((n/1000000:Nat):Int):=by rw[show Int.tdiv (n:Int) 1000000=((n/1000000:Nat):Int) from aoz n 1000000,wrap_i64 (by omega) (by omega)]
 have e2:Int.tmod (Go.IntKind.wrap .i64 (Int.tdiv (n:Int) 1000)) 1000=((n/1000%1000:Nat):Int):=by
  rw[show Int.tdiv (n:Int) 1000=((n/1000:Nat):Int) from aoz n 1000,wrap_i64 (by omega) (by omega)];exact aoA (n/1000) 1000
 have e3:Int.tmod (n:Int) 1000=((n%1000:Nat):Int):=aoA n 1000;have l1:=O3.F8 (n:=n/1000000);have l2:=O3.F8 (n:=n/1000%1000);have l3:=O3.F8 (n:=n%1000);simp only[e1,e2,e3,azR (show n/1000000<1000 by omega),azR (show n/1000%1000<1000 by omega),azR (show n%1000<1000 by omega),Option.getD_some,Option.isSome_some]
 rw[xw (by simp;omega),xw (by simp;omega),xw (by simp;omega),xw (by simp;omega)]
 unfold O3.LV;simp
structure aCL (k n p d:Nat) (n':Int):Prop where
 fp:p<10^k
 fd:d<=k
 eq:d<=2->n'=(n:Int)
 d0:d=0->n=0
 d1:d=1->n<1001000000000000
 d2:d=2->n<2000000000000000000
theorem aoB (s:List UInt8):∀(g k n p d:Nat) (n':Int),k<=min s.length 12->min s.length 12-k<g->aCL k n p d n'->
 (O3.scan (n,p,d) ((s.take 12).drop k)=none /\ M.pW s g n' (p:Int) (d:Int) (k:Int)=some (.inl (-1))) \/
 ∃(m q e:Nat) (m':Int),O3.scan (n,p,d) ((s.take 12).drop k)=some (m,q,e) /\ M.pW s g n' (p:Int) (d:Int) (k:Int)=some (.inr (s,m',(q:Int),(e:Int))) /\ aCL (min s.length 12) m q e m'
 |0,k,n,p,d,n',h1,h2,_=>by omega
 |g+1,k,n,p,d,n',h1,h2,hI=>by
  rw[M.pW];have hlen:(s.take 12).length=min s.length 12:=by rw[List.length_take,Nat.min_comm]
  rcases Nat.lt_or_ge k (min s.length 12) with hk |hk
  ·have hks:k<s.length:=by omega
   have hd:(s.take 12).drop k=s[k]::(s.take 12).drop (k+1):=by
    rw[iQ (by rw[hlen];exact hk)];congr 1;rw[List.getElem_take]
   have aFY:p<1000000000000:=Nat.lt_of_lt_of_le hI.fp (Nat.le_trans (Nat.pow_le_pow_right (by decide) (show k<=12 by omega)) (by decide))
   have c1:decide ((k:Int)<((s.length:Nat):Int))=true:=by rw[decide_eq_true_eq];omega
   have c2:decide ((k:Int)<12)=true:=by rw[decide_eq_true_eq];omega
   have c3:inB (k:Int) s.length=true:=by rw[bf];simpa using hks
   have hw:Go.IntKind.wrap .i64 ((k:Int)+1)=((k+1:Nat):Int):=by rw[wrap_i64 (by omega) (by omega)];omega
   rw[hd];simp only[c1,c2,c3,hw,Int.toNat_natCast,getD_lt hks,Bool.and_true,Bool.true_and,Bool.true_or,cond_true];rw[O3.scan]
   by_cases h46:s[k]=46
   ·rw[if_pos h46]
    have:((((s[k]).toNat:Nat):Int)==46)=true:=by rw[h46];decide
    rw[this,cond_true];have hw2:Go.IntKind.wrap .i64 ((d:Int)+1)=((d+1:Nat):Int):=by have:=hI.fd;rw[wrap_i64 (by omega) (by omega)];omega
    rw[hw2];refine aoB s g (k+1) ((n+p)*1000) 0 (d+1) _ (by omega) (by omega) ⟨Nat.pow_pos (by decide),by have:=hI.fd;omega,fun hd2=> ?_,fun h=>by omega,fun h=> ?_,fun h=> ?_⟩
    ·have hn:n<1001000000000000:=by
      rcases Nat.lt_or_ge d 1 with h |h
      ·rw[hI.d0 (by omega)];decide
      ·exact hI.d1 (by omega)
     rw[hI.eq (by omega),wrap_i64 (n:=(n:Int)+(p:Int)) (by omega) (by omega),wrap_i64 (by omega) (by omega)];omega
    ·rw[hI.d0 (by omega)];omega
    ·have:=hI.d1 (by omega);omega
   ·rw[if_neg h46]
    have hne:((((s[k]).toNat:Nat):Int)==46)=false:=by
     rw[beq_eq_false_iff_ne];intro e;exact h46 (UInt8.toNat.inj (by have:(46:UInt8).toNat=46:=rfl;omega))
    rw[hne,cond_false]
    by_cases hdig:48<=s[k].toNat /\ s[k].toNat<=57
    ·rw[if_pos hdig]
     have d1:decide ((((s[k]).toNat:Nat):Int)<48)=false:=by rw[decide_eq_false_iff_not];omega
     have d2:decide ((57:Int)<(((s[k]).toNat:Nat):Int))=false:=by rw[decide_eq_false_iff_not];omega
     have hu:Go.IntKind.wrap .u8 ((((s[k]).toNat:Nat):Int)-48)=((s[k].toNat-48:Nat):Int):=by
      have:∀m:Fin 58,48<=m.val->Go.IntKind.wrap .u8 (((m.val:Nat):Int)-48)=((m.val-48:Nat):Int):=by decide
      exact this ⟨s[k].toNat,by omega⟩ hdig.1
     have hw3:Go.IntKind.wrap .i64 (Go.IntKind.wrap .i64 ((10:Int)*(p:Int))+Go.IntKind.wrap .i64 (((s[k].toNat-48:Nat):Int)))=((10*p+(s[k].toNat-48):Nat):Int):=by
      rw[wrap_i64 (n:=(10:Int)*(p:Int)) (by omega) (by omega),wrap_i64 (n:=((s[k].toNat-48:Nat):Int)) (by omega) (by omega),wrap_i64 (by omega) (by omega)];omega
     simp only[d1,d2,Bool.or_false,cond_false,hu,hw3];refine aoB s g (k+1) n (10*p+(s[k].toNat-48)) d n' (by omega) (by omega) ⟨?_,by have:=hI.fd;omega,hI.eq,hI.d0,hI.d1,hI.d2⟩
     have:=hI.fp;rw[Nat.pow_succ];omega
    ·rw[if_neg hdig]
     have:(decide ((((s[k]).toNat:Nat):Int)<48)||decide ((57:Int)<(((s[k]).toNat:Nat):Int)))=true:=by
      rw[Bool.or_eq_true,decide_eq_true_eq,decide_eq_true_eq];omega
     rw[this];exact .inl ⟨rfl,rfl⟩
  ·have hk':k=min s.length 12:=by omega
   subst hk';have hd:(s.take 12).drop (min s.length 12)=[]:=by rw[<-hlen,List.drop_length]
   have:(decide (((min s.length 12:Nat):Int)<((s.length:Nat):Int))&&decide (((min s.length 12:Nat):Int)<12))=false:=by
    rw[Bool.and_eq_false_iff,decide_eq_false_iff_not,decide_eq_false_iff_not];omega
   rw[this,hd];exact .inr ⟨n,p,d,n',rfl,rfl,hI⟩
theorem arH (s:List UInt8):M.yU s=some (Vr s):=by
 have key:∃r:Int,M.YQ s=some r /\ decide (0<=r)=(O3.aoC s).isSome:=by
  unfold M.YQ O3.aoC;have hl:=aoB s aA 0 0 0 0 0 (Nat.zero_le _) (by have:=bU;omega) ⟨by simp,Nat.le_refl _,fun _=>rfl,fun _=>rfl,fun h=>by omega,fun h=>by omega⟩
  rw[List.drop_zero] at hl
  rcases hl with ⟨e1,e2⟩ |⟨m,q,e,m',e1,e2,hI⟩
  ·have e2':M.pW s aA 0 0 0 0=_:=e2
   rw[e1,e2'];exact ⟨-1,rfl,rfl⟩
  ·have e2':M.pW s aA 0 0 0 0=_:=e2
   rw[e1,e2'];simp only;have hq:q<1000000000000:=Nat.lt_of_lt_of_le hI.fp (Nat.le_trans (Nat.pow_le_pow_right (by decide) (show min s.length 12<=12 by omega)) (by decide))
   by_cases he:e=2
   ·subst he
    have hm:=hI.d2 rfl;have hw:Go.IntKind.wrap .i64 (m'+(q:Int))=((m+q:Nat):Int):=by
     rw[hI.eq (by omega),wrap_i64 (by omega) (by omega)];omega
    rw[hw]
    by_cases hc:q<=999 /\ m+q<1000000000
    ·have c1:((((2:Nat):Int) !=2)||decide ((999:Int)<(q:Int)))=false:=by
      rw[Bool.or_eq_false_iff,decide_eq_false_iff_not];exact ⟨rfl,by omega⟩
     have c2:(decide ((0:Int)<=((m+q:Nat):Int))&&decide (((m+q:Nat):Int)<=999999999))=true:=by
      rw[Bool.and_eq_true,decide_eq_true_eq,decide_eq_true_eq];omega
     rw[c1,c2,aC8 hc.2]
     by_cases ht:O3.LV (m+q)=s
     ·rw[if_pos ⟨rfl,hc.1,hc.2,ht⟩]
      refine ⟨((m+q:Nat):Int), ?_,by simp;omega⟩
      simp[ht]
     ·rw[if_neg (fun h=>ht h.2.2.2)]
      refine ⟨-1, ?_,by simp⟩
      have:(O3.LV (m+q)==s)=false:=by rw[beq_eq_false_iff_ne];exact ht
      simp[this]
    ·rw[if_neg (fun h=>hc ⟨h.2.1,h.2.2.1⟩)]
     have c:(((((2:Nat):Int) !=2)||decide ((999:Int)<(q:Int)))|| !(decide ((0:Int)<=((m+q:Nat):Int))&&decide (((m+q:Nat):Int)<=999999999)))=true:=by
      rw[Bool.or_eq_true,Bool.or_eq_true,decide_eq_true_eq,Bool.not_eq_true',Bool.and_eq_false_iff,decide_eq_false_iff_not,decide_eq_false_iff_not];omega
     rw[c];exact ⟨-1,by simp,by simp⟩
   ·rw[if_neg (fun h=>he h.1)]
    have c:((((e:Nat):Int) !=2))=true:=by rw[bne_iff_ne];omega
    rw[c];exact ⟨-1,by simp,by simp⟩
 obtain ⟨r,h1,h2⟩:=key;unfold M.yU Vr;rw[h1,O3.azS];simp only[Option.isSome_some,Option.getD_some,Bool.and_true,cond_true,h2]
end M
namespace M
open Go.V (inB xG aA bU)
mutual
def Hy : ae->List (List UInt8)
 | .mk k n l kids=>(if YX (.mk k n l kids) then [n] else [])++Vj kids
def Vj : List ae->List (List UInt8)
 | []=>[]
 |x::r=>Hy x++Vj r
end
theorem atv (t:ae):Hy t=(if YX t then [t.Name] else [])++Vj t.Kids:=by cases t;rfl
mutual
def ayL : ae->List (List UInt8)
 | .mk k n l kids=>(if n==[] then [] else [n])++atw kids
def atw : List ae->List (List UInt8)
 | []=>[]
 |x::r=>ayL x++atw r
end
theorem axW (t:ae):ayL t=(if t.Name==[] then [] else [t.Name])++atw t.Kids:=by cases t;rfl
theorem aoD : ∀l:List ae,(∀x∈l,(Hy x).length<=iF x)->(Vj l).length<=oQ l
 | [],_=>Nat.le_refl _
 |x::r,h=>by
  have:=h x (by simp)
  have:=aoD r fun y hy=>h y (by simp[hy])
  simp only[Vj,oQ,List.length_append];omega
theorem arK : ∀(n:Nat) (t:ae),t.sz<n->(Hy t).length<=iF t
 |0,t,h=>by omega
 |n+1,t,h=>by
  rw[atv,zV,List.length_append];have:=aoD t.Kids fun x hx=>arK n x (by have:=ae.xx hx;omega)
  split
  ·simp;omega
  ·simp;omega
theorem Q8 (t:ae):(Hy t).length<=iF t:=arK _ t (Nat.lt_succ_self _)
theorem arL : ∀(n:Nat) (t:ae),t.sz<n->jv t=true->Hy t=ayL t
 |0,t,h,_=>by omega
 |n+1,t,h,hs=>by
  rw[atv,axW];have hk:∀l:List ae,(∀x∈l,x∈t.Kids)->Vj l=atw l:=by
   intro l
   induction l with
   |nil=>intro _;rfl
   |cons x r ih=>
    intro hl;have hx:=hl x (by simp)
    rw[JZ,Bool.and_eq_true,LW,List.all_eq_true] at hs;simp only[Vj,atw];rw[ih fun y hy=>hl y (by simp[hy]),arL n x (by have:=ae.xx hx;omega) (hs.2 x hx)]
  rw[hk t.Kids fun _ h=>h]
  congr 1
  rw[JZ,Bool.and_eq_true] at hs;have h1:=hs.1;unfold OO at h1;simp only[Bool.and_eq_true] at h1;have h2:=h1.1.2
  cases hn:YX t
  ·rw[hn] at h2
   simp only[Bool.false_eq_true,if_false] at h2 ⊢;rw[if_pos h2]
  ·rw[hn] at h2
   simp only[if_true] at h2 ⊢;have:(t.Name==[])=false:=by
    rw[beq_eq_false_iff_ne];intro e;rw[e] at h2;revert h2;decide
   rw[this];rfl
theorem au2 {t:ae} (h:jv t=true):Hy t=ayL t:=arL _ t (Nat.lt_succ_self _) h
theorem YY : ∀(m:Nat) (t:ae),t.sz<m->t.sz<=1048576->M.mF m t=some (Hy t)
 |0,t,h,_=>by omega
 |m+1,t,h,hN=>by
  show M.FP (M.mF m) t=_
  unfold M.FP;have hl:=ae.qL hN;have hsum:=ags (ae.ZH hN);have hkl:∀k,k<=t.Kids.length->(Vj (t.Kids.take k)).length<=oQ t.Kids:=fun k hk=>
   Nat.le_trans (aoD _ fun x _=>Q8 x) (atx _ _)
  have key:∀f k (pre:List (List UInt8)),pre.length<=1->k<=t.Kids.length->t.Kids.length-k<f->M.kZ (M.mF m) t.Kids (t.Kids.length:Int) f (k:Int) (pre++Vj (t.Kids.take k))=some (pre++Vj t.Kids):=by
   intro f
   induction f with
   |zero=>intro k pre _ h1 h2;omega
   |succ f ih=>
    intro k pre hp h1 h2;rw[M.kZ]
    rcases Nat.lt_or_ge k t.Kids.length with hk |hk
    ·have hx:=ae.xx (List.getElem_mem hk)
     have hc:=YY m t.Kids[k] (by omega) (by omega)
     have hlen:=hkl k h1;have hlx:(Hy t.Kids[k]).length<=oQ t.Kids:=Nat.le_trans (Q8 _) (aoE _ _ (List.getElem_mem hk));have hd:decide ((pre++Vj (t.Kids.take k)).length+(Hy t.Kids[k]).length<=1073741824)=true:=by rw[decide_eq_true_eq,List.length_append];omega
     have ht:Vj (t.Kids.take (k+1))=Vj (t.Kids.take k)++Hy t.Kids[k]:=by
      have app:∀(a b:List ae),Vj (a++b)=Vj a++Vj b:=fun a b=>by
       induction a with
       |nil=>rfl
       |cons x r ih=>simp only[List.cons_append,Vj,ih,List.append_assoc]
      rw[List.take_add_one,List.getElem?_eq_getElem hk,app];simp[Vj]
     simp only[ae.aB,getD_lt hk,hc,Int.toNat_natCast,bf,Int.ofNat_lt,hk,decide_true,cond_true,Bool.true_and,Bool.and_true,df hk (dI hl),Option.getD_some,Option.isSome_some,hd];rw[List.append_assoc,<-ht];exact ih (k+1) pre hp (by omega) (by omega)
    ·have:k=t.Kids.length:=by omega
     subst this;simp
  have e1:=key aA 0 [t.Name] (by simp) (Nat.zero_le _) (by have:=bU;omega)
  have e2:=key aA 0 [] (by simp) (Nat.zero_le _) (by have:=bU;omega)
  rw[List.take_zero] at e1 e2;have e1':M.kZ (M.mF m) t.Kids (t.Kids.length:Int) aA 0 ([]++[t.Name])=_:=e1;have e2':M.kZ (M.mF m) t.Kids (t.Kids.length:Int) aA 0 []=_:=e2;rw[e1',e2',atv];have hnb:((t.Kind==20)||(t.Kind==21))=YX t:=rfl
  rw[hnb]
  cases YX t<;>simp
def adS (f:af):List (List UInt8):=Hy f.Result++f.Params.flatMap fun p=>Hy p.bF
theorem SH {t:ae} (h:tOk t=true):iF t<=24:=by
 unfold tOk at h;simp only[Bool.and_eq_true,decide_eq_true_eq] at h;exact h.1.2
theorem aoF {l:List az} (h:fA az.sz l<=1048576):∀k,((l.take k).flatMap fun p=>Hy p.bF).length<=fA az.sz l+l.length:=fun k=>by
 have key:∀l:List az,(l.flatMap fun p=>Hy p.bF).length<=fA az.sz l+l.length:=by
  intro l
  induction l with
  |nil=>simp
  |cons p r ih=>
   have h1:=Q8 p.bF;have h2:=Q9 p.bF;have h3:=az.dJ p;simp only[List.flatMap_cons,List.length_append,fA,List.length_cons];omega
 have h1:=key (l.take k);have h2:fA az.sz (l.take k)<=fA az.sz l:=by
  have:∀(l:List az) k,fA az.sz (l.take k)<=fA az.sz l:=by
   intro l
   induction l with
   |nil=>intro k;simp
   |cons x r ih=>
    intro k
    cases k with
    |zero=>simp[fA]
    |succ k=>simp only[List.take_succ_cons,fA];have:=ih k;omega
  exact this l k
 have h3:(l.take k).length<=l.length:=by simp;omega
 omega
theorem ayM (f:af) (h:f.sz<=1048576):M.xI f=some (adS f):=by
 rw[af.dJ] at h;have hl:f.Params.length<=1048576:=Nat.le_trans (dh az.sz f.Params) (by omega)
 have hr:M.BV f.Result=some (Hy f.Result):=YY aA _ (qU (by omega)) (by omega)
 have hrl:(Hy f.Result).length<=f.Result.sz+1:=Nat.le_trans (Q8 _) (Q9 _);have key:∀g k,k<=f.Params.length->f.Params.length-k<g->M.jU f.Params (f.Params.length:Int) g (k:Int) (Hy f.Result++(f.Params.take k).flatMap fun p=>Hy p.bF)=some (adS f):=by
  intro g
  induction g with
  |zero=>intro k h1 h2;omega
  |succ g ih=>
   intro k h1 h2;rw[M.jU]
   rcases Nat.lt_or_ge k f.Params.length with hk |hk
   ·have hm:=dY az.sz _ _ (List.getElem_mem hk)
    have hty:f.Params[k].bF.sz<=1048576:=az.Oo (N:=1048576) (by omega)
    have hc:M.BV f.Params[k].bF=some (Hy f.Params[k].bF):=YY aA _ (qU hty) hty;have hb:=aoF (l:=f.Params) (by omega) k
    have hb2:(Hy f.Params[k].bF).length<=1048577:=by have:=Q8 f.Params[k].bF;have:=Q9 f.Params[k].bF;omega
    have hd:decide ((Hy f.Result++(f.Params.take k).flatMap fun p=>Hy p.bF).length+(Hy f.Params[k].bF).length<=1073741824)=true:=by
     rw[decide_eq_true_eq,List.length_append];omega
    simp only[ae.aB,getD_lt hk,hc,Int.toNat_natCast,bf,Int.ofNat_lt,hk,decide_true,cond_true,Bool.true_and,Bool.and_true,df hk (dI hl),Option.getD_some,Option.isSome_some,hd];have:=ih (k+1) (by omega) (by omega)
    rw[List.take_add_one,List.getElem?_eq_getElem hk,List.flatMap_append] at this;simpa [List.append_assoc] using this
   ·have:k=f.Params.length:=by omega
    subst this;rw[List.take_length];have:decide (((f.Params.length:Nat):Int)<((f.Params.length:Nat):Int))=false:=by simp
    rw[this];rfl
 have e:=key aA 0 (Nat.zero_le _) (by have:=bU;omega)
 unfold M.xI;have e':M.jU f.Params (f.Params.length:Int) aA 0 (Hy f.Result)=some (adS f):=by simpa using e
 simp only[ae.aB,hr,Option.getD_some,e',Option.isSome_some,Bool.and_true,cond_true]
end M
namespace M
open Go.V (inB xG aA bU)
theorem ayN (l:List (List UInt8)) (s:List UInt8) (hl:l.length<=16777216):∃out,M.Ei l s=some out /\ (∀x,x∈out↔x∈l \/ x=s) /\ out.length<=l.length+1:=by
 have key:∀g k (done:Bool) (out:List (List UInt8)),k<=l.length->l.length-k<g->(∀x,x∈out↔x∈l.take k \/ (done=true /\ x=s))->out.length<=k+1->(done=false->out.length<=k)->
  ∃done' out',M.lU l s g done (k:Int) out=some (s,done',out') /\ (∀x,x∈out'↔x∈l \/ (done'=true /\ x=s)) /\ out'.length<=l.length+1 /\ (done'=false->out'.length<=l.length):=by
  intro g
  induction g with
  |zero=>intro k done out h1 h2;omega
  |succ g ih=>
   intro k done out h1 h2 hm hlen hlen2;rw[M.lU]
   rcases Nat.lt_or_ge k l.length with hk |hk
   ·have ht:∀x,x∈l.take (k+1)↔x∈l.take k \/ x=l[k]:=fun x=>by
     rw[List.take_add_one,List.getElem?_eq_getElem hk,List.mem_append];simp
    have d2:decide (out.length+([l[k]]:List (List UInt8)).length<=1073741824)=true:=by rw[decide_eq_true_eq];simp;omega
    have d3:decide (out.length+([s]:List (List UInt8)).length<=1073741824)=true:=by rw[decide_eq_true_eq];simp;omega
    have d4:decide ((out++[s]).length+([l[k]]:List (List UInt8)).length<=1073741824)=true:=by rw[decide_eq_true_eq];simp;omega
    simp only[getD_lt hk,Int.toNat_natCast,bf,Int.ofNat_lt,hk,decide_true,cond_true,Bool.true_and,Bool.and_true,Bool.true_or,df hk (by omega:l.length<2^62),d2,d3,d4]
    have hq:∀b:Bool,(((decide True&&true|| !b)&&(decide True&&true||b)))=true:=fun b=>by cases b<;>rfl
    by_cases he:l[k]=s
    ·have hb:(l[k]==s)=true:=by rw[he];exact beq_self_eq_true s
     simp only[hb,Bool.true_or,Bool.not_true,Bool.false_and,cond_false,Bool.and_true,Bool.true_and,Bool.or_true,cond_true];refine ih (k+1) true _ (by omega) (by omega) (fun x=> ?_) (by simp;omega) (fun h=>by cases h)
     rw[List.mem_append,hm,ht];simp only[List.mem_singleton,true_and];constructor
     ·rintro ((h |⟨-,h⟩) |h)
      ·exact .inl (.inl h)
      ·exact .inr h
      ·exact .inl (.inr h)
     ·rintro ((h |h) |h)
      ·exact .inl (.inl h)
      ·exact .inr h
      ·exact .inr (by rw[h,he])
    ·have hb:(l[k]==s)=false:=by rw[beq_eq_false_iff_ne];exact he
     simp only[hb,Bool.false_or,Bool.or_false,Bool.not_false,Bool.or_true,Bool.and_true,Bool.true_and,cond_true]
     cases done
     ·simp only[Bool.not_false,Bool.true_and]
      cases hlt:Go.V.ltS l[k] s
      ·simp only[Bool.not_false,cond_true]
       refine ih (k+1) true _ (by omega) (by omega) (fun x=> ?_) (by simp;have:=hlen2 rfl;omega) (fun h=>by cases h)
       rw[List.mem_append,List.mem_append,hm,ht];simp only[List.mem_singleton,true_and,Bool.false_eq_true,false_and,or_false];constructor
       ·rintro ((h |h) |h)
        ·exact .inl (.inl h)
        ·exact .inr h
        ·exact .inl (.inr h)
       ·rintro ((h |h) |h)
        ·exact .inl (.inl h)
        ·exact .inr h
        ·exact .inl (.inr h)
      ·simp only[Bool.not_true,cond_false]
       refine ih (k+1) false _ (by omega) (by omega) (fun x=> ?_) (by simp;have:=hlen2 rfl;omega) (fun h=>by simp;have:=hlen2 rfl;omega)
       rw[List.mem_append,hm,ht];simp
     ·simp only[Bool.not_true,Bool.false_and,cond_false]
      refine ih (k+1) true _ (by omega) (by omega) (fun x=> ?_) (by simp;omega) (fun h=>by cases h)
      rw[List.mem_append,hm,ht];simp only[List.mem_singleton,true_and];constructor
      ·rintro ((h |h) |h)
       ·exact .inl (.inl h)
       ·exact .inr h
       ·exact .inl (.inr h)
      ·rintro ((h |h) |h)
       ·exact .inl (.inl h)
       ·exact .inr h
       ·exact .inl (.inr h)
   ·have:k=l.length:=by omega
    subst this;have:decide (((l.length:Nat):Int)<((l.length:Nat):Int))=false:=by simp
    rw[this];exact ⟨done,out,rfl,by simpa using hm,hlen,hlen2⟩
 obtain ⟨done,out,e,h1,h2,h3⟩:=key aA 0 false [] (Nat.zero_le _) (by have:=bU;omega) (by simp) (by simp) (by simp)
 have e':M.lU l s aA false 0 []=_:=e;unfold M.Ei;rw[e']
 cases done
 ·have hd:decide (out.length+([s]:List (List UInt8)).length<=1073741824)=true:=by rw[decide_eq_true_eq];have:=h3 rfl;simp;omega
  simp only[Bool.not_false,cond_true,hd,Bool.and_true];refine ⟨out++[s],rfl,fun x=> ?_,by simp;exact h3 rfl⟩
  rw[List.mem_append,h1];simp
 ·simp only[Bool.not_true,cond_false]
  exact ⟨out,rfl,fun x=>by rw[h1];simp,h2⟩
theorem ayO {l:List ae} {k:Nat} (h:k<l.length):atw (l.drop k)=ayL l[k]++atw (l.drop (k+1)):=by rw[iQ h];rfl
theorem YZ : ∀(m:Nat) (t:ae) (out:List (List UInt8)),t.sz<m->t.sz<=1048576->out.length+iF t<=8388608->
 ∃out',M.jD m t out=some out' /\ (∀x,x∈out'↔x∈out \/ x∈ayL t) /\ out'.length<=out.length+iF t
 |0,t,out,h,_,_=>by omega
 |m+1,t,out,h,hN,ho=>by
  show ∃out',M.zU (M.jD m) t out=_ /\ _
  unfold M.zU;have hl:=ae.qL hN;rw[zV] at ho ⊢;have key:∀f k (o:List (List UInt8)),k<=t.Kids.length->t.Kids.length-k<f->o.length+oQ (t.Kids.drop k)<=8388608->
   ∃out',M.jh (M.jD m) f o (k:Int) t=some out' /\ (∀x,x∈out'↔x∈o \/ x∈atw (t.Kids.drop k)) /\ out'.length<=o.length+oQ (t.Kids.drop k):=by
   intro f
   induction f with
   |zero=>intro k o h1 h2;omega
   |succ f ih=>
    intro k o h1 h2 h3;rw[M.jh]
    rcases Nat.lt_or_ge k t.Kids.length with hk |hk
    ·have hx:=ae.xx (List.getElem_mem hk)
     rw[Ff hk] at h3 ⊢;obtain ⟨o1,e1,g1,g2⟩:=YZ m t.Kids[k] o (by omega) (by omega) (by omega)
     simp only[ae.aB,getD_lt hk,e1,Int.toNat_natCast,bf,Int.ofNat_lt,hk,decide_true,cond_true,Bool.true_and,Bool.and_true,df hk (dI hl),Option.getD_some,Option.isSome_some];obtain ⟨o2,e2,g3,g4⟩:=ih (k+1) o1 (by omega) (by omega) (by omega)
     refine ⟨o2,e2,fun x=> ?_,by omega⟩
     rw[g3,g1,ayO hk,List.mem_append];constructor
     ·rintro ((h |h) |h)
      ·exact .inl h
      ·exact .inr (.inl h)
      ·exact .inr (.inr h)
     ·rintro (h |h |h)
      ·exact .inl (.inl h)
      ·exact .inl (.inr h)
      ·exact .inr h
    ·have:k=t.Kids.length:=by omega
     subst this;have:decide (((t.Kids.length:Nat):Int)<((t.Kids.length:Nat):Int))=false:=by simp
     rw[this,List.drop_length];exact ⟨o,rfl,fun x=>by simp[atw],by simp[oQ]⟩
  rw[ae.aB];have hnm:=axW t
  cases hn:t.Name==[]
  ·simp only[Bool.not_false,cond_true]
   obtain ⟨o1,e1,g1,g2⟩:=ayN out t.Name (by omega)
   rw[e1];simp only[Option.getD_some,Option.isSome_some,Bool.and_true,cond_true];obtain ⟨o2,e2,g3,g4⟩:=key aA 0 o1 (Nat.zero_le _) (by have:=bU;omega) (by rw[List.drop_zero];omega)
   rw[List.drop_zero] at g3 g4;have e2':M.jh (M.jD m) aA o1 0 t=_:=e2;rw[e2'];refine ⟨o2,rfl,fun x=> ?_,by omega⟩
   rw[g3,g1,hnm,hn];simp only[Bool.false_eq_true,if_false,List.mem_append,List.mem_singleton];constructor
   ·rintro ((h |h) |h)
    ·exact .inl h
    ·exact .inr (.inl h)
    ·exact .inr (.inr h)
   ·rintro (h |h |h)
    ·exact .inl (.inl h)
    ·exact .inl (.inr h)
    ·exact .inr h
  ·simp only[Bool.not_true,cond_false]
   obtain ⟨o2,e2,g3,g4⟩:=key aA 0 out (Nat.zero_le _) (by have:=bU;omega) (by rw[List.drop_zero];omega)
   rw[List.drop_zero] at g3 g4;have e2':M.jh (M.jD m) aA out 0 t=_:=e2;rw[e2'];refine ⟨o2,rfl,fun x=> ?_,by omega⟩
   rw[g3,hnm,hn];simp
theorem aBU (f:af) (l:List (List UInt8)) (h:f.sz<=1048576) (hl:l.length<=1048576) (hok:fOk f=true):M.LU f l=some ((adS f).all fun x=>l.any fun y=>x==y):=by
 rw[af.dJ] at h;have hpl:f.Params.length<=1048576:=Nat.le_trans (dh az.sz f.Params) (by omega)
 have hps:∀p∈f.Params,tOk p.bF=true:=fun p hp=>by
  unfold fOk at hok;simp only[Bool.and_eq_true,List.all_eq_true] at hok;have:=hok.1.1.2.1 p hp;unfold Rf at this;simp only[Bool.not_eq_true',Bool.or_eq_false_iff,Bool.not_eq_false'] at this;exact this.1.2
 have hres:tOk f.Result=true:=by
  unfold fOk at hok;simp only[Bool.and_eq_true] at hok;exact hok.1.2
 have hp6:f.Params.length<=6:=by
  unfold fOk at hok;simp only[Bool.and_eq_true,decide_eq_true_eq] at hok;exact hok.1.1.1
 have shp:∀{t:ae},tOk t=true->jv t=true:=fun {t} h=>by unfold tOk at h;simp only[Bool.and_eq_true] at h;exact h.2
 obtain ⟨o0,e0,g0,k0⟩:=YZ aA f.Result [] (qU (by omega)) (by omega) (by have:=SH hres;simp;omega)
 have e0':M.vI f.Result []=some o0:=e0;have aEP:∀g k (o:List (List UInt8)),k<=f.Params.length->f.Params.length-k<g->o.length+24*(f.Params.length-k)<=1000->
  ∃o',M.um l g o (k:Int) f=some (l,o') /\ (∀x,x∈o'↔x∈o \/ x∈(f.Params.drop k).flatMap fun p=>Hy p.bF) /\ o'.length<=1000:=by
  intro g
  induction g with
  |zero=>intro k o h1 h2;omega
  |succ g ih=>
   intro k o h1 h2 h3;rw[M.um]
   rcases Nat.lt_or_ge k f.Params.length with hk |hk
   ·have hm:=dY az.sz _ _ (List.getElem_mem hk)
    have hty:f.Params[k].bF.sz<=1048576:=az.Oo (N:=1048576) (by omega)
    have ht:=hps _ (List.getElem_mem hk);have h24:=SH ht;obtain ⟨o1,e1,g1,g2⟩:=YZ aA f.Params[k].bF o (qU hty) hty (by omega)
    have e1':M.vI f.Params[k].bF o=some o1:=e1;simp only[ae.aB,af.aB,getD_lt hk,e1',Int.toNat_natCast,bf,Int.ofNat_lt,hk,decide_true,cond_true,Bool.true_and,Bool.and_true,df hk (dI hpl),Option.getD_some,Option.isSome_some];obtain ⟨o2,e2,g3,g4⟩:=ih (k+1) o1 (by omega) (by omega) (by omega)
    refine ⟨o2,e2,fun x=> ?_,g4⟩
    rw[g3,g1,iQ hk,List.flatMap_cons,List.mem_append,au2 (shp ht)];constructor
    ·rintro ((h |h) |h)
     ·exact .inl h
     ·exact .inr (.inl h)
     ·exact .inr (.inr h)
    ·rintro (h |h |h)
     ·exact .inl (.inl h)
     ·exact .inl (.inr h)
     ·exact .inr h
   ·have:k=f.Params.length:=by omega
    subst this;have:decide (((f.Params.length:Nat):Int)<((f.Params.length:Nat):Int))=false:=by simp
    rw[this,List.drop_length];exact ⟨o,rfl,fun x=>by simp,by omega⟩
 obtain ⟨all,ea,ga,la⟩:=aEP aA 0 o0 (Nat.zero_le _) (by have:=bU;omega) (by have:=SH hres;simp at k0;omega)
 have ea':M.um l aA o0 0 f=some (l,all):=ea;have hmem:∀x,x∈all↔x∈adS f:=fun x=>by
  rw[ga,g0,List.drop_zero];unfold adS;rw[List.mem_append,au2 (shp hres)];simp
 have inner:∀i (hi:i<all.length),M.oJ l all (i:Int) aA false 0=some (l,all,(i:Int),l.any fun y=>all[i]==y):=fun i hi=>by
  have k1:∀g k (met:Bool),k<=l.length->l.length-k<g->M.oJ l all (i:Int) g met (k:Int)=some (l,all,(i:Int),met||(l.drop k).any fun y=>all[i]==y):=by
   intro g
   induction g with
   |zero=>intro k met h1 h2;omega
   |succ g ih=>
    intro k met h1 h2;rw[M.oJ]
    rcases Nat.lt_or_ge k l.length with hk |hk
    ·simp only[getD_lt hk,getD_lt hi,Int.toNat_natCast,bf,Int.ofNat_lt,hk,hi,decide_true,cond_true,Bool.true_or,Bool.true_and,Bool.and_true,df hk (dI hl)]
     rw[ih (k+1) _ (by omega) (by omega),auq _ hk,<-Bool.or_assoc]
     have:(l[k]==all[i])=(all[i]==l[k]):=by rw[Bool.eq_iff_iff,beq_iff_eq,beq_iff_eq];exact eq_comm
     rw[this]
    ·have:k=l.length:=by omega
     subst this;have:decide (((l.length:Nat):Int)<((l.length:Nat):Int))=false:=by simp
     rw[this,List.drop_length];simp
  have:=k1 aA 0 false (Nat.zero_le _) (by have:=bU;omega)
  simpa using this
 have outer:M.kT aA l all 0=some (if all.all (fun x=>l.any fun y=>x==y) then .inr () else .inl false):=
  yF (p:=fun x=>l.any fun y=>x==y) (F:=fun g k=>M.kT g l all k) (e:=()) (b:=false) all (by omega) (fun g k hk=>by
   show M.kT (g+1) l all (k:Int)=_
   rw[M.kT];have hin:=inner k hk;simp only[hin,Int.ofNat_lt,hk,decide_true,cond_true,df hk (by omega:all.length<2^62)]
   cases (l.any fun y=>all[k]==y)<;>rfl) (fun g=>by
   show M.kT (g+1) l all (all.length:Int)=_
   rw[M.kT];simp)
 unfold M.LU;simp only[ae.aB,af.aB,e0',Option.getD_some,ea',outer,Option.isSome_some,Bool.and_true,cond_true];have hall:all.all (fun x=>l.any fun y=>x==y)=(adS f).all fun x=>l.any fun y=>x==y:=by
  rw[Bool.eq_iff_iff,List.all_eq_true,List.all_eq_true];exact ⟨fun h x hx=>h x ((hmem x).2 hx),fun h x hx=>h x ((hmem x).1 hx)⟩
 rw[hall]
 cases (adS f).all fun x=>l.any fun y=>x==y<;>simp
end M
namespace M
open Go.V (inB xG aA bU)
def Oq (l:List (List UInt8)):Bool:=(List.range l.length).all fun k=>(k==0)||Go.V.ltS (l.getD (k-1) []) (l.getD k [])
theorem SI (l:List (List UInt8)) (h:l.length<=1048576):M.rX l=some (Oq l):=by
 have key:∀g k,1<=k->k<=l.length->l.length-k<g->M.lN l g (k:Int)=some (if (List.range' k (l.length-k)).all (fun k=>Go.V.ltS (l.getD (k-1) []) (l.getD k [])) then .inr () else .inl false):=by
  intro g
  induction g with
  |zero=>intro k h0 h1 h2;omega
  |succ g ih=>
   intro k h0 h1 h2;rw[M.lN]
   rcases Nat.lt_or_ge k l.length with hk |hk
   ·have hk1:k-1<l.length:=by omega
    have hr:List.range' k (l.length-k)=k::List.range' (k+1) (l.length-(k+1)):=by
     rw[show l.length-k=(l.length-(k+1))+1 by omega];rfl
    rw[hr,List.all_cons];simp only[akC h0 (Nat.le_of_lt hk) (dI h),Int.toNat_natCast,bf,Int.ofNat_lt,hk,hk1,decide_true,cond_true,Bool.and_true,df hk (dI h),ih (k+1) (by omega) (by omega) (by omega)]
    cases Go.V.ltS (l.getD (k-1) []) (l.getD k [])<;>rfl
   ·have:k=l.length:=by omega
    subst this;have:decide (((l.length:Nat):Int)<((l.length:Nat):Int))=false:=by simp
    rw[this,Nat.sub_self];rfl
 unfold M.rX Oq
 rcases Nat.eq_zero_or_pos l.length with h0 |h0
 ·have:l=[]:=List.eq_nil_of_length_eq_zero h0
  subst this;obtain ⟨f,hf⟩:∃f,aA=f+1:=⟨aA-1,by have:=bU;omega⟩
  rw[hf,M.lN];rfl
 ·have e:=key aA 1 (Nat.le_refl _) h0 (by have:=bU;omega)
  have e':M.lN l aA 1=_:=e;rw[e'];have hr:List.range l.length=0::List.range' 1 (l.length-1):=by
   rw[List.range_eq_range',show l.length=(l.length-1)+1 by omega];rfl
  have hc:(List.range' 1 (l.length-1)).all (fun k=>(k==0)||Go.V.ltS (l.getD (k-1) []) (l.getD k []))=(List.range' 1 (l.length-1)).all (fun k=>Go.V.ltS (l.getD (k-1) []) (l.getD k [])):=by
   rw[Bool.eq_iff_iff,List.all_eq_true,List.all_eq_true];have hp:∀k∈List.range' 1 (l.length-1),(k==0)=false:=fun k hk=>by
    rw[List.mem_range'] at hk;obtain ⟨i,_,rfl⟩:=hk;rw[beq_eq_false_iff_ne];omega
   exact ⟨fun h k hk=>by have:=h k hk;rwa [hp k hk,Bool.false_or] at this,fun h k hk=>by rw[hp k hk,Bool.false_or];exact h k hk⟩
  rw[hr,List.all_cons,hc];simp only[beq_self_eq_true,Bool.true_or,Bool.true_and]
  cases (List.range' 1 (l.length-1)).all (fun k=>Go.V.ltS (l.getD (k-1) []) (l.getD k []))<;>simp
def ap9 (R:List (List UInt8)) (x:aT):Bool:=(fO x.Name&&fOk x.bF)&&(adS x.bF).all fun n=>R.any fun y=>n==y
def OG (f:aN):Bool:=
 (((fO f.eF&&fO f.Name)&&Vr f.Version)&&(decide (f.aU.length<=4)&&decide (f.Funcs.length<=8)))&&
   ((Oq f.aU&&f.aU.all fO)&&(f.Funcs.all (ap9 f.aU)&&Oq (f.Funcs.map aT.Name)))
theorem gtN (n m:Nat):decide (((m:Nat):Int)<((n:Nat):Int))= !decide (n<=m):=by
 rw[Bool.eq_iff_iff];simp only[Bool.not_eq_true',decide_eq_true_eq,decide_eq_false_iff_not];omega
theorem gt4 (n:Nat):decide ((4:Int)<((n:Nat):Int))= !decide (n<=4):=gtN n 4
theorem gt8 (n:Nat):decide ((8:Int)<((n:Nat):Int))= !decide (n<=8):=gtN n 8
theorem azT {l:List aT} (k:Nat):(l.map aT.Name).getD k []=(l.getD k aT.zero).Name:=by
 rw[List.getD_eq_getElem?_getD,List.getD_eq_getElem?_getD,List.getElem?_map]
 cases l[k]?<;>rfl
theorem aC9 (f:aN) (h:f.sz<=1048576):M.O9 f=some (OG f):=by
 rw[aN.dJ] at h;have hrl:f.aU.length<=1048576:=Nat.le_trans (dh List.length f.aU) (by omega)
 have hfl:f.Funcs.length<=1048576:=Nat.le_trans (dh aT.sz f.Funcs) (by omega)
 have hn1:=Gt f.eF (by omega)
 have hn2:=Gt f.Name (by omega)
 have hv:=arH f.Version;have l0:M.mV f aA 0=some (if (List.range f.aU.length).all (fun i=>fO (f.aU.getD i [])&&((i==0)||Go.V.ltS (f.aU.getD (i-1) []) (f.aU.getD i []))) then .inr f else .inl false):=
  uQ (p:=fun i=>fO (f.aU.getD i [])&&((i==0)||Go.V.ltS (f.aU.getD (i-1) []) (f.aU.getD i []))) (F:=fun g k=>M.mV f g k) (e:=f) (b:=false) f.aU.length (by omega) (fun g k hk=>by
   show M.mV f (g+1) (k:Int)=_
   rw[M.mV];have hnm:=Gt (f.aU.getD k []) (by rw[getD_lt hk];have:=dY List.length _ _ (List.getElem_mem hk);omega)
   rcases Nat.eq_zero_or_pos k with h0 |h0
   ·subst h0
    simp only[hnm,Int.toNat_natCast,bf,Int.ofNat_lt,hk,decide_true,cond_true,Bool.true_and,Bool.and_true,df hk (dI hrl),Option.getD_some,Option.isSome_some,Bool.true_or]
    cases fO (f.aU.getD 0 [])<;>simp
   ·have hk1:k-1<f.aU.length:=by omega
    have hp:decide ((0:Int)<(k:Int))=true:=by rw[decide_eq_true_eq];omega
    have hz:(k==0)=false:=by rw[beq_eq_false_iff_ne];omega
    simp only[hnm,akC h0 (Nat.le_of_lt hk) (dI hrl),hp,hz,Int.toNat_natCast,bf,Int.ofNat_lt,hk,hk1,decide_true,cond_true,Bool.true_and,Bool.and_true,df hk (dI hrl),Option.getD_some,Option.isSome_some,Bool.true_or,Bool.false_or]
    cases fO (f.aU.getD k [])<;>cases Go.V.ltS (f.aU.getD (k-1) []) (f.aU.getD k [])<;>rfl) (fun g=>by
   show M.mV f (g+1) (f.aU.length:Int)=_
   rw[M.mV];simp)
 have l1:M.mX f aA 0=some (if (List.range f.Funcs.length).all (fun i=>ap9 f.aU (f.Funcs.getD i aT.zero)&&((i==0)||Go.V.ltS (f.Funcs.getD (i-1) aT.zero).Name (f.Funcs.getD i aT.zero).Name)) then .inr () else .inl false):=
  uQ (p:=fun i=>ap9 f.aU (f.Funcs.getD i aT.zero)&&((i==0)||Go.V.ltS (f.Funcs.getD (i-1) aT.zero).Name (f.Funcs.getD i aT.zero).Name)) (F:=fun g k=>M.mX f g k) (e:=()) (b:=false) f.Funcs.length (by omega) (fun g k hk=>by
   show M.mX f (g+1) (k:Int)=_
   rw[M.mX];have hm:=dY aT.sz _ _ (List.getElem_mem hk);have hsz:=aT.dJ f.Funcs[k];have hnm:=Gt f.Funcs[k].Name (by omega)
   have hfn:=aDa f.Funcs[k].bF (by omega)
   have hkn:=aBU f.Funcs[k].bF f.aU (by omega) hrl
   have fin:∀(r:Bool),((k==0)||Go.V.ltS (f.Funcs.getD (k-1) aT.zero).Name (f.Funcs.getD k aT.zero).Name)=r->(decide ((0:Int)<(k:Int))&& !Go.V.ltS (f.Funcs.getD (Int.toNat (Go.IntKind.wrap .i64 ((k:Int)-1))) aT.zero).Name (f.Funcs[k]).Name)= !r /\
    (inB (Go.IntKind.wrap .i64 ((k:Int)-1)) f.Funcs.length|| !(decide ((0:Int)<(k:Int))))=true:=fun r hr=>by
    rcases Nat.eq_zero_or_pos k with h0 |h0
    ·subst h0
     simp at hr ⊢;exact hr.symm ▸ rfl
    ·have hk1:k-1<f.Funcs.length:=by omega
     have hp:decide ((0:Int)<(k:Int))=true:=by rw[decide_eq_true_eq];omega
     have hz:(k==0)=false:=by rw[beq_eq_false_iff_ne];omega
     rw[akC h0 (Nat.le_of_lt hk) (dI hfl),hp,Int.toNat_natCast,bf];rw[hz,Bool.false_or,getD_lt hk] at hr;rw[hr];simp[hk1]
   generalize hr:((k==0)||Go.V.ltS (f.Funcs.getD (k-1) aT.zero).Name (f.Funcs.getD k aT.zero).Name)=r
   obtain ⟨f1,f2⟩:=fin r hr;simp only[af.aB,getD_lt hk,hnm,hfn,f1,Int.toNat_natCast,bf,Int.ofNat_lt,hk,decide_true,cond_true,Bool.true_and,Bool.and_true,df hk (dI hfl),Option.getD_some,Option.isSome_some,Bool.true_or];have hin:∀b:Bool,(inB (Go.IntKind.wrap .i64 ((k:Int)-1)) f.Funcs.length||(!(b&&(decide ((0:Int)<(k:Int))==true))))=true:=fun b=>by
    cases b
    ·simp
    ·revert f2
     cases inB (Go.IntKind.wrap .i64 ((k:Int)-1)) f.Funcs.length<;>cases decide ((0:Int)<(k:Int))<;>simp
   simp only[hin,Bool.and_true,Bool.true_and];unfold ap9
   cases hN:fO f.Funcs[k].Name
   ·simp
   ·cases r
    ·simp
    ·cases hF:fOk f.Funcs[k].bF
     ·simp
     ·rw[hkn hF]
      cases ((adS f.Funcs[k].bF).all fun n=>f.aU.any fun y=>n==y)<;>simp) (fun g=>by
   show M.mX f (g+1) (f.Funcs.length:Int)=_
   rw[M.mX];simp)
 rw[agt,Rh fO f.aU []] at l0;rw[agt,Rh (ap9 f.aU) f.Funcs aT.zero] at l1;have hr1:(List.range f.aU.length).all (fun i=>(i==0)||Go.V.ltS (f.aU.getD (i-1) []) (f.aU.getD i []))=Oq f.aU:=rfl
 have hr2:(List.range f.Funcs.length).all (fun i=>(i==0)||Go.V.ltS (f.Funcs.getD (i-1) aT.zero).Name (f.Funcs.getD i aT.zero).Name)=Oq (f.Funcs.map aT.Name):=by
  unfold Oq;simp only[List.length_map,azT]
 rw[hr1] at l0;rw[hr2] at l1;unfold M.O9 OG;simp only[hn1,hn2,hv,l0,gt4,gt8,Option.getD_some,Option.isSome_some,Bool.true_or,Bool.and_true,Bool.true_and,cond_true]
 cases fO f.eF<;>cases fO f.Name<;>cases Vr f.Version<;>cases decide (f.aU.length<=4)<;>cases decide (f.Funcs.length<=8)<;>try rfl
 cases f.aU.all fO<;>cases Oq f.aU<;>try rfl
 simp only[Bool.not_true,Bool.or_self,cond_false,Bool.and_self,if_true,l1]
 cases f.Funcs.all (ap9 f.aU)<;>cases Oq (f.Funcs.map aT.Name)<;>rfl
theorem RD (l:List (List UInt8)) (v:List UInt8) (hl:l.length<=1048576):M.eG l v=some (l.any fun y=>v==y):=by
 have e:=ik (p:=fun y=>v==y) (F:=M.fP l v (l.length:Int)) (e:=()) (fun k=>k) l (by omega) (fun g k hk=>by
  rw[M.fP];simp only[getD_lt hk,Int.toNat_natCast,bf,Int.ofNat_lt,hk,decide_true,cond_true,Bool.and_true,df hk (by omega:l.length<2^62)]
  ) (fun g=>by rw[M.fP];simp)
 unfold M.eG M.lg;rw[e,iZ]
 cases l.findIdx? (fun y=>v==y)<;>simp
theorem aDb (f:aN) (h:f.sz<=1048576):M.VD f=some (OG f):=by
 rw[aN.dJ] at h;have hrl:f.aU.length<=1048576:=Nat.le_trans (dh List.length f.aU) (by omega)
 have hfl:f.Funcs.length<=1048576:=Nat.le_trans (dh aT.sz f.Funcs) (by omega)
 have hn1:=Gu f.eF (by omega)
 have hn2:=Gu f.Name (by omega)
 have hv:=arI f.Version (by omega)
 have azU:=SI f.aU hrl;have hc2:M.gI f.aU=some (f.aU.any fun s=> !fO s):=by
  have e:=ik (p:=fun s=> !fO s) (F:=M.dS f.aU (f.aU.length:Int)) (e:=()) (fun k=>k) f.aU (by omega) (fun g k hk=>by
   rw[M.dS];have hn:f.aU[k].length<=1048576:=by have:=dY List.length _ _ (List.getElem_mem hk);omega
   have hc:M.Gx f.aU[k]=some (!fO f.aU[k]):=by unfold M.Gx;rw[Gu _ hn];rfl
   simp only[getD_lt hk,hc,Int.toNat_natCast,bf,Int.ofNat_lt,hk,decide_true,cond_true,Bool.true_and,Bool.and_true,df hk (by omega:f.aU.length<2^62),Option.getD_some,Option.isSome_some]) (fun g=>by rw[M.dS];simp)
  unfold M.gI M.jb;rw[e,iZ]
  cases f.aU.findIdx? (fun s=> !fO s)<;>simp
 have hc3:∀l:List (List UInt8),l.length<=8388608->M.gJ l f=some (l.any fun n=> !(f.aU.any fun y=>n==y)):=fun l hl=>by
  have e:=ik (p:=fun n=> !(f.aU.any fun y=>n==y)) (F:=M.dU l f (l.length:Int)) (e:=()) (fun k=>k) l (by omega) (fun g k hk=>by
   rw[M.dU];have hc:M.GH l[k] f=some (!(f.aU.any fun y=>l[k]==y)):=by unfold M.GH;rw[RD _ _ hrl];rfl
   simp only[getD_lt hk,hc,Int.toNat_natCast,bf,Int.ofNat_lt,hk,decide_true,cond_true,Bool.true_and,Bool.and_true,df hk (by omega:l.length<2^62),Option.getD_some,Option.isSome_some]) (fun g=>by rw[M.dU];simp)
  unfold M.gJ M.jc;rw[e,iZ]
  cases l.findIdx? (fun n=> !(f.aU.any fun y=>n==y))<;>simp
 have hres:∀k (hk:k<f.Funcs.length),(adS f.Funcs[k].bF).length<=8388608:=fun k hk=>by
  have hm:=dY aT.sz _ _ (List.getElem_mem hk);have hsz:=aT.dJ f.Funcs[k];have hsz2:=af.dJ f.Funcs[k].bF;unfold adS;rw[List.length_append];have h1:=Q8 f.Funcs[k].bF.Result;have h2:=Q9 f.Funcs[k].bF.Result;have h3:=aoF (l:=f.Funcs[k].bF.Params) (by omega) f.Funcs[k].bF.Params.length
  rw[List.take_length] at h3;have h4:=dh az.sz f.Funcs[k].bF.Params;omega
 have key:∀g k,k<=f.Funcs.length->f.Funcs.length-k<g->M.vU f.Funcs (f.Funcs.length:Int) f g (k:Int) ((f.Funcs.take k).map aT.Name)=some (if (f.Funcs.drop k).all (ap9 f.aU) then .inr (f.Funcs.map aT.Name) else .inl false):=by
  intro g
  induction g with
  |zero=>intro k h1 h2;omega
  |succ g ih=>
   intro k h1 h2
   rcases Nat.lt_or_ge k f.Funcs.length with hk |hk
   ·rw[M.vU]
    have hm:=dY aT.sz _ _ (List.getElem_mem hk);have hsz:=aT.dJ f.Funcs[k];have hnm:=Gu f.Funcs[k].Name (by omega)
    have hfn:=azV f.Funcs[k].bF (by omega)
    have hfr:=ayM f.Funcs[k].bF (by omega)
    have hcc:=hc3 _ (hres k hk);have hd:decide ((((f.Funcs.take k).map aT.Name).length+([f.Funcs[k].Name]:List (List UInt8)).length)<=1073741824)=true:=by
     simp only[decide_eq_true_eq,List.length_map,List.length_take,List.length_cons,List.length_nil];omega
    have ht:(f.Funcs.take k).map aT.Name++[f.Funcs[k].Name]=(f.Funcs.take (k+1)).map aT.Name:=by
     rw[List.take_add_one,List.map_append,List.getElem?_eq_getElem hk];rfl
    simp only[af.aB,getD_lt hk,hnm,hfn,hfr,hcc,Int.toNat_natCast,bf,Int.ofNat_lt,hk,decide_true,cond_true,Bool.true_and,Bool.and_true,df hk (dI hfl),Option.getD_some,Option.isSome_some,Bool.true_or,hd,ht];rw[ih (k+1) (by omega) (by omega),aoH _ hk]
    unfold ap9;have hna:((adS f.Funcs[k].bF).any fun n=> !(f.aU.any fun y=>n==y))= !((adS f.Funcs[k].bF).all fun n=>f.aU.any fun y=>n==y):=by rw[List.not_all_eq_any_not]
    rw[hna]
    cases fO f.Funcs[k].Name<;>cases fOk f.Funcs[k].bF<;>cases ((adS f.Funcs[k].bF).all fun n=>f.aU.any fun y=>n==y)<;>simp
   ·have:k=f.Funcs.length:=by omega
    subst this;rw[M.vU];simp
 have e:=key aA 0 (Nat.zero_le _) (by have:=bU;omega)
 have e':M.vU f.Funcs (f.Funcs.length:Int) f aA 0 []=_:=e;rw[List.drop_zero] at e';have aD8:=SI (f.Funcs.map aT.Name) (by rw[List.length_map];exact hfl)
 have hna:(f.aU.any fun s=> !fO s)= !f.aU.all fO:=by rw[List.not_all_eq_any_not]
 unfold M.VD OG;simp only[hn1,hn2,hv,azU,hc2,hna,e',gt4,gt8,Option.getD_some,Option.isSome_some,Bool.true_or,Bool.and_true,Bool.true_and,cond_true]
 cases fO f.eF<;>cases fO f.Name<;>cases Vr f.Version<;>cases decide (f.aU.length<=4)<;>cases decide (f.Funcs.length<=8)<;>try rfl
 cases f.aU.all fO<;>cases Oq f.aU<;>try rfl
 simp only[Bool.not_true,Bool.or_self,cond_false,Bool.and_self,Bool.true_and]
 cases f.Funcs.all (ap9 f.aU)
 ·rfl
 ·simp only[if_true,aD8,Option.getD_some,Option.isSome_some,cond_true,Bool.true_and]
theorem asz (f:aN) (h:f.sz<=1048576):M.oC f=some ((f.eF++[47])++f.Name):=by
 rw[aN.dJ] at h;unfold M.oC;rw[xw (by simp;omega),xw (by simp;omega)];rfl
theorem aei (f:aN) (h:f.sz<=1048576):M.jV f=some ((f.eF++[47])++f.Name):=by
 rw[aN.dJ] at h;unfold M.jV;rw[xw (by simp;omega),xw (by simp;omega)];rfl
end M
namespace M
open Go.V (inB xG aA bU)
def qV (t:ae):Bool:=LX (fun k=>(k==22)||(k==23)) t
def zq (f:af):Bool:= !f.Async&& !(f.Params.any (fun p=>qV p.bF)||qV f.Result)
theorem axX (t:ae) (h:t.sz<=1048576):M.oL t 22 23=some (qV t):=by
 rw[show M.oL=M.l7 aA from rfl,axY 22 23 aA _ (qU h) h]
 congr 1
 exact congrFun (J3 fun k=>by
  rw[Bool.eq_iff_iff];simp only[Bool.and_eq_true,decide_eq_true_eq,Bool.or_eq_true,beq_iff_eq];omega) t
theorem aBV (t:ae) (h:t.sz<=1048576):M.lX t [22,23]=some (qV t):=by
 rw[show M.lX=M.lT aA from rfl,axZ [22,23] (by simp) aA _ (qU h) h]
 congr 1
 exact congrFun (J3 fun k=>by simp) t
theorem aBW (f:af) (h:f.sz<=1048576):M.Kt f=some (zq f):=by
 rw[af.dJ] at h;have hl:f.Params.length<=1048576:=Nat.le_trans (dh az.sz f.Params) (by omega)
 have e:M.kK aA 0 f=some (if f.Params.all (fun p=> !qV p.bF) then .inr () else .inl false):=
  yF (p:=fun p=> !qV p.bF) (F:=fun g k=>M.kK g k f) (e:=()) (b:=false) f.Params (by omega) (fun g k hk=>by
   show M.kK (g+1) (k:Int) f=_
   rw[M.kK];have hm:=dY az.sz _ _ (List.getElem_mem hk);have ht:=axX f.Params[k].bF (az.Oo (N:=1048576) (by omega))
   simp only[ae.aB,af.aB,getD_lt hk,ht,Int.toNat_natCast,bf,Int.ofNat_lt,hk,decide_true,cond_true,Bool.true_and,Bool.and_true,df hk (dI hl),Option.getD_some,Option.isSome_some]
   cases qV f.Params[k].bF<;>rfl) (fun g=>by
   show M.kK (g+1) (f.Params.length:Int) f=_
   rw[M.kK];simp)
 have hr:=axX f.Result (by omega)
 unfold M.Kt zq;simp only[ae.aB,af.aB,hr,e,Option.getD_some,Option.isSome_some,Bool.true_or,Bool.and_true,cond_true];have ha:f.Params.all (fun p=> !qV p.bF)= !(f.Params.any fun p=>qV p.bF):=by rw[List.not_any_eq_all_not]
 rw[ha]
 cases f.Async<;>cases qV f.Result<;>cases (f.Params.any fun p=>qV p.bF)<;>rfl
theorem awJ (f:af) (h:f.sz<=1048576):M.Dq f=some (f.Params.map az.bF):=by
 rw[af.dJ] at h;have hl:f.Params.length<=1048576:=Nat.le_trans (dh az.sz f.Params) (by omega)
 have key:∀g k,k<=f.Params.length->f.Params.length-k<g->M.nz f.Params (f.Params.length:Int) g (k:Int) ((f.Params.take k).map az.bF)=some (f.Params.map az.bF):=by
  intro g
  induction g with
  |zero=>intro k h1 h2;omega
  |succ g ih=>
   intro k h1 h2;rw[M.nz]
   rcases Nat.lt_or_ge k f.Params.length with hk |hk
   ·have hd:decide ((((f.Params.take k).map az.bF).length+([f.Params[k].bF]:List ae).length)<=1073741824)=true:=by
     simp only[decide_eq_true_eq,List.length_map,List.length_take,List.length_cons,List.length_nil];omega
    have ht:(f.Params.take k).map az.bF++[f.Params[k].bF]=(f.Params.take (k+1)).map az.bF:=by
     rw[List.take_add_one,List.map_append,List.getElem?_eq_getElem hk];rfl
    simp only[ae.aB,getD_lt hk,Int.toNat_natCast,bf,Int.ofNat_lt,hk,decide_true,cond_true,Bool.true_and,Bool.and_true,df hk (dI hl),hd,ht];exact ih (k+1) (by omega) (by omega)
   ·have:k=f.Params.length:=by omega
    subst this;have:decide (((f.Params.length:Nat):Int)<((f.Params.length:Nat):Int))=false:=by simp
    rw[this,List.take_length];rfl
 have e:=key aA 0 (Nat.zero_le _) (by have:=bU;omega)
 unfold M.Dq;have e':M.nz f.Params (f.Params.length:Int) aA 0 []=_:=e;rw[e']
theorem ayP (l:List ae) (hl:l.length<=2097152) (hs:∀x∈l,x.sz<=1048576):M.iq l=some (l.any qV):=by
 have e:=ik (p:=qV) (F:=M.eU l (l.length:Int)) (e:=()) (fun k=>k) l (by omega) (fun g k hk=>by
  rw[M.eU];have hc:M.yO l[k]=some (qV l[k]):=by
   unfold M.yO;rw[ae.aB,aBV _ (hs _ (List.getElem_mem hk))];rfl
  simp only[ae.aB,getD_lt hk,hc,Int.toNat_natCast,bf,Int.ofNat_lt,hk,decide_true,cond_true,Bool.true_and,Bool.and_true,df hk (by omega:l.length<2^62),Option.getD_some,Option.isSome_some]) (fun g=>by rw[M.eU];simp)
 unfold M.iq M.jP;rw[e,iZ]
 cases l.findIdx? qV<;>simp
theorem aBX (f:af) (h:f.sz<=1048576):M.GI f=some (zq f):=by
 have hp:=awJ f h;rw[af.dJ] at h;have hl:f.Params.length<=1048576:=Nat.le_trans (dh az.sz f.Params) (by omega)
 have hc:=ayP (f.Params.map az.bF++[f.Result]) (by simp;omega) (fun x hx=>by
  rcases List.mem_append.1 hx with hx |hx
  ·obtain ⟨p,hp,rfl⟩:=List.mem_map.1 hx
   have hm:=dY az.sz _ _ hp;exact az.Oo (N:=1048576) (by omega)
  ·simp at hx;subst hx;omega)
 have hd:decide (((f.Params.map az.bF).length+([f.Result]:List ae).length)<=1073741824)=true:=by
  simp only[decide_eq_true_eq,List.length_map,List.length_cons,List.length_nil];omega
 have ha:(f.Params.map az.bF++[f.Result]).any qV=(f.Params.any (fun p=>qV p.bF)||qV f.Result):=by
  rw[List.any_append,List.any_map];simp;rfl
 unfold M.GI zq
 cases hA:f.Async
 ·simp only[af.aB,ae.aB,hp,hc,hd,ha,Bool.not_false,cond_true,Option.getD_some,Option.isSome_some]
  simp
 ·simp
def aqa (f:aN):Bool:=OG f&&f.Funcs.all fun x=>zq x.bF
def jF (f:aN):List UInt8:=(f.eF++[47])++f.Name
def qP (l:List aN):Bool:=decide (l.length<=6)&&(l.all aqa&&Oq (l.map jF))
theorem gt6 (n:Nat):decide ((6:Int)<((n:Nat):Int))= !decide (n<=6):=gtN n 6
theorem arM {l:List aN} (k:Nat) (hk:k<l.length):(l.map jF).getD k []=jF l[k]:=by
 rw[getD_lt (by simpa using hk),List.getElem_map]
theorem axT (l:List aN) (h:fA aN.sz l<=1048576):M.ET l=some (qP l):=by
 have hl:l.length<=1048576:=Nat.le_trans (dh aN.sz l) h;have hsz:∀k (hk:k<l.length),l[k].sz<=1048576:=fun k hk=>by have:=dY aN.sz _ _ (List.getElem_mem hk);omega
 have inner:∀i (hi:i<l.length),M.lM l (i:Int) aA 0=some (if l[i].Funcs.all (fun x=>zq x.bF) then .inr (l,(i:Int)) else .inl false):=fun i hi=>by
  have hs:=hsz i hi;rw[aN.dJ] at hs;have hfl:l[i].Funcs.length<=1048576:=Nat.le_trans (dh aT.sz l[i].Funcs) (by omega)
  exact yF (p:=fun x=>zq x.bF) (F:=M.lM l (i:Int)) (e:=(l,(i:Int))) (b:=false) l[i].Funcs (by omega) (fun g k hk=>by
   rw[M.lM];have hm:=dY aT.sz _ _ (List.getElem_mem hk);have hsz:=aT.dJ l[i].Funcs[k];have hp:=aBW l[i].Funcs[k].bF (by omega)
   simp only[af.aB,getD_lt hi,getD_lt hk,hp,Int.toNat_natCast,bf,Int.ofNat_lt,hk,hi,decide_true,cond_true,Bool.true_and,Bool.and_true,df hk (dI hfl),Option.getD_some,Option.isSome_some]
   cases zq l[i].Funcs[k].bF<;>rfl) (fun g=>by
   rw[M.lM];simp only[getD_lt hi,Int.toNat_natCast,bf,hi,decide_true];simp)
 have outer:M.kL aA l 0=some (if (List.range l.length).all (fun i=>aqa (l.getD i aN.zero)&&((i==0)||Go.V.ltS ((l.map jF).getD (i-1) []) ((l.map jF).getD i []))) then .inr () else .inl false):=
  uQ (p:=fun i=>aqa (l.getD i aN.zero)&&((i==0)||Go.V.ltS ((l.map jF).getD (i-1) []) ((l.map jF).getD i []))) (F:=fun g k=>M.kL g l k) (e:=()) (b:=false) l.length (by omega) (fun g k hk=>by
   show M.kL (g+1) l (k:Int)=_
   rw[M.kL];have hf:=aC9 l[k] (hsz k hk);have hn:M.jV l[k]=some (jF l[k]):=aei l[k] (hsz k hk);have hin:=inner k hk;unfold aqa
   rcases Nat.eq_zero_or_pos k with h0 |h0
   ·subst h0
    have hd0:decide ((0:Int)<((0:Nat):Int))=false:=rfl;simp only[getD_lt hk,hf,hn,hin,hd0,Int.toNat_natCast,bf,Int.ofNat_lt,hk,decide_true,cond_true,Bool.true_and,Bool.and_true,df hk (dI hl),Option.getD_some,Option.isSome_some,Bool.true_or,Bool.false_and,Bool.or_false,beq_self_eq_true]
    cases OG l[0]
    ·simp
    ·cases l[0].Funcs.all fun x=>zq x.bF
     ·simp
     ·have hw1:Go.IntKind.wrap .i64 1=1:=wrap_i64 (by omega) (by omega)
      simp[hw1]
   ·have hk1:k-1<l.length:=by omega
    have hp:decide ((0:Int)<(k:Int))=true:=by rw[decide_eq_true_eq];omega
    have hz:(k==0)=false:=by rw[beq_eq_false_iff_ne];omega
    have hn1:M.jV l[k-1]=some (jF l[k-1]):=aei l[k-1] (hsz _ hk1);simp only[arM k hk,arM (k-1) hk1,getD_lt hk,getD_lt hk1,hf,hn,hn1,hin,hp,hz,akC h0 (Nat.le_of_lt hk) (dI hl),Int.toNat_natCast,bf,Int.ofNat_lt,hk,hk1,decide_true,cond_true,Bool.true_and,Bool.and_true,df hk (dI hl),Option.getD_some,Option.isSome_some,Bool.true_or,Bool.false_or]
    cases OG l[k]
    ·simp
    ·cases Go.V.ltS (jF l[k-1]) (jF l[k])
     ·simp
     ·cases l[k].Funcs.all fun x=>zq x.bF
      ·simp
      ·simp[df hk (dI hl)]) (fun g=>by
   show M.kL (g+1) l (l.length:Int)=_
   rw[M.kL];simp)
 rw[agt,Rh aqa l aN.zero] at outer;have hr:(List.range l.length).all (fun i=>(i==0)||Go.V.ltS ((l.map jF).getD (i-1) []) ((l.map jF).getD i []))=Oq (l.map jF):=by
  unfold Oq;rw[List.length_map]
 rw[hr] at outer;unfold M.ET qP;rw[gt6,outer]
 cases decide (l.length<=6)
 ·rfl
 ·cases l.all aqa<;>cases Oq (l.map jF)<;>rfl
theorem axU (l:List aN) (h:fA aN.sz l<=1048576):M.JU l=some (qP l):=by
 have hl:l.length<=1048576:=Nat.le_trans (dh aN.sz l) h;have hsz:∀k (hk:k<l.length),l[k].sz<=1048576:=fun k hk=>by have:=dY aN.sz _ _ (List.getElem_mem hk);omega
 have hcf:∀f:aN,f.sz<=1048576->M.iM f.Funcs=some (f.Funcs.any fun x=> !zq x.bF):=fun f hf=>by
  rw[aN.dJ] at hf;have hfl:f.Funcs.length<=1048576:=Nat.le_trans (dh aT.sz f.Funcs) (by omega)
  have e:=ik (p:=fun x:aT=> !zq x.bF) (F:=M.fQ f.Funcs (f.Funcs.length:Int)) (e:=()) (fun k=>k) f.Funcs (by omega) (fun g k hk=>by
   rw[M.fQ];have hm:=dY aT.sz _ _ (List.getElem_mem hk);have hsz:=aT.dJ f.Funcs[k];have hc:M.Dt f.Funcs[k]=some (!zq f.Funcs[k].bF):=by
    unfold M.Dt;rw[af.aB,aBX _ (by omega)];rfl
   simp only[aT.aB,getD_lt hk,hc,Int.toNat_natCast,bf,Int.ofNat_lt,hk,decide_true,cond_true,Bool.true_and,Bool.and_true,df hk (dI hfl),Option.getD_some,Option.isSome_some]) (fun g=>by rw[M.fQ];simp)
  unfold M.iM M.lh;rw[e,iZ]
  cases f.Funcs.findIdx? (fun x=> !zq x.bF)<;>simp
 have key:∀g k,k<=l.length->l.length-k<g->M.wR l l (l.length:Int) g (k:Int) ((l.take k).map jF)=some (if (l.drop k).all aqa then .inr (l,l.map jF) else .inl false):=by
  intro g
  induction g with
  |zero=>intro k h1 h2;omega
  |succ g ih=>
   intro k h1 h2;rw[M.wR]
   rcases Nat.lt_or_ge k l.length with hk |hk
   ·have hf:=aDb l[k] (hsz k hk)
    have hn:M.oC l[k]=some (jF l[k]):=asz l[k] (hsz k hk);have hc:=hcf l[k] (hsz k hk);have hd:decide ((((l.take k).map jF).length+([jF l[k]]:List (List UInt8)).length)<=1073741824)=true:=by
     simp only[decide_eq_true_eq,List.length_map,List.length_take,List.length_cons,List.length_nil];omega
    have ht:(l.take k).map jF++[jF l[k]]=(l.take (k+1)).map jF:=by
     rw[List.take_add_one,List.map_append,List.getElem?_eq_getElem hk];rfl
    have hna:(l[k].Funcs.any fun x=> !zq x.bF)= !(l[k].Funcs.all fun x=>zq x.bF):=by rw[List.not_all_eq_any_not]
    simp only[getD_lt hk,hf,hn,hc,hna,Int.toNat_natCast,bf,Int.ofNat_lt,hk,decide_true,cond_true,Bool.true_and,Bool.and_true,df hk (dI hl),Option.getD_some,Option.isSome_some,Bool.true_or,hd,ht];rw[ih (k+1) (by omega) (by omega),aoH _ hk]
    unfold aqa
    cases OG l[k]<;>cases (l[k].Funcs.all fun x=>zq x.bF)<;>simp
   ·have:k=l.length:=by omega
    subst this;have:decide (((l.length:Nat):Int)<((l.length:Nat):Int))=false:=by simp
    rw[this,List.drop_length,List.take_length];rfl
 have e:=key aA 0 (Nat.zero_le _) (by have:=bU;omega)
 have e':M.wR l l (l.length:Int) aA 0 []=_:=e;rw[List.drop_zero] at e';have azU:=SI (l.map jF) (by rw[List.length_map];exact hl)
 have e6:decide (((l.length:Nat):Int)<=6)=decide (l.length<=6):=by simp only[decide_eq_decide];omega
 unfold M.JU qP;rw[e']
 cases l.all aqa
 ·simp
 ·simp only[if_true,azU,e6,Option.getD_some,Option.isSome_some,Bool.true_or,Bool.true_and,Bool.and_true,cond_true]
end M
