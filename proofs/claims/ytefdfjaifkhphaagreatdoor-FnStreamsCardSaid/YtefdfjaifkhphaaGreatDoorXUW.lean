/-
  THE DRAWERS: numbers from a source of bytes.
-/
import Derived.Test.YtefdfjaifkhphaaGreatDoorXUV
set_option linter.unusedVariables false
set_option linter.unusedSimpArgs false
namespace M
open Go.V (inB qg acU aP bG)
structure CX (s:ak) (m:Int):Prop where
 c:s.code.length<=1048576
 lo:0<=s.at_
 hi:s.at_<=m
theorem CX.up {s:ak} {m k:Int} (h:CX s m) (hk:m<=k):CX s k:=⟨h.c,h.lo,by have:=h.hi;omega⟩
theorem ad7 (x:Int):0<=Go.IntKind.wrap .i64 (Go.V.qF .and .u64 x 255):=by
 have h:(BitVec.ofInt 64 x&&& BitVec.ofInt 64 255).toNat<=255:=by
  rw[BitVec.toNat_and];exact Nat.and_le_right
 have e:Go.V.qF .and .u64 x 255=(((BitVec.ofInt 64 x&&& BitVec.ofInt 64 255).toNat:Nat):Int):=by
  unfold Go.V.qF
  show Go.IntKind.wrap .u64 (((BitVec.ofInt 64 x&&& BitVec.ofInt 64 255).toNat:Nat):Int)=_
  exact Go.IntWalk.u64_in _ ⟨by omega,by omega⟩
 rw[e,wrap_i64 (by omega) (by omega)]
 omega
theorem afr {s:ak} {m:Int} (h:CX s m) (hm:m<=1000000000000):∃v s',M.kH s=some (v,s') /\ CX s' (m+1) /\ 0<=v:=by
 obtain ⟨hc,hlo,hhi⟩:=h;have hw:Go.IntKind.wrap .i64 (s.at_+1)=s.at_+1:=wrap_i64 (by omega) (by omega)
 have hin:((inB s.at_ s.code.length&&true)|| !decide (s.at_<((s.code.length:Nat):Int)))=true:=by
  obtain ⟨n,hn⟩:=Int.eq_ofNat_of_zero_le hlo;rw[hn,dM,Bool.and_true]
  by_cases hh:n<s.code.length
  ·rw[decide_eq_true hh];rfl
  ·rw[decide_eq_false hh,decide_eq_false (by omega)];rfl
 unfold M.kH;simp only[hw,hin,Bool.true_and,cond_true];have hv:(0:Int)<=(bif decide (s.at_<((s.code.length:Nat):Int)) then Go.IntKind.wrap .i64 (((s.code.getD s.at_.toNat 0).toNat:Nat):Int) else 0):=by
  cases decide (s.at_<((s.code.length:Nat):Int)) with
  |false=>exact Int.le_refl _
  |true=>
   have:=(s.code.getD s.at_.toNat 0).toNat_lt;simp only[cond_true];rw[wrap_i64 (by omega) (by omega)];omega
 cases decide (s.at_+1<=((s.code.length:Nat):Int)) with
 |true=>exact ⟨_,_,rfl,⟨hc,by simp only[];omega,by simp only[];omega⟩,hv⟩
 |false=>exact ⟨_,_,rfl,⟨hc,by simp only[];omega,by simp only[];omega⟩,ad7 _⟩
theorem nJ {s:ak} {m:Int} (h:CX s m) (hm:m<=1000000000000) (n:Int) (h1:2<=n) (h2:n<=200):∃v s',M.aJ n s=some (v,s') /\ CX s' (m+1) /\ 0<=v /\ v<n:=by
 obtain ⟨v,s',e,g1,g2⟩:=afr h hm;unfold M.aJ;rw[decide_eq_false (show ¬n<=1 by omega),decide_eq_false (show ¬(200:Int)<n by omega)]
 have hn:(n !=0)=true:=by simp;omega
 simp only[e,hn,cond_false,Option.getD_some,Option.isSome_some,Bool.and_true,Bool.true_and,cond_true];exact ⟨_,_,rfl,g1,Int.tmod_nonneg _ g2,Int.tmod_lt_of_pos _ (by omega)⟩
theorem Yv {s:ak} {m:Int} (h:CX s m) (hm:m<=1000000000000) (n:Int) (h1:2<=n) (h2:n<=200):∃v s',M.dY n s=some (v,s') /\ CX s' (m+1):=by
 obtain ⟨v,s',e,g1, -⟩:=nJ h hm n h1 h2;unfold M.dY;simp only[e,Option.getD_some,Option.isSome_some,Bool.and_true,cond_true];exact ⟨_,_,rfl,g1⟩
theorem Yw {s:ak} {m:Int} (h:CX s m) (hm:m<=1000000000000) (l:List (List UInt8)) (N:Nat) (h1:2<=l.length) (h2:l.length<=200) (hN:∀x∈l,x.length<=N):∃v s',M.fE l s=some (v,s') /\ CX s' (m+1) /\ v.length<=N:=by
 obtain ⟨v,s',e,g1,g2,g3⟩:=nJ h hm (l.length:Int) (by omega) (by omega)
 unfold M.fE;obtain ⟨k,rfl⟩:=Int.eq_ofNat_of_zero_le g2;have hk:k<l.length:=by omega
 have hin:inB (k:Int) l.length=true:=by rw[dM];simpa using hk
 simp only[e,hin,Option.getD_some,Option.isSome_some,Bool.and_true,Bool.true_and,cond_true,Int.toNat_natCast,getD_lt hk];exact ⟨_,_,rfl,g1,hN _ (List.getElem_mem hk)⟩
theorem ad8 {s:ak} {m:Int} (h:CX s m) (hm:m<=1000000000000) (l:List Int) (h1:2<=l.length) (h2:l.length<=200):∃v s',M.bU l s=some (v,s') /\ CX s' (m+1):=by
 obtain ⟨v,s',e,g1,g2,g3⟩:=nJ h hm (l.length:Int) (by omega) (by omega)
 unfold M.bU;obtain ⟨k,rfl⟩:=Int.eq_ofNat_of_zero_le g2;have hk:k<l.length:=by omega
 have hin:inB (k:Int) l.length=true:=by rw[dM];simpa using hk
 simp only[e,hin,Option.getD_some,Option.isSome_some,Bool.and_true,Bool.true_and,cond_true];exact ⟨_,_,rfl,g1⟩
theorem acV {s:ak} {m:Int} (h:CX s m) (hm:m<=1000000000000) (many:Int) (h0:0<=many) (h1:many<=10):∃s' l,M.kJ many s=some (s',l) /\ CX s' (m+1) /\ (l.length:Int)=many /\ lI List.length l<=9*l.length:=by
 obtain ⟨v,s',e,g1,g2,g3⟩:=nJ h hm 6 (by omega) (by omega)
 have key:∀(all:List (List UInt8)),all.length=6->(∀x∈all,x.length<=8)->∀(f:Nat) (k:Nat) (out:List (List UInt8)),(k:Int)<=many->11<=f+k->out.length=k->lI List.length out<=9*k->∃l,M.lg many v all f (k:Int) out=some l /\ (l.length:Int)=many /\ lI List.length l<=9*l.length:=by
  intro all ha hb f
  induction f with
  |zero=>intro k out a1 a2;omega
  |succ f ih=>
   intro k out a1 a2 a3 a4;rw[M.lg]
   by_cases hk:(k:Int)<many
   ·have w:Go.IntKind.wrap .i64 (v+(k:Int))=v+(k:Int):=wrap_i64 (by omega) (by omega)
    have w2:Go.IntKind.wrap .i64 ((k:Int)+1)=((k+1:Nat):Int):=by rw[wrap_i64 (by omega) (by omega)];omega
    have t0:(0:Int)<=Int.tmod (v+(k:Int)) 6:=Int.tmod_nonneg _ (by omega)
    have t1:Int.tmod (v+(k:Int)) 6<6:=Int.tmod_lt_of_pos _ (by omega)
    obtain ⟨j,hj⟩:=Int.eq_ofNat_of_zero_le t0;have hj6:j<all.length:=by omega
    have hin:inB (j:Int) all.length=true:=by rw[dM];simpa using hj6
    have hc:=yX (a:=out.length) (b:=1) (by omega)
    have h6:((6:Int) !=0)=true:=by decide
    simp only[decide_eq_true hk,cond_true,w,hj,w2,hin,hc,h6,List.length_cons,List.length_nil,Nat.zero_add,Bool.and_true,Bool.true_and,Int.toNat_natCast,getD_lt hj6];have h8:=hb _ (List.getElem_mem hj6);exact ih (k+1) _ (by omega) (by omega) (by simp;omega) (by rw[Yu,BO];omega)
   ·simp only[decide_eq_false hk,cond_false]
    exact ⟨out,rfl,by omega,by omega⟩
 unfold M.kJ;obtain ⟨l,e2,k1,k2⟩:=key [[(97:UInt8)],[(98:UInt8)],[(105:UInt8),(100:UInt8)],[(109:UInt8),(97:UInt8),(120:UInt8),(45:UInt8),(115:UInt8),(105:UInt8),(122:UInt8),(101:UInt8)],[(120:UInt8),(49:UInt8)],[(110:UInt8),(97:UInt8),(109:UInt8),(101:UInt8)]] rfl (by decide) aP 0 [] (by omega) (by have:=bG;omega) rfl (by simp[lI])
 simp only[e,Option.getD_some,Option.isSome_some,Bool.and_true,cond_true];have e2':M.lg many v [[(97:UInt8)],[(98:UInt8)],[(105:UInt8),(100:UInt8)],[(109:UInt8),(97:UInt8),(120:UInt8),(45:UInt8),(115:UInt8),(105:UInt8),(122:UInt8),(101:UInt8)],[(120:UInt8),(49:UInt8)],[(110:UInt8),(97:UInt8),(109:UInt8),(101:UInt8)]] aP 0 []=_:=e2;rw[e2'];exact ⟨s',l,rfl,g1,k1,k2⟩
end M
namespace M
open Go.V (inB qg acU aP bG)
def Zd (d:Nat):Nat:=40*4^d
theorem afs (d:Nat):Zd (d+1)=4*Zd d:=by unfold Zd;rw[Nat.pow_succ];omega
theorem afY (d:Nat):40<=Zd d:=by unfold Zd;have:0<4^d:=Nat.pow_pos (by decide);omega
abbrev acW := Int->Bool->Bool->M.ak->Option (Int×(List UInt8)×M.ak×(List (List UInt8))×(List M.ae))
def Tm (t:ae) (s:ak):Int×(List UInt8)×M.ak×(List (List UInt8))×(List M.ae):=(t.Kind,t.Name,s,t.aQ,t.Kids)
def DrI (rec:acW) (d:Nat):Prop:=∀(own borrow:Bool) (s:ak) (m:Int),CX s m->m+(Zd d:Int)<=1000000000->∃t s',rec (d:Int) own borrow s=some (Tm t s') /\ CX s' (m+(Zd d:Int)) /\ t.sz<=Zd d
theorem TF {rec:acW} {d:Nat} (h:DrI rec d) (own borrow:Bool) (s:ak) (m:Int) (hs:CX s m) (hm:m+1+(Zd d:Int)<=1000000000):∃t s',M.nY rec (d:Int) own borrow s=some (Tm t s') /\ CX s' (m+1+(Zd d:Int)) /\ t.sz<=Zd d:=by
 obtain ⟨v,s1,e,g1⟩:=Yv hs (by omega) 3 (by omega) (by omega)
 unfold M.nY;simp only[e,Option.getD_some,Option.isSome_some,Bool.and_true,cond_true]
 cases v with
 |true=>exact ⟨ae.mk 1 [] [] [],s1,rfl,g1.up (by omega),Nat.zero_le _⟩
 |false=>
  obtain ⟨t,s2,e2,g2,g3⟩:=h own borrow s1 (m+1) g1 (by omega)
  simp only[e2,Option.getD_some,Option.isSome_some,cond_false,cond_true];exact ⟨t,s2,rfl,g2,g3⟩
theorem Yx {d:Nat} (h:1<=d) (h2:d<=100):Go.IntKind.wrap .i64 ((d:Int)-1)=((d-1:Nat):Int):=by rw[wrap_i64 (by omega) (by omega)];omega
theorem ZK {rec:acW} {d:Nat} (hd:1<=d) (hd2:d<=10) (h:DrI rec (d-1)) (own borrow:Bool) (t8:Int) (t82:List UInt8) (t:Int) (t2:List UInt8) (o7:List (List UInt8)) (o8:List ae) (o9:List (List UInt8)):
 ∀(f i:Nat) (s:ak) (m:Int) (o:List ae),i<f->i<=10->CX s m->m+((i*Zd (d-1):Nat):Int)<=1000000000->o.length+i<=100->
  ∃s' ks,M.oW rec (d:Int) own borrow t8 t82 t t2 o7 o8 o9 f (i:Int) s o=some (s'.code,s'.at_,s'.seed,t8,t82,t,t2,o7,o8,o9,o++ks) /\ CX s' (m+((i*Zd (d-1):Nat):Int)) /\ lI ae.sz ks<=i*(Zd (d-1)+1)
 |0,i,s,m,o,h1,_,_,_,_=>by omega
 |f+1,0,s,m,o,h1,h2,hs,hm,ho=>by
  rw[M.oW];exact ⟨s,[],by simp,hs.up (by simp),by simp[lI]⟩
 |f+1,i+1,s,m,o,h1,h2,hs,hm,ho=>by
  have e1:=Nat.succ_mul i (Zd (d-1));have e2:=Nat.succ_mul i (Zd (d-1)+1);simp only[Nat.succ_eq_add_one] at e1 e2;rw[e1] at hm ⊢;rw[e2];obtain ⟨x,s1,e,g1,g2⟩:=h own borrow s m hs (by omega)
  have hc:=yX (a:=o.length) (b:=1) (by omega)
  have w:Go.IntKind.wrap .i64 (((i+1:Nat):Int)-1)=(i:Int):=by rw[wrap_i64 (by omega) (by omega)];omega
  obtain ⟨s2,ks,e3,k1,k2⟩:=ZK hd hd2 h own borrow t8 t82 t t2 o7 o8 o9 f i s1 (m+(Zd (d-1):Int)) (o++[x]) (by omega) (by omega) g1 (by omega) (by simp;omega)
  rw[M.oW];rw[decide_eq_true (show (0:Int)<((i+1:Nat):Int) by omega)]
  simp only[cond_true,Yx hd (by omega),e,Tm,ae.eta,Option.getD_some,Option.isSome_some,List.length_cons,List.length_nil,Nat.zero_add,hc,Bool.and_true,Bool.true_and,w,e3]
  exact ⟨s2,x::ks,by simp,k1.up (by omega),by simp only[lI];omega⟩
theorem ZL {rec:acW} {d:Nat} (hd:1<=d) (hd2:d<=10) (h:DrI rec (d-1)) (own borrow:Bool) (t8:Int) (t82:List UInt8) (t:Int) (t2:List UInt8) (o7:List (List UInt8)) (o8:List ae) (o9:List (List UInt8)) (h9:o9.length<=10):
 ∀(j f i:Nat) (s:ak) (m:Int) (o:List ae),j<f->i+j=o9.length->CX s m->m+((j*Zd (d-1):Nat):Int)<=1000000000->o.length+j<=100->
  ∃s' ks,M.oZ rec (d:Int) own borrow t8 t82 t t2 o7 o8 o9 f (i:Int) s o=some (s'.code,s'.at_,s'.seed,t8,t82,t,t2,o7,o8,o9,o++ks) /\ CX s' (m+((j*Zd (d-1):Nat):Int)) /\ lI ae.sz ks<=j*(Zd (d-1)+1)
 |j,0,i,s,m,o,h1,_,_,_,_=>by omega
 |0,f+1,i,s,m,o,h1,h2,hs,hm,ho=>by
  rw[M.oZ,decide_eq_false (by omega)]
  exact ⟨s,[],by simp,hs.up (by simp),by simp[lI]⟩
 |j+1,f+1,i,s,m,o,h1,h2,hs,hm,ho=>by
  have e1:=Nat.succ_mul j (Zd (d-1));have e2:=Nat.succ_mul j (Zd (d-1)+1);simp only[Nat.succ_eq_add_one] at e1 e2;rw[e1] at hm ⊢;rw[e2];obtain ⟨x,s1,e,g1,g2⟩:=h own borrow s m hs (by omega)
  have hc:=yX (a:=o.length) (b:=1) (by omega)
  have w:Go.IntKind.wrap .i64 ((i:Int)+1)=((i+1:Nat):Int):=by rw[wrap_i64 (by omega) (by omega)];omega
  obtain ⟨s2,ks,e3,k1,k2⟩:=ZL hd hd2 h own borrow t8 t82 t t2 o7 o8 o9 h9 j f (i+1) s1 (m+(Zd (d-1):Int)) (o++[x]) (by omega) (by omega) g1 (by omega) (by simp;omega)
  rw[M.oZ,decide_eq_true (by omega)]
  simp only[cond_true,Yx hd (by omega),e,Tm,ae.eta,Option.getD_some,Option.isSome_some,List.length_cons,List.length_nil,Nat.zero_add,hc,Bool.and_true,Bool.true_and,w,e3]
  exact ⟨s2,x::ks,by simp,k1.up (by omega),by simp only[lI];omega⟩
theorem ZM {rec:acW} {d:Nat} (hd:1<=d) (hd2:d<=10) (h:DrI rec (d-1)) (own borrow:Bool) (t8:Int) (t82:List UInt8) (t:Int) (t2:List UInt8) (o7:List (List UInt8)) (o8:List ae) (o9:List (List UInt8)) (h9:o9.length<=10):
 ∀(j f i:Nat) (s:ak) (m:Int) (o:List ae),j<f->i+j=o9.length->CX s m->m+((j*(Zd (d-1)+1):Nat):Int)<=1000000000->o.length+j<=100->
  ∃s' ks,M.pg rec (d:Int) own borrow t8 t82 t t2 o7 o8 o9 f (i:Int) s o=some (s'.code,s'.at_,s'.seed,t8,t82,t,t2,o7,o8,o9,o++ks) /\ CX s' (m+((j*(Zd (d-1)+1):Nat):Int)) /\ lI ae.sz ks<=j*(Zd (d-1)+1)
 |j,0,i,s,m,o,h1,_,_,_,_=>by omega
 |0,f+1,i,s,m,o,h1,h2,hs,hm,ho=>by
  rw[M.pg,decide_eq_false (by omega)]
  exact ⟨s,[],by simp,hs.up (by simp),by simp[lI]⟩
 |j+1,f+1,i,s,m,o,h1,h2,hs,hm,ho=>by
  have e2:=Nat.succ_mul j (Zd (d-1)+1);simp only[Nat.succ_eq_add_one] at e2;rw[e2] at hm ⊢;obtain ⟨x,s1,e,g1,g2⟩:=TF h own borrow s m hs (by omega)
  have hc:=yX (a:=o.length) (b:=1) (by omega)
  have w:Go.IntKind.wrap .i64 ((i:Int)+1)=((i+1:Nat):Int):=by rw[wrap_i64 (by omega) (by omega)];omega
  obtain ⟨s2,ks,e3,k1,k2⟩:=ZM hd hd2 h own borrow t8 t82 t t2 o7 o8 o9 h9 j f (i+1) s1 (m+1+(Zd (d-1):Int)) (o++[x]) (by omega) (by omega) g1 (by omega) (by simp;omega)
  rw[M.pg,decide_eq_true (by omega)]
  simp only[cond_true,Yx hd (by omega),e,Tm,ae.eta,Option.getD_some,Option.isSome_some,List.length_cons,List.length_nil,Nat.zero_add,hc,Bool.and_true,Bool.true_and,w,e3]
  exact ⟨s2,x::ks,by simp,k1.up (by omega),by simp only[lI];omega⟩
end M
namespace M
open Go.V (inB qg acU aP bG)
theorem U1 {α:Type} (a b:α):(bif true then a else b)=a:=id rfl
theorem Yy {α:Type} (a b:α):(bif false then a else b)=b:=id rfl
theorem ab6 (k:Int):(ae.mk k [] [] []).sz=0:=rfl
theorem ad9 (k:Int) (n:List UInt8):(ae.mk k n [] []).sz=n.length:=rfl
theorem KC (k:Int) (ls:List (List UInt8)) (ks:List ae):(ae.mk k [] ls ks).sz=lI List.length ls+lI ae.sz ks:=by
 rw[ae.jO];show 0+lI List.length ls+lI ae.sz ks=_;omega
theorem acX (rec:acW) (d:Nat) (h5:d<=5) (ahy:1<=d->DrI rec (d-1)):DrI (M.yN rec) d:=fun own borrow s m hs hm=>by
 have hz:=afY d;have hbig:=bG;have pk:= @nJ;have on:= @Yv;have tx:= @Yw;have am:= @ad8;have un:= @acV;unfold M.yN
 generalize M.aJ=P at pk ⊢
 generalize M.dY=O at on ⊢
 generalize M.fE=T at tx ⊢
 generalize M.bU=G at am ⊢
 generalize M.kJ=U at un ⊢
 obtain ⟨k,s1,e,g1,k0,k1⟩:=pk hs (by omega) 20 (by omega) (by omega)
 simp only[e,Option.getD_some,Option.isSome_some,Bool.and_true,Bool.true_or,Bool.true_and,Bool.and_self]
 cases hc:(decide ((d:Int)<=1)||decide (k<7)) with
 |true=>
  simp only[U1]
  cases own with
  |true=>
   obtain ⟨v,s2,e2,g2⟩:=on g1 (by omega) 5 (by omega) (by omega)
   simp only[U1,e2,Option.getD_some,Option.isSome_some,beq_self_eq_true,Bool.and_self,Bool.true_and]
   cases v with
   |true=>
    obtain ⟨nm,s3,e3,g3,g4⟩:=tx g2 (by omega) [[(114:UInt8),(101:UInt8),(115:UInt8)],[(102:UInt8),(105:UInt8),(108:UInt8),(101:UInt8)]] 4 (by decide) (by decide) (by decide)
    cases borrow with
    |true=>
     obtain ⟨v2,s4,e4,g5⟩:=on g3 (by omega) 2 (by omega) (by omega)
     simp only[U1,e3,e4,Option.getD_some,Option.isSome_some,beq_self_eq_true,Bool.and_self,Bool.true_and]
     cases v2 with
     |true=>exact ⟨ae.mk 21 nm [] [],s4,rfl,g5.up (by omega),by rw[ad9];omega⟩
     |false=>exact ⟨ae.mk 20 nm [] [],s4,rfl,g5.up (by omega),by rw[ad9];omega⟩
    |false=>
     simp only[U1,Yy,e3,Option.getD_some,Option.isSome_some,beq_self_eq_true,Bool.and_self,Bool.true_and];exact ⟨ae.mk 20 nm [] [],s3,rfl,g3.up (by omega),by rw[ad9];omega⟩
   |false=>
    obtain ⟨v2,s3,e3,g3⟩:=am g2 (by omega) [(2:Int),(3:Int),(4:Int),(5:Int),(6:Int),(7:Int),(8:Int),(9:Int),(10:Int),(11:Int),(11:Int)] (by decide) (by decide)
    simp only[Yy,e3,Option.getD_some,Option.isSome_some,Bool.and_self,U1];exact ⟨ae.mk v2 [] [] [],s3,rfl,g3.up (by omega),by rw[ab6];omega⟩
  |false=>
   obtain ⟨v2,s3,e3,g3⟩:=am g1 (by omega) [(2:Int),(3:Int),(4:Int),(5:Int),(6:Int),(7:Int),(8:Int),(9:Int),(10:Int),(11:Int),(11:Int)] (by decide) (by decide)
   simp only[Yy,e3,Option.getD_some,Option.isSome_some,beq_self_eq_true,Bool.and_self,Bool.true_and,U1];exact ⟨ae.mk v2 [] [] [],s3,rfl,g3.up (by omega),by rw[ab6];omega⟩
 |false=>
  simp only[Bool.or_eq_false_iff,decide_eq_false_iff_not] at hc;have hd:1<=d:=by omega
  obtain ⟨z,hz1⟩:∃z,Zd (d-1)=z:=⟨_,rfl⟩;have hz2:Zd d=4*z:=by
   have:=afs (d-1);rw[show d-1+1=d by omega] at this;omega
  have hz3:40<=z:=by rw[<-hz1];exact afY _
  have hz4:z<=100000:=by
   have:=Nat.pow_le_pow_right (show 0<4 by omega) (show d-1<=4 by omega)
   rw[<-hz1];unfold Zd;have h256:4^4=256:=rfl;omega
  have hrec:=ahy hd;have ab7:=hrec;unfold DrI at ab7;rw[hz1] at ab7;have w:=Yx hd (by omega)
  simp only[Yy,w]
  cases hA:(bif (k==(7:Int)) then (k==(7:Int)) else (k==(8:Int))) with
  |true=>
   obtain ⟨x,s2,e2,g2,g3⟩:=ab7 own borrow s1 (m+1) g1 (by omega)
   simp only[U1,e2,Tm,ae.eta,Option.getD_some,Option.isSome_some,Bool.and_self];exact ⟨ae.mk 12 [] [] [x],s2,rfl,g2.up (by omega),by rw[KC,BO];simp only[lI];omega⟩
  |false=>
   simp only[Yy]
   cases hB:(bif (k==(9:Int)) then (k==(9:Int)) else (k==(10:Int))) with
   |true=>
    obtain ⟨x,s2,e2,g2,g3⟩:=ab7 own borrow s1 (m+1) g1 (by omega)
    simp only[U1,e2,Tm,ae.eta,Option.getD_some,Option.isSome_some,Bool.and_self];exact ⟨ae.mk 13 [] [] [x],s2,rfl,g2.up (by omega),by rw[KC,BO];simp only[lI];omega⟩
   |false=>
    simp only[Yy]
    cases hC:(bif (k==(11:Int)) then (k==(11:Int)) else (k==(12:Int))) with
    |true=>
     obtain ⟨x,s2,e2,g2,g3⟩:=TF hrec own borrow s1 (m+1) g1 (by omega)
     rw[hz1] at g2 g3;obtain ⟨y,s3,e3,g4,g5⟩:=TF hrec own borrow s2 _ g2 (by omega)
     rw[hz1] at g4 g5;simp only[U1,e2,Tm,e3,ae.eta,Option.getD_some,Option.isSome_some,Bool.and_self];exact ⟨ae.mk 14 [] [] [x,y],s3,rfl,g4.up (by omega),by rw[KC];simp only[lI];omega⟩
    |false=>
     simp only[Yy]
     cases hD:(k==(13:Int)) with
     |true=>
      obtain ⟨v,s2,e2,g2,v0,v1⟩:=pk g1 (by omega) 3 (by omega) (by omega)
      obtain ⟨i,rfl⟩:=Int.eq_ofNat_of_zero_le v0;have w3:Go.IntKind.wrap .i64 (1+(i:Int))=((i+1:Nat):Int):=by rw[wrap_i64 (by omega) (by omega)];omega
      have hi:(i+1)*z<=3*z:=Nat.mul_le_mul_right _ (by omega)
      have hi2:(i+1)*(z+1)<=3*(z+1):=Nat.mul_le_mul_right _ (by omega)
      obtain ⟨s3,ks,e3,g3,g4⟩:=ZK hd (by omega) hrec own borrow 0 [] 15 [] [] [] [] aP (i+1) s2 (m+1+1) [] (by omega) (by omega) g2 (by rw[hz1];omega) (by simp;omega)
      rw[hz1] at g3 g4;simp only[U1,e2,Option.getD_some,Option.isSome_some,w3,e3,Bool.and_self];exact ⟨ae.mk 15 [] [] ([]++ks),s3,rfl,g3.up (by omega),by rw[KC,List.nil_append];simp only[lI];omega⟩
     |false=>
      simp only[Yy]
      cases hE:(bif (k==(14:Int)) then (k==(14:Int)) else (k==(15:Int))) with
      |true=>
       obtain ⟨v,s2,e2,g2,v0,v1⟩:=pk g1 (by omega) 3 (by omega) (by omega)
       have w3:Go.IntKind.wrap .i64 (1+v)=1+v:=wrap_i64 (by omega) (by omega)
       obtain ⟨s3,ls,e3,g3,l1,l2⟩:=un g2 (by omega) (1+v) (by omega) (by omega)
       have hi:ls.length*z<=3*z:=Nat.mul_le_mul_right _ (by omega)
       have hi2:ls.length*(z+1)<=3*(z+1):=Nat.mul_le_mul_right _ (by omega)
       obtain ⟨s4,ks,e4,g4,g5⟩:=ZL hd (by omega) hrec own borrow 0 [] 16 [] [] [] ls (by omega) ls.length aP 0 s3 (m+1+1+1) [] (by omega) (by omega) g3 (by rw[hz1];omega) (by simp;omega)
       rw[hz1] at g4 g5;rw[show ((0:Nat):Int)=0 from rfl] at e4
       simp only[U1,e2,Option.getD_some,Option.isSome_some,w3,e3,e4,Bool.and_self];exact ⟨ae.mk 16 [] ls ([]++ks),s4,rfl,g4.up (by omega),by rw[KC,List.nil_append];omega⟩
      |false=>
       simp only[Yy]
       cases hF:(bif (k==(16:Int)) then (k==(16:Int)) else (k==(17:Int))) with
       |true=>
        obtain ⟨v,s2,e2,g2,v0,v1⟩:=pk g1 (by omega) 3 (by omega) (by omega)
        have w3:Go.IntKind.wrap .i64 (1+v)=1+v:=wrap_i64 (by omega) (by omega)
        obtain ⟨s3,ls,e3,g3,l1,l2⟩:=un g2 (by omega) (1+v) (by omega) (by omega)
        have hi2:ls.length*(z+1)<=3*(z+1):=Nat.mul_le_mul_right _ (by omega)
        obtain ⟨s4,ks,e4,g4,g5⟩:=ZM hd (by omega) hrec own borrow 0 [] 17 [] [] [] ls (by omega) ls.length aP 0 s3 (m+1+1+1) [] (by omega) (by omega) g3 (by rw[hz1];omega) (by simp;omega)
        rw[hz1] at g4 g5;rw[show ((0:Nat):Int)=0 from rfl] at e4
        simp only[U1,e2,Option.getD_some,Option.isSome_some,w3,e3,e4,Bool.and_self];exact ⟨ae.mk 17 [] ls ([]++ks),s4,rfl,g4.up (by omega),by rw[KC,List.nil_append];omega⟩
       |false=>
        simp only[Yy];obtain ⟨v,s2,e2,g2,v0,v1⟩:=pk g1 (by omega) 4 (by omega) (by omega)
        have w3:Go.IntKind.wrap .i64 (1+v)=1+v:=wrap_i64 (by omega) (by omega)
        obtain ⟨s3,ls,e3,g3,l1,l2⟩:=un g2 (by omega) (1+v) (by omega) (by omega)
        cases hG:(k==(18:Int)) with
        |true=>
         simp only[U1,e2,Option.getD_some,Option.isSome_some,w3,e3,Bool.and_self];exact ⟨ae.mk 18 [] ls [],s3,rfl,g3.up (by omega),by rw[KC];simp only[lI];omega⟩
        |false=>
         simp only[Yy,U1,e2,Option.getD_some,Option.isSome_some,w3,e3,Bool.and_self];exact ⟨ae.mk 19 [] ls [],s3,rfl,g3.up (by omega),by rw[KC];simp only[lI];omega⟩
theorem ab8 : ∀(n d:Nat),d<n->d<=5->DrI (M.um n) d
 |0,d,h,_=>by omega
 |n+1,d,h,h5=>acX (M.um n) d h5 fun h1=>ab8 n (d-1) (by omega) (by omega)
theorem ZN (d:Nat) (h5:d<=5):DrI M.qY d:=ab8 aP d (by have:=bG;omega) h5
end M
namespace M
open Go.V (inB qg acU aP bG)
theorem ahz {d:Nat} (h:d<=4):Zd d<=10240:=by
 have:=Nat.pow_le_pow_right (show 0<4 by omega) h
 have h256:4^4=256:=rfl;unfold Zd;omega
theorem ZO : ∀(j f:Nat) (t:ae),j<f->j<=10->∃t':ae,M.qC 0 [] [] [] f ((j:Int)-1) t.Kind t.Name t.aQ t.Kids=some (0,[],t'.Kind,t'.Name,[],[],t'.aQ,t'.Kids) /\ t'.sz<=t.sz+j
 |j,0,t,h,_=>by omega
 |0,f+1,t,h,_=>by
  rw[M.qC,decide_eq_false (by omega),Yy]
  exact ⟨t,rfl,by omega⟩
 |j+1,f+1,t,h,h2=>by
  rw[M.qC,decide_eq_true (by omega),U1]
  have w:Go.IntKind.wrap .i64 (((j+1:Nat):Int)-1-1)=(j:Int)-1:=by rw[wrap_i64 (by omega) (by omega)];omega
  rw[w,ae.eta];obtain ⟨t',e,h3⟩:=ZO j f (ae.mk 13 [] [] [t]) (by omega) (by omega)
  refine ⟨t',e, ?_⟩;rw[KC,BO] at h3;simp only[lI] at h3;omega
theorem any_ok {s:ak} {m:Int} (h:CX s m) (hm:m<=100000000):∃t s',M.Ef s=some (Tm t s') /\ CX s' (m+30000) /\ t.sz<=20000:=by
 have pk:= @nJ;have tx:= @Yw;have hbig:=bG;obtain ⟨v,s1,e1,g1,v0,v1⟩:=pk h (by omega) 4 (by omega) (by omega)
 obtain ⟨i,rfl⟩:=Int.eq_ofNat_of_zero_le v0;have w:Go.IntKind.wrap .i64 (1+(i:Int))=((i+1:Nat):Int):=by rw[wrap_i64 (by omega) (by omega)];omega
 have hz:=ahz (show i+1<=4 by omega)
 obtain ⟨t,s2,e2,g2,t1⟩:=ZN (i+1) (by omega) true true s1 (m+1) g1 (by omega)
 obtain ⟨k,s3,e3,g3,k0,k1⟩:=pk g2 (by omega) 12 (by omega) (by omega)
 have hsz:=ae.jO t;have hll:=lC List.length t.aQ;have hkl:=lC ae.sz t.Kids;have hc2:=yX (a:=t.aQ.length) (b:=1) (by omega)
 have hc3:=yX (a:=t.Kids.length) (b:=1) (by omega)
 have so:= @TF M.qY 2 (ZN 2 (by omega)) true true
 have hz2:=ahz (show 2<=4 by omega)
 unfold M.Ef;simp only[e1,w,e2,Tm,e3,Option.getD_some,Option.isSome_some,Bool.and_true,Bool.true_and,Bool.and_self]
 cases c0:(k==(0:Int)) with
 |true=>
  obtain ⟨v2,s4,e4,g4, -, -⟩:=pk g3 (by omega) 25 (by omega) (by omega)
  simp only[U1,e4,Option.getD_some,Option.isSome_some];exact ⟨ae.mk v2 t.Name t.aQ t.Kids,s4,rfl,g4.up (by omega),by rw[ae.jO];show t.Name.length+lI List.length t.aQ+lI ae.sz t.Kids<=_;omega⟩
 |false=>
  simp only[Yy]
  cases c1:(k==(1:Int)) with
  |true=>
   obtain ⟨v2,s4,e4,g4, -, -⟩:=pk g3 (by omega) 24 (by omega) (by omega)
   simp only[U1,e4,Option.getD_some,Option.isSome_some,List.length_cons,List.length_nil,Nat.zero_add,hc3,Bool.and_self];exact ⟨ae.mk t.Kind t.Name t.aQ (t.Kids++[ae.mk v2 [] [] []]),s4,rfl,g4.up (by omega),by rw[ae.jO];show t.Name.length+lI List.length t.aQ+lI ae.sz (t.Kids++[ae.mk v2 [] [] []])<=_;rw[Yu,BO,ab6];omega⟩
  |false=>
   simp only[Yy]
   cases c2:(k==(2:Int)) with
   |true=>
    obtain ⟨x,s4,e4,g4,x1⟩:=tx g3 (by omega) [[(97:UInt8)],[(66:UInt8)],[(45:UInt8)],[(113:UInt8)]] 1 (by decide) (by decide) (by decide)
    simp only[U1,e4,Option.getD_some,Option.isSome_some,List.length_cons,List.length_nil,Nat.zero_add,hc2,Bool.and_self];exact ⟨ae.mk t.Kind t.Name (t.aQ++[x]) t.Kids,s4,rfl,g4.up (by omega),by rw[ae.jO];show t.Name.length+lI List.length (t.aQ++[x])+lI ae.sz t.Kids<=_;rw[Yu,BO];omega⟩
   |false=>
    simp only[Yy]
    cases c3:(k==(3:Int)) with
    |true=>
     obtain ⟨x,s4,e4,g4,x1⟩:=tx g3 (by omega) [[(114:UInt8),(101:UInt8),(115:UInt8)],[(97:UInt8),(45:UInt8),(45:UInt8),(98:UInt8)],[(97:UInt8),(45:UInt8)]] 4 (by decide) (by decide) (by decide)
     simp only[U1,e4,Option.getD_some,Option.isSome_some,Bool.and_self];exact ⟨ae.mk t.Kind x t.aQ t.Kids,s4,rfl,g4.up (by omega),by rw[ae.jO];show x.length+lI List.length t.aQ+lI ae.sz t.Kids<=_;omega⟩
    |false=>
     simp only[Yy]
     cases c4:(k==(4:Int)) with
     |true=>
      obtain ⟨x,s4,e4,g4,x1⟩:=so s3 _ g3 (by omega)
      have e4':M.nY M.qY 2 true true s3=_:=e4;simp only[U1,e4',Tm,ae.eta,Option.getD_some,Option.isSome_some,Bool.and_self];exact ⟨ae.mk 22 [] [] [x],s4,rfl,g4.up (by omega),by rw[KC,BO];simp only[lI];omega⟩
     |false=>
      simp only[Yy]
      cases c5:(k==(5:Int)) with
      |true=>
       obtain ⟨v2,s4,e4,g4,j0,j1⟩:=pk g3 (by omega) 4 (by omega) (by omega)
       obtain ⟨j,rfl⟩:=Int.eq_ofNat_of_zero_le j0;obtain ⟨t',e5,h5⟩:=ZO (j+1) aP t (by omega) (by omega)
       rw[show (((j+1:Nat):Int)-1)=(j:Int) by omega] at e5
       simp only[U1,e4,e5,Option.getD_some,Option.isSome_some,Bool.and_self];exact ⟨t',s4,rfl,g4.up (by omega),by omega⟩
      |false=>
       simp only[Yy]
       cases c6:(k==(6:Int)) with
       |true=>
        obtain ⟨v2,s4,e4,g4, -, -⟩:=pk g3 (by omega) 3 (by omega) (by omega)
        simp only[U1,e4,Option.getD_some,Option.isSome_some];exact ⟨ae.mk (Go.IntKind.wrap .i64 (v2+1)) [] [] [],s4,rfl,g4.up (by omega),by rw[ab6];omega⟩
       |false=>
        simp only[Yy,U1];exact ⟨t,s3,rfl,g3.up (by omega),by omega⟩
end M
