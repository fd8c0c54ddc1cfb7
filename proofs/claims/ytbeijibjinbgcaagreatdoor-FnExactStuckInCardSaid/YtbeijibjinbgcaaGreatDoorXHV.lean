/-
  Part of the proof of the claim.
-/
import Derived.Test.YtbeijibjinbgcaaGreatDoorXHpl5
import Derived.Test.YtbeijibjinbgcaaGreatDoorXHU
namespace M
theorem Ed{α:Type}[DecidableEq α]:∀(s l:List α),s.Nodup->(∀x∈s,x∈l)->s.length<=l.length
 |[],l,_,_=>by simp
 |a::s,l,hs,h=>by
  rw[uy]at hs;have ha:=h a (lD ..);have:=Ed s (l.erase a) hs.2 (fun x hx=>by
   have hne:x≠a:=fun q=>hs.1 (q ▸ hx)
   exact(List.mem_erase_of_ne hne).2 (h x (tQ _ hx)))
  rw[List.length_erase_of_mem ha]at this;have hp:=List.length_pos_of_mem ha;rw[cr];omega
def fX(l:List Int):Bool:=(List.range l.length).all fun i=>i==0||decide (l.getD (i-1) 0<l.getD i 0)
theorem LS{l:List Int}(h:fX l=true):l.Nodup:=by
 have h1:∀i,i+1<l.length->l.getD i 0<l.getD (i+1) 0:=fun i hi=>by
  have:=dW.1 h (i+1) (mK.2 hi);simpa using this
 have h2:∀d i,i+d+1<l.length->l.getD i 0<l.getD (i+d+1) 0:=fun d=>by
  induction d with
  |zero=>intro i hi;exact h1 i hi
  |succ d ih=>
   intro i hi;have a:=ih i (by omega);have b:=h1 (i+d+1) (by omega);have e:i+(d+1)+1=i+d+1+1:=by omega
   rw[e];omega
 unfold List.Nodup;rw[tI];intro i j hi hj hij;have:=h2 (j-i-1) i (by omega);rw[show i+(j-i-1)+1=j by omega,cY,cY,bW hi,bW hj]at this;simp only[aQ]at this;omega
theorem DI{l:List Int}(h:fX l=true)(N:Nat)(hb:∀x∈l,1<=x/\x<=(N:Int)):l.length<=N:=by
 have:=Ed l ((List.range N).map fun i=>((i:Nat):Int)+1) (LS h) (fun x hx=>by
  have:=hb x hx;rw[kV];exact⟨(x-1).toNat,mK.2 (by omega),by omega⟩)
 rw[HY,List.length_range]at this;exact this
end M
set_option linter.unusedVariables false
set_option linter.unusedSimpArgs false
namespace M
open Go.V (inB cC an cJ)
theorem Z9(o:aw):M.oY o=M.kF o:=by
 unfold M.oY M.kF;generalize aw.Kind o=k;generalize aw.A o=a;generalize aw.B o=b;by_cases h:1<=k/\k<=12
 ·have:k=1\/k=2\/k=3\/k=4\/k=5\/k=6\/k=7\/k=8\/k=9\/k=10\/k=11\/k=12:=by omega
  rcases this with rfl|rfl|rfl|rfl|rfl|rfl|rfl|rfl|rfl|rfl|rfl|rfl<;>simp
  all_goals (try (rw[Bool.cond_eq_ite]))
  all_goals split
  all_goals
   congr 1;rw[eu];simp only[bk,fU,eQ,bC,fO,jc,reduceCtorEq,iff_false,ee]at*;omega
 ·have h1:(decide (1<=k)&&decide (k<=12))=false:=by simp;omega
  simp[h1]
theorem aab(o:aw):∃b,M.kF o=some b:=by
 unfold M.kF;cases (_||_:Bool)<;>simp only[aE,aZ]<;>first|exact⟨_,rfl⟩|skip
 cases (_||_:Bool)<;>exact⟨_,rfl⟩
noncomputable def fJ(o:aw):Bool:=(M.kF o).getD false
theorem DJ(o:aw):M.kF o=some (fJ o):=by
 obtain⟨b,hb⟩:=aab o;unfold fJ;rw[hb];rfl
theorem aac(o:aw):M.oY o=some (fJ o):=by rw[Z9,DJ]
theorem aad(p:ar)(hp:p.Ops.length<2^62):M.oZ p Go.V.an 0=some (if p.Ops.all fJ then .inr ()else .inl false):=by
 have:=pd (F:=M.oZ p) (n:=p.Ops.length) (res:=fun k=>some (if(p.Ops.drop k).all fJ then .inr ()else .inl false)) hp
  (fun f k hk ih=>by
    rw[M.oZ,Ef _ hk];simp only[DJ,getD_lt hk,bV,ct,dY,hk,bN hk hp,ih];cases fJ p.Ops[k]<;>simp)
  (fun f=>by rw[M.oZ];simp)
 simpa using this
theorem aae(p:ar)(hp:p.Ops.length<2^62):M.qW p=some ((decide (1<=p.dQ)&&decide (p.dQ<=6))&&decide ((p.Ops.length:Int)<=12)&&p.Ops.all fJ):=by
 unfold M.qW;rw[aad p hp,show decide (12<(p.Ops.length:Int))= !decide ((p.Ops.length:Int)<=12) by rw[eu];simp];cases decide (1<=p.dQ)<;>cases decide (p.dQ<=6)<;>cases decide ((p.Ops.length:Int)<=12)<;>cases p.Ops.all fJ<;>rfl
theorem aaf(s:List aw)(hs:s.length<2^62):M.pe s (s.length:Int) Go.V.an 0=some (match s.findIdx? (fun o=> !fJ o)with
 |some j=>.inl (j:Int)
 |none=>.inr ()):=by
 have:=pd (F:=M.pe s (s.length:Int)) (n:=s.length) (res:=fun k=>some (match(s.drop k).findIdx? (fun o=> !fJ o)with
  |some j=>.inl ((j+k:Nat):Int)
  |none=>.inr ())) hs
  (fun f k hk ih=>by
    rw[M.pe,jZ hk,List.findIdx?_cons];simp only[aac,getD_lt hk,bV,ct,dY,hk,bN hk hs,ih];cases fJ s[k]<;>simp;cases h:List.findIdx? (fun o=> !fJ o) (List.drop (k+1) s)<;>simp;omega)
  (fun f=>by rw[M.pe];simp)
 simpa using this
theorem aag(s:List aw)(hs:s.length<2^62):M.uz s=some (s.any fun o=> !fJ o):=by
 unfold M.uz M.xH;rw[aaf s hs];cases h:s.findIdx? (fun o=> !fJ o)with
 |none=>
  have:s.any (fun o=> !fJ o)=false:=by
   rw[List.findIdx?_eq_none_iff]at h;rw[List.any_eq_false];intro x hx;have:=h x hx;simpa using this
  simp[this]
 |some j=>
  have:s.any (fun o=> !fJ o)=true:=by
   rw[List.findIdx?_eq_some_iff_getElem]at h;obtain⟨hj,h1,-⟩:=h;rw[List.any_eq_true];exact⟨s[j],cn hj,h1⟩
  simp[this]
theorem aah(p:ar)(hp:p.Ops.length<2^62):M.qX p=some ((decide (1<=p.dQ)&&decide (p.dQ<=6))&&decide ((p.Ops.length:Int)<=12)&&p.Ops.all fJ):=by
 unfold M.qX;rw[aag _ hp];have:(p.Ops.any fun o=> !fJ o)= !p.Ops.all fJ:=by rw[List.all_eq_not_any_not];simp
 simp[this]
noncomputable def kE(p:ar):Bool:=((decide (1<=p.dQ)&&decide (p.dQ<=6))&&decide ((p.Ops.length:Int)<=12))&&p.Ops.all fJ
theorem aai(p:ar)(h:p.Ops.length<=1048576):M.qW p=some (kE p):=aae p (by omega)
theorem aaj(p:ar)(h:p.Ops.length<=1048576):M.qX p=some (kE p):=aah p (by omega)
noncomputable def oh(l:List ar):Bool:=(decide ((1:Int)<=(l.length:Int))&&decide ((l.length:Int)<=6))&&l.all kE
theorem aak(l:List ar)(hl:l.length<=1048576)(h:∀p∈l,p.Ops.length<=1048576):M.uA l=some (oh l):=by
 have e:=xx (p:=kE) (F:=M.qY l) (e:=()) (b:=false) l (by omega) (fun f k hk=>by
  rw[M.qY];simp only[getD_lt hk,aai _ (h _ (cn hk)),bV,ct,dY,hk,cI,aE,bJ,aD,bN hk (by omega:l.length<2^62),aQ,bf];cases kE l[k]<;>rfl) (fun f=>by rw[M.qY];simp)
 have e1:decide ((l.length:Int)<1)= !decide ((1:Int)<=(l.length:Int)):=by rw[<-hQ];simp only[cP];omega
 have e2:decide ((6:Int)<(l.length:Int))= !decide ((l.length:Int)<=6):=by rw[<-hQ];simp only[cP];omega
 unfold M.uA oh;rw[e,e1,e2];cases decide ((1:Int)<=(l.length:Int))<;>cases decide ((l.length:Int)<=6)<;>cases l.all kE<;>rfl
theorem aal(l:List ar)(hl:l.length<=1048576)(h:∀p∈l,p.Ops.length<=1048576):M.uB l=some (oh l):=by
 have e:=jE (p:=fun p=> !kE p) (F:=M.qZ l (l.length:Int)) (e:=()) (fun k=>k) l (by omega) (fun f k hk=>by
  rw[M.qZ];have ec:M.uC l[k]=some (!kE l[k]):=by unfold M.uC;rw[aaj _ (h _ (cn hk))];rfl
  simp only[getD_lt hk,ec,bV,ct,dY,hk,cI,aE,bJ,aD,bN hk (by omega:l.length<2^62),aQ,bf]) (fun f=>by
  rw[M.qZ];simp)
 have e2:M.uD l=some (!l.all kE):=by
  unfold M.uD M.xI;rw[e,tN,jF];cases l.findIdx? (fun p=> !kE p)<;>simp
 unfold M.uB oh;rw[e2];simp only[bf,aQ,cQ,bn,aE,Bool.not_not]
def j9(n:az):Bool:=(decide ((1:Int)<=n.Task)&&decide (n.Task<=8))&&(decide ((1:Int)<=n.Kind)&&decide (n.Kind<=9))
theorem aam(l:List az)(hl:l.length<=1048576):M.uE l=some (decide ((l.length:Int)<=120)&&l.all j9):=by
 have ec:∀n,M.uF n=some (!j9 n):=fun n=>by unfold M.uF j9;simp only[Bool.not_and]
 have e:=jE (p:=fun p=> !j9 p) (F:=M.rf l (l.length:Int)) (e:=()) (fun k=>k) l (by omega) (fun f k hk=>by
  rw[M.rf];simp only[getD_lt hk,ec,bV,ct,dY,hk,cI,aE,bJ,aD,bN hk (by omega:l.length<2^62),aQ,bf]) (fun f=>by
  rw[M.rf];simp)
 have e2:M.uG l=some (!l.all j9):=by
  unfold M.uG M.xJ;rw[e,tN,jF];cases l.findIdx? (fun p=> !j9 p)<;>simp
 unfold M.uE;rw[e2];simp only[bf,aQ,cQ,bn,aE,Bool.not_not]
theorem Eg{α E Y:Type}{p:α->Bool}{F:Nat->Int->Option (Y⊕E)}{e:E}{b:Y}(a:List α)(ha:a.length<2^62)
 (step:∀f k,∀h:k<a.length,F (f+1) (k:Int)=bif p a[k]then F f ((k+1:Nat):Int)else some (.inl b)) (stop:∀f,F (f+1) (a.length:Int)=some (.inr e)):
 F an 0=some (if a.all p then .inr e else .inl b):=by
 have:=pd (F:=F) (n:=a.length) (res:=fun k=>some (if(a.drop k).all p then .inr e else .inl b)) ha (fun f k hk ih=>by
  rw[step f k hk,ih,Ef p hk];cases p a[k]<;>simp) (fun f=>by rw[stop,jC];rfl)
 simpa using this
theorem LU{E Y:Type}{p:Nat->Bool}{F:Nat->Int->Option (Y⊕E)}{e:E}{b:Y}(n:Nat)(hn:n<2^62)
 (step:∀f k,k<n->F (f+1) (k:Int)=bif p k then F f ((k+1:Nat):Int)else some (.inl b)) (stop:∀f,F (f+1) (n:Int)=some (.inr e)):
 F an 0=some (if(List.range n).all p then .inr e else .inl b):=by
 have:=pd (F:=F) (n:=n) (res:=fun k=>some (if(List.range' k (n-k)).all p then .inr e else .inl b)) hn (fun f k hk ih=>by
  rw[step f k hk,ih];have:List.range' k (n-k)=k::List.range' (k+1) (n-(k+1)):=by
   rw[show n-k=(n-(k+1))+1 by omega];rfl
  rw[this,mD];cases p k
  ·simp
  ·rw[bJ];rfl) (fun f=>by rw[stop,rh];rfl)
 rw[this,List.range_eq_range',Nat.sub_zero]
def rk(l:List Int)(i:Nat):Bool:=i==0||decide (l.getD (i-1) 0<l.getD i 0)
theorem xK(l:List Int):fX l=(List.range l.length).all (rk l):=rfl
theorem aan(l:List Int)(hl:l.length<=1048576):∀f k,l.length-k<f->1<=k->M.ri l f (k:Int)=some (if(List.range' k (l.length-k)).all (rk l)then .inr ()else .inl false):=by
 intro f
 induction f with
 |zero=>intro k h;omega
 |succ f ih=>
  intro k h1 h2;rw[M.ri];rcases fY k l.length with hk|hk
  ·have hw:Go.IntKind.wrap .i64 ((k:Int)-1)=((k-1:Nat):Int):=by rw[wrap_i64 (by omega) (by omega)];omega
   have hk1:k-1<l.length:=by omega
   have hr:List.range' k (l.length-k)=k::List.range' (k+1) (l.length-(k+1)):=by
    rw[show l.length-k=(l.length-(k+1))+1 by omega];rfl
   have hrk:rk l k= !decide (l.getD k 0<=l.getD (k-1) 0):=by
    unfold rk;rw[show(k==0)=false by rw[ed];omega,jw,<-hQ];simp only[cP];omega
   simp only[hw,bV,ct,dY,hk,hk1,cI,aE,bn,bN hk (by omega:l.length<2^62)];rw[ih (k+1) (by omega) (by omega),hr,mD,hrk];cases decide (l.getD k 0<=l.getD (k-1) 0)
   ·rw[fA,bJ];rfl
   ·rfl
  ·rw[dj (by omega),aZ,show l.length-k=0 by omega];rfl
theorem LV(l:List Int)(hl:l.length<=1048576):M.rj l=some (fX l):=by
 have e:=aan l hl an 1 (by have:=cJ;omega) (cH _);have e':M.ri l an 1=_:=e;have h:(List.range l.length).all (rk l)=(List.range' 1 (l.length-1)).all (rk l):=by
  cases hn:l.length with
  |zero=>rfl
  |succ n=>
   rw[List.range_eq_range',show List.range' 0 (n+1)=0::List.range' 1 n from rfl,mD];have:rk l 0=true:=rfl;rw[this,bJ,Nat.add_sub_cancel]
 unfold M.rj;rw[e',xK,h];cases (List.range' 1 (l.length-1)).all (rk l)<;>rfl
theorem zR(l:List Int)(k:Nat)(hk:k<l.length)(hl:l.length<=1048576):((decide ((0:Int)<(k:Int)))&&decide (l.getD k 0<=l.getD (Int.toNat (Go.IntKind.wrap .i64 ((k:Int)-1))) 0))= !rk l k:=by
 unfold rk;by_cases h:k=0
 ·subst h;rfl
 ·have hw:Go.IntKind.wrap .i64 ((k:Int)-1)=((k-1:Nat):Int):=by rw[wrap_i64 (by omega) (by omega)];omega
  rw[hw,bV,cy (show(0:Int)<(k:Int) by omega),bJ,show(k==0)=false by rw[ed];exact h,jw,<-hQ];simp only[cP];omega
theorem zS(n k:Nat)(b:Bool)(hk:k<n)(hl:n<=1048576):(inB (Go.IntKind.wrap .i64 ((k:Int)-1)) n|| !((b==false)&&(decide ((0:Int)<(k:Int))==true)))=true:=by
 by_cases h:k=0
 ·subst h;simp
 ·have hw:Go.IntKind.wrap .i64 ((k:Int)-1)=((k-1:Nat):Int):=by rw[wrap_i64 (by omega) (by omega)];omega
  rw[hw,ct,cy (by omega),cQ]
end M
namespace M
open Go.V (inB cC an cJ)
theorem fS{i:Int}{n:Nat}(h:0<=i/\i<(n:Int)):inB i n=true:=by
 obtain⟨j,rfl⟩:=yO h.1;rw[ct,bC];omega
def hasB(l:List Int)(v:Int):Bool:=l.any fun x=>v==x
theorem KQ(l:List Int)(v:Int)(hl:l.length<=1048576):M.kN l v=some (hasB l v):=K7 l v (by omega)
theorem KX(l:List Int)(v:Int)(hl:l.length<=1048576):M.pf l v=some (hasB l v):=by
 have hc:(fun x:Int=>v==x)=fun x=>x==v:=funext fun x=>by rw[eu,jc,jc];exact eq_comm
 have e:=jE (p:=fun x=>x==v) (F:=M.rl l v) (e:=()) (fun _=>true) l (by omega) (fun f k hk=>by
  rw[M.rl];simp only[getD_lt hk,bV,ct,dY,hk,cI,aE,aD,bN hk (by omega:l.length<2^62)]) (fun f=>by
  rw[M.rl];simp)
 unfold M.pf hasB;rw[e,hc,jF];cases l.findIdx? (fun x=>x==v)<;>rfl
def hJ(w:ai)(t:ad)(id:Int):Bool:=(decide ((1:Int)<=id)&&decide (id<=(w.aC.length:Int)))&&((w.aC.getD (id-1).toNat ad.zero).dy==t.Id)
theorem LX(w:ai)(t:ad)(id:Int)(hn:w.aC.length<=1048576):
 ((!(decide ((1:Int)<=id)&&decide (id<=(w.aC.length:Int))))||((w.aC.getD (Int.toNat (Go.IntKind.wrap .i64 (id-1))) ad.zero).dy !=t.Id))= !hJ w t id/\
 (inB (Go.IntKind.wrap .i64 (id-1)) w.aC.length|| !((!(decide ((1:Int)<=id)&&decide (id<=(w.aC.length:Int))))==false))=true:=by
 unfold hJ;by_cases h:1<=id/\id<=(w.aC.length:Int)
 ·have hd:(decide ((1:Int)<=id)&&decide (id<=(w.aC.length:Int)))=true:=by rw[bk,bC,bC];exact h
  have hw:Go.IntKind.wrap .i64 (id-1)=id-1:=wrap_i64 (by omega) (by omega);rw[hd,hw];refine⟨?_,?_⟩
  ·rw[gn,bJ,dG,jw]
  ·rw[fS ⟨by omega,by omega⟩,cQ]
 ·have hd:(decide ((1:Int)<=id)&&decide (id<=(w.aC.length:Int)))=false:=by rw[tg,ne_eq,bk,bC,bC];exact h
  rw[hd];exact⟨rfl,by simp⟩
def s9(w:ai)(t:ad):Bool:=(t.bg.all (hJ w t)&&fX t.bg)&&(t.Set.all (hasB t.bg)&&fX t.Set)
theorem aao(w:ai)(t:ad)(hn:w.aC.length<=1048576)(h1:t.bg.length<=1048576)(h2:t.Set.length<=1048576):M.uH w t=some (s9 w t):=by
 have e0:=lI (p:=fun k=>hJ w t (t.bg.getD k 0)&&rk t.bg k) (F:=M.rm t.bg (t.bg.length:Int) w t) (e:=t) (b:=false) t.bg.length (by omega) (fun f k hk=>by
  rw[M.rm];obtain⟨a1,a2⟩:=LX w t (t.bg.getD k 0) hn;have r1:=zR t.bg k hk h1;have r2:=zS t.bg.length k (!hJ w t (t.bg.getD k 0)) hk h1;simp only[bV,a1,a2,r1,r2,ct,dY,hk,cI,aE,bn,bN hk (by omega:t.bg.length<2^62)];cases hJ w t (t.bg.getD k 0)<;>cases rk t.bg k<;>rfl) (fun f=>by rw[M.rm];simp)
 have e1:=lI (p:=fun k=>hasB t.bg (t.Set.getD k 0)&&rk t.Set k) (F:=M.rn t.Set (t.Set.length:Int) t) (e:=()) (b:=false) t.Set.length (by omega) (fun f k hk=>by
  rw[M.rn];have r1:=zR t.Set k hk h2;have r2:=zS t.Set.length k (!hasB t.bg (t.Set.getD k 0)) hk h2;simp only[bV,KQ _ _ h1,aQ,bf,r1,r2,ct,dY,hk,cI,aE,bn,bN hk (by omega:t.Set.length<2^62)];cases hasB t.bg (t.Set.getD k 0)<;>cases rk t.Set k<;>rfl) (fun f=>by rw[M.rn];simp)
 rw[zT (fun k=>hJ w t (t.bg.getD k 0)) (rk t.bg),zU (hJ w t),<-xK]at e0;rw[zT (fun k=>hasB t.bg (t.Set.getD k 0)) (rk t.Set),zU (hasB t.bg),<-xK]at e1;unfold M.uH s9;rw[e0];cases (t.bg.all (hJ w t)&&fX t.bg)
 ·rfl
 ·simp only[dZ,e1,bJ];cases (t.Set.all (hasB t.bg)&&fX t.Set)<;>rfl
theorem aap(n:Int)(w:ai)(t:ad)(hn:w.aC.length<=1048576)(h1:t.bg.length<=1048576):M.pg n w t an 0=some (if t.bg.all (hJ w t)then .inr (n,w.aT,w.aX,w.aC,w.Back,w.Notes,t)else .inl (false,w.aT,w.aX,w.aC,w.Back,w.Notes)):=
 Eg (p:=hJ w t) (F:=M.pg n w t) t.bg (by omega) (fun f k hk=>by
  rw[M.pg];obtain⟨a1,a2⟩:=LX w t t.bg[k] hn;simp only[bV,getD_lt hk,a1,a2,ct,dY,hk,cI,aE,bn,cQ,bN hk (by omega:t.bg.length<2^62)];cases hJ w t t.bg[k]<;>rfl) (fun f=>by rw[M.pg];simp)
theorem aaq(n:Int)(t:ad)(h1:t.bg.length<=1048576)(h2:t.Set.length<=1048576):M.pj n t an 0=some (if t.Set.all (hasB t.bg)then .inr (n,t)else .inl false):=
 xx (p:=hasB t.bg) (F:=M.pj n t) t.Set (by omega) (fun f k hk=>by
  rw[M.pj];simp only[bV,getD_lt hk,KX _ _ h1,aQ,bf,ct,dY,hk,cI,aE,bn,bN hk (by omega:t.Set.length<2^62)];cases hasB t.bg t.Set[k]<;>rfl) (fun f=>by rw[M.pj];simp)
theorem KJ{w:ai}{t:ad}(h8:w.aC.length<=8)(h:t.bg.all (hJ w t)=true)(hr:fX t.bg=true):t.bg.length<=8:=by
 refine DI hr 8 fun x hx=>?_
 have:=dW.1 h x hx;unfold hJ at this;simp only[bk,bC]at this;omega
theorem KL{t:ad}(h:t.Set.all (hasB t.bg)=true)(hr:fX t.Set=true):t.Set.length<=t.bg.length:=by
 refine Ed _ _ (LS hr) fun x hx=>?_
 have:=dW.1 h x hx;unfold hasB at this;rw[List.any_eq_true]at this;obtain⟨y,hy,e⟩:=this;rw[jc]at e;rw[e];exact hy
theorem KI{n:Nat}(h:n<=1048576):Go.IntKind.wrap .i64 ((n:Int)-1)=(n:Int)-1:=wrap_i64 (by omega) (by omega)
def oi(w:ai)(t:ad)(k:Int):Bool:=((((t.Id !=(Go.IntKind.wrap .i64 (k+1)))||(!(decide ((0:Int)<=t.Prog)&&decide (t.Prog<=(Go.IntKind.wrap .i64 ((w.aT.length:Int)-1))))))||(!(decide ((0:Int)<=t.dy)&&decide (t.dy<=(Go.IntKind.wrap .i64 (t.Id-1))))))||(!(decide ((1:Int)<=t.Status)&&decide (t.Status<=5))))
def Eh(n:Int)(t:ad):Bool:=(!(t.Told&& !((t.bU||(t.Status==4))||(t.Status==5))))&&(bif t.Status==1 then(((t.PC==0)&&((t.bg.length:Int)==0))&& !t.bU)&& !t.Asked else bif t.Status==3 then t.bU&&(t.PC==n)else(!(t.Status==4))|| !t.bU)
def zV(w:ai)(t:ad):Int:=((w.aT.getD t.Prog.toNat ar.zero).Ops.length:Int)
def jB(w:ai)(t:ad)(k:Int):Bool:=((((!oi w t k)&&(decide ((0:Int)<=t.Result)&&decide (t.Result<=999)))&& !((!(t.Result==0))&& !t.bU))&&((decide ((0:Int)<=t.PC)&&decide (t.PC<=zV w t))&&s9 w t))&&Eh (zV w t) t
theorem LY{w:ai}{t:ad}{k:Int}(hp:w.aT.length<=1048576)(h:oi w t k=false):inB t.Prog w.aT.length=true:=by
 unfold oi at h;rw[KI hp]at h;simp only[qu,Bool.not_eq_false',bk,bC]at h;exact fS ⟨h.1.1.2.1,by omega⟩
end M
namespace M
open Go.V (inB cC an cJ)
structure xM (w:ai):Prop where
 j5:w.aT.length<=1048576
 tasks:w.aC.length<=1048576
 subs:∀t∈w.aC,t.bg.length<=1048576/\t.Set.length<=1048576
theorem aar{w:ai}(h:xM w){k:Nat}(hk:k<w.aC.length):M.uI w (k:Int)=some (jB w w.aC[k] (k:Int)):=by
 have hs:=h.subs _ (cn hk);unfold M.uI;simp only[bV,getD_lt hk,ct,hk,cI];generalize w.aC[k]=t at hs⊢;have hh:=LY (w:=w) (t:=t) (k:=(k:Int)) h.j5;simp only[aao w t h.tasks hs.1 hs.2];rw[show(((((t.Id !=(Go.IntKind.wrap .i64 ((k:Int)+1)))||(!(decide ((0:Int)<=t.Prog)&&decide (t.Prog<=(Go.IntKind.wrap .i64 ((w.aT.length:Int)-1))))))||(!(decide ((0:Int)<=t.dy)&&decide (t.dy<=(Go.IntKind.wrap .i64 (t.Id-1))))))||(!(decide ((1:Int)<=t.Status)&&decide (t.Status<=5)))))=oi w t (k:Int)from rfl];unfold jB;cases hn:oi w t (k:Int)with
 |true=>rfl
 |false=>
  simp only[hh hn,gn,bf,aQ,cQ,bn,aZ,aE,fA,bJ];unfold Eh zV;generalize (decide ((0:Int)<=t.PC)&&decide (t.PC<=((w.aT.getD t.Prog.toNat ar.zero).Ops.length:Int)))=b1;generalize (decide ((0:Int)<=t.Result)&&decide (t.Result<=999))=b2;generalize (t.Result==0)=b3;generalize s9 w t=b4;generalize (t.PC==((w.aT.getD t.Prog.toNat ar.zero).Ops.length:Int))=b5;generalize (t.PC==0)=b6;generalize ((t.bg.length:Int)==0)=b7;generalize (t.Status==1)=s1;generalize (t.Status==3)=s3;generalize (t.Status==4)=s4;generalize (t.Status==5)=s5;cases b1
  ·cases b2<;>cases b3<;>cases t.bU<;>rfl
  cases b2
  ·cases b3<;>cases t.bU<;>rfl
  cases b4
  ·cases b3<;>cases t.bU<;>rfl
  cases hb:((!b3)&& !t.bU)
  ·simp only[hb,dG,kB,aZ,fA,bn,bJ,aE];cases (t.Told&& !((t.bU||s4)||s5))
   ·cases s1
    ·cases s3<;>rfl
    ·rfl
   ·rfl
  ·simp only[hb,dG,jf,cQ,aE,Bool.and_false,lu]
theorem aas{w:ai}(h:xM w)(h8:w.aC.length<=8){k:Nat}(hk:k<w.aC.length):M.uJ (k:Int) w=some (jB w w.aC[k] (k:Int),w):=by
 have hs:=h.subs _ (cn hk);unfold M.uJ;simp only[bV,getD_lt hk,ct,hk,cI];generalize w.aC[k]=t at hs⊢;have hh:=LY (w:=w) (t:=t) (k:=(k:Int)) h.j5;have hS:=KJ (w:=w) (t:=t) h8;have hT:=KL (t:=t);simp only[aap _ w t h.tasks hs.1,LV t.bg hs.1,LV t.Set hs.2];rw[show(((((t.Id !=(Go.IntKind.wrap .i64 ((k:Int)+1)))||(!(decide ((0:Int)<=t.Prog)&&decide (t.Prog<=(Go.IntKind.wrap .i64 ((w.aT.length:Int)-1))))))||(!(decide ((0:Int)<=t.dy)&&decide (t.dy<=(Go.IntKind.wrap .i64 (t.Id-1))))))||(!(decide ((1:Int)<=t.Status)&&decide (t.Status<=5)))))=oi w t (k:Int)from rfl];unfold jB;cases hn:oi w t (k:Int)with
 |true=>rfl
 |false=>
  simp only[hh hn,gn,bf,aQ,cQ,bn,aZ,aE,fA,bJ,jw];unfold Eh zV s9;have hL1:(t.bg.all (hJ w t)&&fX t.bg)=true->decide ((8:Int)<(t.bg.length:Int))=false:=fun q=>by
   rw[bk]at q;have:=hS q.1 q.2;rw[fO];omega
  have hL2:(t.Set.all (hasB t.bg)&&fX t.Set)=true->decide ((t.bg.length:Int)<(t.Set.length:Int))=false:=fun q=>by
   rw[bk]at q;have:=hT q.1 q.2;rw[fO];omega
  have hz:decide ((0:Int)<(t.bg.length:Int))= !((t.bg.length:Int)==0):=by
   rw[eu];simp only[bC,eQ,ed];omega
  have e1:=fun n=>aaq n t hs.1 hs.2
  generalize decide ((8:Int)<(t.bg.length:Int))=L1 at hL1⊢;generalize decide ((t.bg.length:Int)<(t.Set.length:Int))=L2 at hL2⊢;generalize (decide ((0:Int)<=t.PC)&&decide (t.PC<=((w.aT.getD t.Prog.toNat ar.zero).Ops.length:Int)))=b1;generalize (decide ((0:Int)<=t.Result)&&decide (t.Result<=999))=b2;generalize (t.Result==0)=b3;generalize t.bg.all (hJ w t)=A at hL1⊢;generalize fX t.bg=R1 at hL1⊢;generalize t.Set.all (hasB t.bg)=H at hL2 e1⊢;generalize fX t.Set=R2 at hL2⊢;cases b2
  ·cases b3<;>cases t.bU<;>cases b1<;>rfl
  cases hb:((!t.bU)&& !b3)
  ·have hb':((!b3)&& !t.bU)=false:=by rw[Bool.and_comm];exact hb
   simp only[hb',dG,kB,aZ,fA,bn,bJ,aD];cases b1
   ·rfl
   cases hA:(A&&R1)
   ·cases L1
    ·cases L2
     ·cases R1
      ·rfl
      ·cases A
       ·cases R2<;>rfl
       ·cases hA
     ·simp
    ·simp
   ·rw[hL1 hA];rw[bk]at hA;rw[hA.1,hA.2];cases hH:(H&&R2)
    ·cases L2
     ·cases R2
      ·rfl
      ·cases H
       ·simp only[dZ,e1,dG,kB,aZ];rfl
       ·cases hH
     ·simp
    ·rw[hL2 hH];rw[bk]at hH;rw[hH.1]at e1;rw[hH.2];simp only[e1,dG,kB,aZ,dZ,cQ,bn,aE,bJ,hz];generalize ((t.bg.length:Int)==0)=b7;generalize (t.PC==((w.aT.getD t.Prog.toNat ar.zero).Ops.length:Int))=b5;generalize (t.PC==0)=b6;generalize (t.Status==1)=s1;generalize (t.Status==3)=s3;generalize (t.Status==4)=s4;generalize (t.Status==5)=s5;generalize t.bU=r;generalize t.Told=td;generalize t.Asked=ak;cases s1
     ·cases s3
      ·cases s4
       ·cases r<;>cases td<;>cases s5<;>rfl
       ·cases r<;>cases td<;>rfl
      ·cases r<;>cases b5<;>cases td<;>cases s4<;>cases s5<;>rfl
     ·cases b6<;>cases r<;>cases ak<;>cases b7<;>cases td<;>cases s4<;>cases s5<;>rfl
  ·have hb':((!b3)&& !t.bU)=true:=by rw[Bool.and_comm];exact hb
   simp only[hb',dG,jf,cQ,aE,Bool.and_false,lu]
end M
namespace M
open Go.V (inB cC an cJ)
theorem zz{w:ai}(h:w.sz<=1048576):xM w/\(∀p∈w.aT,p.Ops.length<=1048576)/\w.aX.length<=1048576/\(∀s∈w.aX,s.sz<=1048576)/\w.Back.length<=1048576/\w.Notes.length<=1048576:=by
 rw[ai.cT]at h;have h1:=di ar.sz w.aT;have h2:=di ae.sz w.aX;have h3:=di ad.sz w.aC;have h4:=di (fun _=>0) w.Back;have h5:=di az.sz w.Notes;refine⟨⟨by omega,by omega,fun t ht=>?_⟩,fun p hp=>?_,by omega,fun s hs=>?_,by omega,by omega⟩
 ·have:=dX ad.sz _ _ ht;rw[ad.cT]at this;have a:=di (fun _=>0) t.bg;have b:=di (fun _=>0) t.Set;omega
 ·have:=dX ar.sz _ _ hp;rw[ar.cT]at this;have a:=di aw.sz p.Ops;omega
 ·have:=dX ae.sz _ _ hs;omega
def inst(x:Int):Bool:=decide ((1:Int)<=x)&&decide (x<=6)
def str9(s:ae):Bool:=(stB s&&(s.cq.Kind==9))&& !s.cR
noncomputable def kD(w:ai):Bool:=
 ((((oh w.aT&&decide ((w.aX.length:Int)<=4))&&decide ((w.aC.length:Int)<=8))&&(decide ((w.Notes.length:Int)<=120)&&w.Notes.all j9))&&w.aX.all str9)&&
   (((List.range w.aC.length).all fun k=>jB w (w.aC.getD k ad.zero) (k:Int))&&(w.Back.all inst&&fX w.Back))
theorem LZ(n k:Int):decide (k<n)= !decide (n<=k):=by rw[<-hQ];simp only[cP];omega
theorem aat(l:List ae)(hl:l.length<=1048576)(h:∀s∈l,s.sz<=1048576):M.uK l=some (!l.all str9):=by
 have ec:∀s∈l,M.uL s=some (!str9 s):=fun s hs=>by
  unfold M.uL str9;simp only[ae.aG,Z8 s (h s hs),aQ,bf,bn,aE,gn];cases stB s<;>cases (s.cq.Kind==9)<;>cases s.cR<;>rfl
 have e:=jE (p:=fun p=> !str9 p) (F:=M.rq l (l.length:Int)) (e:=()) (fun k=>k) l (by omega) (fun f k hk=>by
  rw[M.rq];simp only[ae.aG,getD_lt hk,ec _ (cn hk),bV,ct,dY,hk,cI,aE,bJ,aD,bN hk (by omega:l.length<2^62),aQ,bf]) (fun f=>by
  rw[M.rq];simp)
 unfold M.uK M.xN;rw[e,tN,jF];cases l.findIdx? (fun p=> !str9 p)<;>simp
theorem aau(w:ai)(hl:w.aX.length<=1048576)(h:∀s∈w.aX,s.sz<=1048576):M.pn w an 0=some (if w.aX.all str9 then .inr w else .inl (false,w.aT,w.aX,w.aC,w.Back,w.Notes)):=
 Eg (p:=str9) (F:=M.pn w) w.aX (by omega) (fun f k hk=>by
  rw[M.pn];simp only[ae.aG,getD_lt hk,Z7 _ (h _ (cn hk)),bV,ct,dY,hk,cI,aE,cQ,bn,bN hk (by omega:w.aX.length<2^62),aQ,bf,gn];unfold str9;cases stB w.aX[k]<;>cases (w.aX[k].cq.Kind==9)<;>cases w.aX[k].cR<;>rfl) (fun f=>by rw[M.pn];simp)
theorem aav{w:ai}(h:xM w):M.po (w.aC.length:Int) w an 0=some (if((List.range w.aC.length).all fun k=>jB w (w.aC.getD k ad.zero) (k:Int))then .inr w else .inl false):=
 lI (F:=M.po (w.aC.length:Int) w) w.aC.length (by have:=h.tasks;omega) (fun f k hk=>by
  rw[M.po];simp only[getD_lt hk,aar h hk,dY,hk,cI,aE,bn,bN hk (by have:=h.tasks;omega:w.aC.length<2^62),aQ,bf];cases jB w w.aC[k] (k:Int)<;>rfl) (fun f=>by rw[M.po];simp)
theorem aaw{w:ai}(h:xM w)(h8:w.aC.length<=8):M.lY an 0 w=some (if((List.range w.aC.length).all fun k=>jB w (w.aC.getD k ad.zero) (k:Int))then .inr w else .inl (false,w.aT,w.aX,w.aC,w.Back,w.Notes)):=
 LU (F:=fun f i=>M.lY f i w) w.aC.length (by omega) (fun f k hk=>by
  show M.lY (f+1) (k:Int) w=_
  rw[M.lY];simp only[getD_lt hk,aas h h8 hk,dY,hk,cI,aE,bn,bN hk (by omega:w.aC.length<2^62),aQ,bf];cases jB w w.aC[k] (k:Int)<;>rfl) (fun f=>by
  show M.lY (f+1) _ w=_
  rw[M.lY];simp)
theorem aax(w:ai)(hl:w.Back.length<=1048576):M.pq w.Back (w.Back.length:Int) w an 0=some (if(w.Back.all inst&&fX w.Back)then .inr ()else .inl false):=by
 have e:=lI (p:=fun k=>inst (w.Back.getD k 0)&&rk w.Back k) (F:=M.pq w.Back (w.Back.length:Int) w) (e:=()) (b:=false) w.Back.length (by omega) (fun f k hk=>by
  rw[M.pq];have r1:=zR w.Back k hk hl;have r2:=zS w.Back.length k (!inst (w.Back.getD k 0)) hk hl;rw[show(decide ((1:Int)<=List.getD w.Back (Int.toNat (k:Int)) 0)&&decide (List.getD w.Back (Int.toNat (k:Int)) 0<=6))=inst (w.Back.getD k 0)from rfl];simp only[bV,r1,r2,ct,dY,hk,cI,aE,bn,bN hk (by omega:w.Back.length<2^62)];cases inst (w.Back.getD k 0)<;>cases rk w.Back k<;>rfl) (fun f=>by rw[M.pq];simp)
 rw[zT (fun k=>inst (w.Back.getD k 0)) (rk w.Back),zU inst,<-xK]at e;exact e
theorem aay(w:ai)(hl:w.Back.length<=1048576):M.pr w an 0=some (if(w.Back.all inst&&fX w.Back)then .inr w else .inl (false,w.aT,w.aX,w.aC,w.Back,w.Notes)):=by
 have e:=LU (p:=fun k=>inst (w.Back.getD k 0)&&rk w.Back k) (F:=M.pr w) (e:=w) (b:=(false,w.aT,w.aX,w.aC,w.Back,w.Notes)) w.Back.length (by omega) (fun f k hk=>by
  rw[M.pr];have r1:=zR w.Back k hk hl;have r2:=zS w.Back.length k (!inst (w.Back.getD k 0)) hk hl;rw[show(decide ((1:Int)<=List.getD w.Back (Int.toNat (k:Int)) 0)&&decide (List.getD w.Back (Int.toNat (k:Int)) 0<=6))=inst (w.Back.getD k 0)from rfl];simp only[bV,r1,r2,ct,dY,hk,cI,aE,cQ,bn,bN hk (by omega:w.Back.length<2^62)];cases inst (w.Back.getD k 0)<;>cases rk w.Back k<;>rfl) (fun f=>by rw[M.pr];simp)
 rw[zT (fun k=>inst (w.Back.getD k 0)) (rk w.Back),zU inst,<-xK]at e;exact e
theorem aaz(w:ai)(hl:w.Notes.length<=1048576):M.pt w an 0=some (if w.Notes.all j9 then .inr (w.aT,w.aX,w.aC,w.Back,w.Notes)else .inl (false,w.aT,w.aX,w.aC,w.Back,w.Notes)):=
 Eg (p:=j9) (F:=M.pt w) w.Notes (by omega) (fun f k hk=>by
  rw[M.pt];simp only[getD_lt hk,bV,ct,dY,hk,cI,aE,cQ,bn,bN hk (by omega:w.Notes.length<2^62)];unfold j9;generalize (decide ((1:Int)<=w.Notes[k].Task)&&decide (w.Notes[k].Task<=8))=b1;generalize (decide ((1:Int)<=w.Notes[k].Kind)&&decide (w.Notes[k].Kind<=9))=b2;cases b1<;>cases b2<;>rfl) (fun f=>by rw[M.pt];simp)
theorem YG(w:ai)(h:w.sz<=1048576):M.uM w=some (kD w):=by
 obtain⟨hw,hp,hs,hs2,hb,hn⟩:=zz h;unfold M.uM kD;simp only[aal _ hw.j5 hp,aam _ hn,aat _ hs hs2,aav hw,aQ,bf,cQ,bn,aE,LZ];generalize oh w.aT=b1;generalize decide ((w.aX.length:Int)<=4)=b2;generalize decide ((w.aC.length:Int)<=8)=b3;generalize (decide ((w.Notes.length:Int)<=120)&&w.Notes.all j9)=b4;cases b1
 ·rfl
 cases b2
 ·rfl
 cases b3
 ·rfl
 cases b4
 ·rfl
 cases w.aX.all str9
 ·rfl
 cases ((List.range w.aC.length).all fun k=>jB w (w.aC.getD k ad.zero) (k:Int))
 ·rfl
 ·simp only[dZ,aax w hb];cases (w.Back.all inst&&fX w.Back)<;>rfl
theorem Y5(w:ai)(h:w.sz<=1048576):M.ru w=some (kD w,w):=by
 obtain⟨hw,hp,hs,hs2,hb,hn⟩:=zz h;have hB:(w.Back.all inst&&fX w.Back)=true->decide ((w.Back.length:Int)<=6)=true:=fun q=>by
  rw[bk]at q;have:=DI q.2 6 (fun x hx=>by
   have:=dW.1 q.1 x hx;unfold inst at this;rw[bk,bC,bC]at this;exact this)
  rw[bC];omega
 have key:M.ru w=some (kD w,w):=by
  unfold M.ru kD;simp only[aak _ hw.j5 hp,aau w hs hs2,aQ,bf,bn,aE,LZ];by_cases h8:w.aC.length<=8
  ·have e8:decide ((w.aC.length:Int)<=8)=true:=by rw[bC];omega
   have et:=aaw hw h8;have eb:=aay w hb;have en:=aaz w hn;rw[e8];generalize oh w.aT=b1;generalize decide ((w.aX.length:Int)<=4)=b2;generalize decide ((w.Notes.length:Int)<=120)=b4;generalize decide ((w.Back.length:Int)<=6)=b5 at hB⊢;generalize (w.Back.all inst&&fX w.Back)=b6 at hB eb⊢;generalize w.Notes.all j9=b7 at en⊢;generalize ((List.range w.aC.length).all fun k=>jB w (w.aC.getD k ad.zero) (k:Int))=b8 at et⊢;cases b1
   ·try rfl
   cases b2
   ·try rfl
   cases b4
   ·cases b5<;>try rfl
   cases b5
   ·have:b6=false:=by
     cases b6
     ·rfl
     ·exact absurd (hB rfl) (by decide)
    rw[this];simp only[Bool.and_false]
    try rfl
   cases w.aX.all str9
   ·simp only[Bool.and_false,lu]
    try rfl
   simp only[dG,kB,aZ,dZ,et];cases b8
   ·simp only[Bool.and_false,lu]
    try rfl
   simp only[dZ,eb];cases b6
   ·simp only[Bool.and_false,lu]
    try rfl
   simp only[dZ,en]
   all_goals (cases b7<;>rfl)
  ·have e8:decide ((w.aC.length:Int)<=8)=false:=by rw[fO];omega
   rw[e8];simp only[fA,jf,cQ,aE,Bool.and_false,lu]
   try rfl
 exact key
end M
