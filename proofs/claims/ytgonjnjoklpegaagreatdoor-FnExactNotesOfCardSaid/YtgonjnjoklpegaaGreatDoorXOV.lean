/-
  Part of the proof of the claim.
-/
import Derived.Test.YtgonjnjoklpegaaGreatDoorXOpl5
import Derived.Test.YtgonjnjoklpegaaGreatDoorXOU
namespace M
theorem Ei{α:Type}[DecidableEq α]:∀(s l:List α),s.Nodup->(∀x∈s,x∈l)->s.length<=l.length
 |[],l,_,_=>by simp
 |a::s,l,hs,h=>by
  rw[uc]at hs;have ha:=h a (D8 ..);have:=Ei s (l.erase a) hs.2 (fun x hx=>by
   have hne:x≠a:=fun q=>hs.1 (q ▸ hx)
   exact(List.mem_erase_of_ne hne).2 (h x (tX _ hx)))
  rw[List.length_erase_of_mem ha]at this;have hp:=List.length_pos_of_mem ha;rw[cV];omega
def fu(l:List Int):Bool:=(List.range l.length).all fun i=>i==0||decide (l.getD (i-1) 0<l.getD i 0)
theorem P2{l:List Int}(h:fu l=true):l.Nodup:=by
 have h1:∀i,i+1<l.length->l.getD i 0<l.getD (i+1) 0:=fun i hi=>by
  have:=dW.1 h (i+1) (nX.2 hi);simpa using this
 have h2:∀d i,i+d+1<l.length->l.getD i 0<l.getD (i+d+1) 0:=fun d=>by
  induction d with
  |zero=>intro i hi;exact h1 i hi
  |succ d ih=>
   intro i hi;have a:=ih i (by omega);have b:=h1 (i+d+1) (by omega);have e:i+(d+1)+1=i+d+1+1:=by omega
   rw[e];omega
 unfold List.Nodup;rw[tV];intro i j hi hj hij;have:=h2 (j-i-1) i (by omega);rw[show i+(j-i-1)+1=j by omega,eK,eK,bL hi,bL hj]at this;simp only[bH]at this;omega
theorem P3{l:List Int}(h:fu l=true)(N:Nat)(hb:∀x∈l,1<=x/\x<=(N:Int)):l.length<=N:=by
 have:=Ei l ((List.range N).map fun i=>((i:Nat):Int)+1) (P2 h) (fun x hx=>by
  have:=hb x hx;rw[zj];exact⟨(x-1).toNat,nX.2 (by omega),by omega⟩)
 rw[Ej,List.length_range]at this;exact this
end M
set_option linter.unusedVariables false
set_option linter.unusedSimpArgs false
namespace M
open Go.V (inB cu al cE)
theorem adP(o:aG):M.nO o=M.kR o:=by
 unfold M.nO M.kR;generalize aG.Kind o=k;generalize aG.A o=a;generalize aG.B o=b;by_cases h:1<=k/\k<=12
 ·have:k=1\/k=2\/k=3\/k=4\/k=5\/k=6\/k=7\/k=8\/k=9\/k=10\/k=11\/k=12:=by omega
  rcases this with rfl|rfl|rfl|rfl|rfl|rfl|rfl|rfl|rfl|rfl|rfl|rfl<;>simp
  all_goals (try (rw[Bool.cond_eq_ite]))
  all_goals split
  all_goals
   congr 1;rw[jd];simp only[bc,fU,eZ,bP,iD,iH,reduceCtorEq,iff_false,gi]at*;omega
 ·have h1:(decide (1<=k)&&decide (k<=12))=false:=by simp;omega
  simp[h1]
theorem adQ(o:aG):∃b,M.kR o=some b:=by
 unfold M.kR;cases (_||_:Bool)<;>simp only[aT,bF]<;>first|exact⟨_,rfl⟩|skip
 cases (_||_:Bool)<;>exact⟨_,rfl⟩
noncomputable def fw(o:aG):Bool:=(M.kR o).getD false
theorem P4(o:aG):M.kR o=some (fw o):=by
 obtain⟨b,hb⟩:=adQ o;unfold fw;rw[hb];rfl
theorem adR(o:aG):M.nO o=some (fw o):=by rw[adP,P4]
theorem adS(p:aD)(hp:p.Ops.length<2^62):M.nI p Go.V.al 0=some (if p.Ops.all fw then .inr ()else .inl false):=by
 have:=oe (F:=M.nI p) (n:=p.Ops.length) (res:=fun k=>some (if(p.Ops.drop k).all fw then .inr ()else .inl false)) hp
  (fun f k hk ih=>by
    rw[M.nI,Ek _ hk];simp only[P4,getD_lt hk,bY,cg,cX,hk,bM hk hp,ih];cases fw p.Ops[k]<;>simp)
  (fun f=>by rw[M.nI];simp)
 simpa using this
theorem adT(p:aD)(hp:p.Ops.length<2^62):M.pX p=some ((decide (1<=p.fp)&&decide (p.fp<=6))&&decide ((p.Ops.length:Int)<=12)&&p.Ops.all fw):=by
 unfold M.pX;rw[adS p hp,show decide (12<(p.Ops.length:Int))= !decide ((p.Ops.length:Int)<=12) by rw[jd];simp];cases decide (1<=p.fp)<;>cases decide (p.fp<=6)<;>cases decide ((p.Ops.length:Int)<=12)<;>cases p.Ops.all fw<;>rfl
theorem adU(s:List aG)(hs:s.length<2^62):M.nP s (s.length:Int) Go.V.al 0=some (match s.findIdx? (fun o=> !fw o)with
 |some j=>.inl (j:Int)
 |none=>.inr ()):=by
 have:=oe (F:=M.nP s (s.length:Int)) (n:=s.length) (res:=fun k=>some (match(s.drop k).findIdx? (fun o=> !fw o)with
  |some j=>.inl ((j+k:Nat):Int)
  |none=>.inr ())) hs
  (fun f k hk ih=>by
    rw[M.nP,jP hk,List.findIdx?_cons];simp only[adR,getD_lt hk,bY,cg,cX,hk,bM hk hs,ih];cases fw s[k]<;>simp;cases h:List.findIdx? (fun o=> !fw o) (List.drop (k+1) s)<;>simp;omega)
  (fun f=>by rw[M.nP];simp)
 simpa using this
theorem adV(s:List aG)(hs:s.length<2^62):M.tu s=some (s.any fun o=> !fw o):=by
 unfold M.tu M.vL;rw[adU s hs];cases h:s.findIdx? (fun o=> !fw o)with
 |none=>
  have:s.any (fun o=> !fw o)=false:=by
   rw[List.findIdx?_eq_none_iff]at h;rw[List.any_eq_false];intro x hx;have:=h x hx;simpa using this
  simp[this]
 |some j=>
  have:s.any (fun o=> !fw o)=true:=by
   rw[List.findIdx?_eq_some_iff_getElem]at h;obtain⟨hj,h1,-⟩:=h;rw[List.any_eq_true];exact⟨s[j],ca hj,h1⟩
  simp[this]
theorem adW(p:aD)(hp:p.Ops.length<2^62):M.qe p=some ((decide (1<=p.fp)&&decide (p.fp<=6))&&decide ((p.Ops.length:Int)<=12)&&p.Ops.all fw):=by
 unfold M.qe;rw[adV _ hp];have:(p.Ops.any fun o=> !fw o)= !p.Ops.all fw:=by rw[List.all_eq_not_any_not];simp
 simp[this]
noncomputable def lg(p:aD):Bool:=((decide (1<=p.fp)&&decide (p.fp<=6))&&decide ((p.Ops.length:Int)<=12))&&p.Ops.all fw
theorem adX(p:aD)(h:p.Ops.length<=1048576):M.pX p=some (lg p):=adT p (by omega)
theorem adY(p:aD)(h:p.Ops.length<=1048576):M.qe p=some (lg p):=adW p (by omega)
noncomputable def qt(l:List aD):Bool:=(decide ((1:Int)<=(l.length:Int))&&decide ((l.length:Int)<=6))&&l.all lg
theorem adZ(l:List aD)(hl:l.length<=1048576)(h:∀p∈l,p.Ops.length<=1048576):M.tn l=some (qt l):=by
 have e:=vV (p:=lg) (F:=M.pY l) (e:=()) (b:=false) l (by omega) (fun f k hk=>by
  rw[M.pY];simp only[getD_lt hk,adX _ (h _ (ca hk)),bY,cg,cX,hk,cz,aT,bU,bX,bM hk (by omega:l.length<2^62),bH,bQ];cases lg l[k]<;>rfl) (fun f=>by rw[M.pY];simp)
 have e1:decide ((l.length:Int)<1)= !decide ((1:Int)<=(l.length:Int)):=by rw[<-ia];simp only[ej];omega
 have e2:decide ((6:Int)<(l.length:Int))= !decide ((l.length:Int)<=6):=by rw[<-ia];simp only[ej];omega
 unfold M.tn qt;rw[e,e1,e2];cases decide ((1:Int)<=(l.length:Int))<;>cases decide ((l.length:Int)<=6)<;>cases l.all lg<;>rfl
theorem ad1(l:List aD)(hl:l.length<=1048576)(h:∀p∈l,p.Ops.length<=1048576):M.tA l=some (qt l):=by
 have e:=i5 (p:=fun p=> !lg p) (F:=M.qf l (l.length:Int)) (e:=()) (fun k=>k) l (by omega) (fun f k hk=>by
  rw[M.qf];have ec:M.tw l[k]=some (!lg l[k]):=by unfold M.tw;rw[adY _ (h _ (ca hk))];rfl
  simp only[getD_lt hk,ec,bY,cg,cX,hk,cz,aT,bU,bX,bM hk (by omega:l.length<2^62),bH,bQ]) (fun f=>by
  rw[M.qf];simp)
 have e2:M.tz l=some (!l.all lg):=by
  unfold M.tz M.vM;rw[e,tW,jA];cases l.findIdx? (fun p=> !lg p)<;>simp
 unfold M.tA qt;rw[e2];simp only[bQ,bH,bZ,cI,aT,Bool.not_not]
def jC(n:ay):Bool:=(decide ((1:Int)<=n.Task)&&decide (n.Task<=8))&&(decide ((1:Int)<=n.Kind)&&decide (n.Kind<=9))
theorem ad2(l:List ay)(hl:l.length<=1048576):M.tD l=some (decide ((l.length:Int)<=120)&&l.all jC):=by
 have ec:∀n,M.tB n=some (!jC n):=fun n=>by unfold M.tB jC;simp only[Bool.not_and]
 have e:=i5 (p:=fun p=> !jC p) (F:=M.qg l (l.length:Int)) (e:=()) (fun k=>k) l (by omega) (fun f k hk=>by
  rw[M.qg];simp only[getD_lt hk,ec,bY,cg,cX,hk,cz,aT,bU,bX,bM hk (by omega:l.length<2^62),bH,bQ]) (fun f=>by
  rw[M.qg];simp)
 have e2:M.tC l=some (!l.all jC):=by
  unfold M.tC M.vN;rw[e,tW,jA];cases l.findIdx? (fun p=> !jC p)<;>simp
 unfold M.tD;rw[e2];simp only[bQ,bH,bZ,cI,aT,Bool.not_not]
theorem Em{α E Y:Type}{p:α->Bool}{F:Nat->Int->Option (Y⊕E)}{e:E}{b:Y}(a:List α)(ha:a.length<2^62)
 (step:∀f k,∀h:k<a.length,F (f+1) (k:Int)=bif p a[k]then F f ((k+1:Nat):Int)else some (.inl b)) (stop:∀f,F (f+1) (a.length:Int)=some (.inr e)):
 F al 0=some (if a.all p then .inr e else .inl b):=by
 have:=oe (F:=F) (n:=a.length) (res:=fun k=>some (if(a.drop k).all p then .inr e else .inl b)) ha (fun f k hk ih=>by
  rw[step f k hk,ih,Ek p hk];cases p a[k]<;>simp) (fun f=>by rw[stop,jQ];rfl)
 simpa using this
theorem P5{E Y:Type}{p:Nat->Bool}{F:Nat->Int->Option (Y⊕E)}{e:E}{b:Y}(n:Nat)(hn:n<2^62)
 (step:∀f k,k<n->F (f+1) (k:Int)=bif p k then F f ((k+1:Nat):Int)else some (.inl b)) (stop:∀f,F (f+1) (n:Int)=some (.inr e)):
 F al 0=some (if(List.range n).all p then .inr e else .inl b):=by
 have:=oe (F:=F) (n:=n) (res:=fun k=>some (if(List.range' k (n-k)).all p then .inr e else .inl b)) hn (fun f k hk ih=>by
  rw[step f k hk,ih];have:List.range' k (n-k)=k::List.range' (k+1) (n-(k+1)):=by
   rw[show n-k=(n-(k+1))+1 by omega];rfl
  rw[this,jc];cases p k
  ·simp
  ·rw[bU];rfl) (fun f=>by rw[stop,qu];rfl)
 rw[this,List.range_eq_range',Nat.sub_zero]
def rk(l:List Int)(i:Nat):Bool:=i==0||decide (l.getD (i-1) 0<l.getD i 0)
theorem vZ(l:List Int):fu l=(List.range l.length).all (rk l):=rfl
theorem ad3(l:List Int)(hl:l.length<=1048576):∀f k,l.length-k<f->1<=k->M.pZ l f (k:Int)=some (if(List.range' k (l.length-k)).all (rk l)then .inr ()else .inl false):=by
 intro f
 induction f with
 |zero=>intro k h;omega
 |succ f ih=>
  intro k h1 h2;rw[M.pZ];rcases cM k l.length with hk|hk
  ·have hw:Go.IntKind.wrap .i64 ((k:Int)-1)=((k-1:Nat):Int):=by rw[wrap_i64 (by omega) (by omega)];omega
   have hk1:k-1<l.length:=by omega
   have hr:List.range' k (l.length-k)=k::List.range' (k+1) (l.length-(k+1)):=by
    rw[show l.length-k=(l.length-(k+1))+1 by omega];rfl
   have hrk:rk l k= !decide (l.getD k 0<=l.getD (k-1) 0):=by
    unfold rk;rw[show(k==0)=false by rw[gZ];omega,nY,<-ia];simp only[ej];omega
   simp only[hw,bY,cg,cX,hk,hk1,cz,aT,cI,bM hk (by omega:l.length<2^62)];rw[ih (k+1) (by omega) (by omega),hr,jc,hrk];cases decide (l.getD k 0<=l.getD (k-1) 0)
   ·rw[iE,bU];rfl
   ·rfl
  ·rw[dw (by omega),bF,show l.length-k=0 by omega];rfl
theorem P6(l:List Int)(hl:l.length<=1048576):M.qa l=some (fu l):=by
 have e:=ad3 l hl al 1 (by have:=cE;omega) (bu _);have e':M.pZ l al 1=_:=e;have h:(List.range l.length).all (rk l)=(List.range' 1 (l.length-1)).all (rk l):=by
  cases hn:l.length with
  |zero=>rfl
  |succ n=>
   rw[List.range_eq_range',show List.range' 0 (n+1)=0::List.range' 1 n from rfl,jc];have:rk l 0=true:=rfl;rw[this,bU,Nat.add_sub_cancel]
 unfold M.qa;rw[e',vZ,h];cases (List.range' 1 (l.length-1)).all (rk l)<;>rfl
theorem zk(l:List Int)(k:Nat)(hk:k<l.length)(hl:l.length<=1048576):((decide ((0:Int)<(k:Int)))&&decide (l.getD k 0<=l.getD (Int.toNat (Go.IntKind.wrap .i64 ((k:Int)-1))) 0))= !rk l k:=by
 unfold rk;by_cases h:k=0
 ·subst h;rfl
 ·have hw:Go.IntKind.wrap .i64 ((k:Int)-1)=((k-1:Nat):Int):=by rw[wrap_i64 (by omega) (by omega)];omega
  rw[hw,bY,cZ (show(0:Int)<(k:Int) by omega),bU,show(k==0)=false by rw[gZ];exact h,nY,<-ia];simp only[ej];omega
theorem zl(n k:Nat)(b:Bool)(hk:k<n)(hl:n<=1048576):(inB (Go.IntKind.wrap .i64 ((k:Int)-1)) n|| !((b==false)&&(decide ((0:Int)<(k:Int))==true)))=true:=by
 by_cases h:k=0
 ·subst h;simp
 ·have hw:Go.IntKind.wrap .i64 ((k:Int)-1)=((k-1:Nat):Int):=by rw[wrap_i64 (by omega) (by omega)];omega
  rw[hw,cg,cZ (by omega),bZ]
end M
namespace M
open Go.V (inB cu al cE)
theorem P7{i:Int}{n:Nat}(h:0<=i/\i<(n:Int)):inB i n=true:=by
 obtain⟨j,rfl⟩:=Hm h.1;rw[cg,bP];omega
def hasB(l:List Int)(v:Int):Bool:=l.any fun x=>v==x
theorem ad4(l:List Int)(v:Int)(hl:l.length<=1048576):M.lX l v=some (hasB l v):=O9 l v (by omega)
theorem ad5(l:List Int)(v:Int)(hl:l.length<=1048576):M.tp l v=some (hasB l v):=by
 have hc:(fun x:Int=>v==x)=fun x=>x==v:=funext fun x=>by rw[jd,iH,iH];exact eq_comm
 have e:=i5 (p:=fun x=>x==v) (F:=M.qb l v) (e:=()) (fun _=>true) l (by omega) (fun f k hk=>by
  rw[M.qb];simp only[getD_lt hk,bY,cg,cX,hk,cz,aT,bX,bM hk (by omega:l.length<2^62)]) (fun f=>by
  rw[M.qb];simp)
 unfold M.tp hasB;rw[e,hc,jA];cases l.findIdx? (fun x=>x==v)<;>rfl
def gK(w:ar)(t:af)(id:Int):Bool:=(decide ((1:Int)<=id)&&decide (id<=(w.aH.length:Int)))&&((w.aH.getD (id-1).toNat af.zero).dI==t.Id)
theorem P8(w:ar)(t:af)(id:Int)(hn:w.aH.length<=1048576):
 ((!(decide ((1:Int)<=id)&&decide (id<=(w.aH.length:Int))))||((w.aH.getD (Int.toNat (Go.IntKind.wrap .i64 (id-1))) af.zero).dI !=t.Id))= !gK w t id/\
 (inB (Go.IntKind.wrap .i64 (id-1)) w.aH.length|| !((!(decide ((1:Int)<=id)&&decide (id<=(w.aH.length:Int))))==false))=true:=by
 unfold gK;by_cases h:1<=id/\id<=(w.aH.length:Int)
 ·have hd:(decide ((1:Int)<=id)&&decide (id<=(w.aH.length:Int)))=true:=by rw[bc,bP,bP];exact h
  have hw:Go.IntKind.wrap .i64 (id-1)=id-1:=wrap_i64 (by omega) (by omega);rw[hd,hw];refine⟨?_,?_⟩
  ·rw[fK,bU,d5,nY]
  ·rw[P7 ⟨by omega,by omega⟩,bZ]
 ·have hd:(decide ((1:Int)<=id)&&decide (id<=(w.aH.length:Int)))=false:=by rw[za,ne_eq,bc,bP,bP];exact h
  rw[hd];exact⟨rfl,by simp⟩
def v7(w:ar)(t:af):Bool:=(t.aZ.all (gK w t)&&fu t.aZ)&&(t.Set.all (hasB t.aZ)&&fu t.Set)
theorem ad6(w:ar)(t:af)(hn:w.aH.length<=1048576)(h1:t.aZ.length<=1048576)(h2:t.Set.length<=1048576):M.tJ w t=some (v7 w t):=by
 have e0:=kX (p:=fun k=>gK w t (t.aZ.getD k 0)&&rk t.aZ k) (F:=M.qi t.aZ (t.aZ.length:Int) w t) (e:=t) (b:=false) t.aZ.length (by omega) (fun f k hk=>by
  rw[M.qi];obtain⟨a1,a2⟩:=P8 w t (t.aZ.getD k 0) hn;have r1:=zk t.aZ k hk h1;have r2:=zl t.aZ.length k (!gK w t (t.aZ.getD k 0)) hk h1;simp only[bY,a1,a2,r1,r2,cg,cX,hk,cz,aT,cI,bM hk (by omega:t.aZ.length<2^62)];cases gK w t (t.aZ.getD k 0)<;>cases rk t.aZ k<;>rfl) (fun f=>by rw[M.qi];simp)
 have e1:=kX (p:=fun k=>hasB t.aZ (t.Set.getD k 0)&&rk t.Set k) (F:=M.qj t.Set (t.Set.length:Int) t) (e:=()) (b:=false) t.Set.length (by omega) (fun f k hk=>by
  rw[M.qj];have r1:=zk t.Set k hk h2;have r2:=zl t.Set.length k (!hasB t.aZ (t.Set.getD k 0)) hk h2;simp only[bY,ad4 _ _ h1,bH,bQ,r1,r2,cg,cX,hk,cz,aT,cI,bM hk (by omega:t.Set.length<2^62)];cases hasB t.aZ (t.Set.getD k 0)<;>cases rk t.Set k<;>rfl) (fun f=>by rw[M.qj];simp)
 rw[zm (fun k=>gK w t (t.aZ.getD k 0)) (rk t.aZ),zn (gK w t),<-vZ]at e0;rw[zm (fun k=>hasB t.aZ (t.Set.getD k 0)) (rk t.Set),zn (hasB t.aZ),<-vZ]at e1;unfold M.tJ v7;rw[e0];cases (t.aZ.all (gK w t)&&fu t.aZ)
 ·rfl
 ·simp only[dC,e1,bU];cases (t.Set.all (hasB t.aZ)&&fu t.Set)<;>rfl
theorem ad7(n:Int)(w:ar)(t:af)(hn:w.aH.length<=1048576)(h1:t.aZ.length<=1048576):M.nK n w t al 0=some (if t.aZ.all (gK w t)then .inr (n,w.bp,w.bS,w.aH,w.Back,w.Notes,t)else .inl (false,w.bp,w.bS,w.aH,w.Back,w.Notes)):=
 Em (p:=gK w t) (F:=M.nK n w t) t.aZ (by omega) (fun f k hk=>by
  rw[M.nK];obtain⟨a1,a2⟩:=P8 w t t.aZ[k] hn;simp only[bY,getD_lt hk,a1,a2,cg,cX,hk,cz,aT,cI,bZ,bM hk (by omega:t.aZ.length<2^62)];cases gK w t t.aZ[k]<;>rfl) (fun f=>by rw[M.nK];simp)
theorem ad8(n:Int)(t:af)(h1:t.aZ.length<=1048576)(h2:t.Set.length<=1048576):M.nL n t al 0=some (if t.Set.all (hasB t.aZ)then .inr (n,t)else .inl false):=
 vV (p:=hasB t.aZ) (F:=M.nL n t) t.Set (by omega) (fun f k hk=>by
  rw[M.nL];simp only[bY,getD_lt hk,ad5 _ _ h1,bH,bQ,cg,cX,hk,cz,aT,cI,bM hk (by omega:t.Set.length<2^62)];cases hasB t.aZ t.Set[k]<;>rfl) (fun f=>by rw[M.nL];simp)
theorem ad9{w:ar}{t:af}(h8:w.aH.length<=8)(h:t.aZ.all (gK w t)=true)(hr:fu t.aZ=true):t.aZ.length<=8:=by
 refine P3 hr 8 fun x hx=>?_
 have:=dW.1 h x hx;unfold gK at this;simp only[bc,bP]at this;omega
theorem aea{t:af}(h:t.Set.all (hasB t.aZ)=true)(hr:fu t.Set=true):t.Set.length<=t.aZ.length:=by
 refine Ei _ _ (P2 hr) fun x hx=>?_
 have:=dW.1 h x hx;unfold hasB at this;rw[List.any_eq_true]at this;obtain⟨y,hy,e⟩:=this;rw[iH]at e;rw[e];exact hy
theorem aeb{n:Nat}(h:n<=1048576):Go.IntKind.wrap .i64 ((n:Int)-1)=(n:Int)-1:=wrap_i64 (by omega) (by omega)
def qw(w:ar)(t:af)(k:Int):Bool:=((((t.Id !=(Go.IntKind.wrap .i64 (k+1)))||(!(decide ((0:Int)<=t.Prog)&&decide (t.Prog<=(Go.IntKind.wrap .i64 ((w.bp.length:Int)-1))))))||(!(decide ((0:Int)<=t.dI)&&decide (t.dI<=(Go.IntKind.wrap .i64 (t.Id-1))))))||(!(decide ((1:Int)<=t.Status)&&decide (t.Status<=5))))
def En(n:Int)(t:af):Bool:=(!(t.Told&& !((t.cJ||(t.Status==4))||(t.Status==5))))&&(bif t.Status==1 then(((t.PC==0)&&((t.aZ.length:Int)==0))&& !t.cJ)&& !t.Asked else bif t.Status==3 then t.cJ&&(t.PC==n)else(!(t.Status==4))|| !t.cJ)
def zo(w:ar)(t:af):Int:=((w.bp.getD t.Prog.toNat aD.zero).Ops.length:Int)
def j4(w:ar)(t:af)(k:Int):Bool:=((((!qw w t k)&&(decide ((0:Int)<=t.Result)&&decide (t.Result<=999)))&& !((!(t.Result==0))&& !t.cJ))&&((decide ((0:Int)<=t.PC)&&decide (t.PC<=zo w t))&&v7 w t))&&En (zo w t) t
theorem P9{w:ar}{t:af}{k:Int}(hp:w.bp.length<=1048576)(h:qw w t k=false):inB t.Prog w.bp.length=true:=by
 unfold qw at h;rw[aeb hp]at h;simp only[vX,Bool.not_eq_false',bc,bP]at h;exact P7 ⟨h.1.1.2.1,by omega⟩
end M
namespace M
open Go.V (inB cu al cE)
structure v8 (w:ar):Prop where
 nS:w.bp.length<=1048576
 tasks:w.aH.length<=1048576
 subs:∀t∈w.aH,t.aZ.length<=1048576/\t.Set.length<=1048576
theorem aec{w:ar}(h:v8 w){k:Nat}(hk:k<w.aH.length):M.tK w (k:Int)=some (j4 w w.aH[k] (k:Int)):=by
 have hs:=h.subs _ (ca hk);unfold M.tK;simp only[bY,getD_lt hk,cg,hk,cz];generalize w.aH[k]=t at hs⊢;have hh:=P9 (w:=w) (t:=t) (k:=(k:Int)) h.nS;simp only[ad6 w t h.tasks hs.1 hs.2];rw[show(((((t.Id !=(Go.IntKind.wrap .i64 ((k:Int)+1)))||(!(decide ((0:Int)<=t.Prog)&&decide (t.Prog<=(Go.IntKind.wrap .i64 ((w.bp.length:Int)-1))))))||(!(decide ((0:Int)<=t.dI)&&decide (t.dI<=(Go.IntKind.wrap .i64 (t.Id-1))))))||(!(decide ((1:Int)<=t.Status)&&decide (t.Status<=5)))))=qw w t (k:Int)from rfl];unfold j4;cases hn:qw w t (k:Int)with
 |true=>rfl
 |false=>
  simp only[hh hn,fK,bQ,bH,bZ,cI,bF,aT,iE,bU];unfold En zo;generalize (decide ((0:Int)<=t.PC)&&decide (t.PC<=((w.bp.getD t.Prog.toNat aD.zero).Ops.length:Int)))=b1;generalize (decide ((0:Int)<=t.Result)&&decide (t.Result<=999))=b2;generalize (t.Result==0)=b3;generalize v7 w t=b4;generalize (t.PC==((w.bp.getD t.Prog.toNat aD.zero).Ops.length:Int))=b5;generalize (t.PC==0)=b6;generalize ((t.aZ.length:Int)==0)=b7;generalize (t.Status==1)=s1;generalize (t.Status==3)=s3;generalize (t.Status==4)=s4;generalize (t.Status==5)=s5;cases b1
  ·cases b2<;>cases b3<;>cases t.cJ<;>rfl
  cases b2
  ·cases b3<;>cases t.cJ<;>rfl
  cases b4
  ·cases b3<;>cases t.cJ<;>rfl
  cases hb:((!b3)&& !t.cJ)
  ·simp only[hb,d5,fO,bF,iE,cI,bU,aT];cases (t.Told&& !((t.cJ||s4)||s5))
   ·cases s1
    ·cases s3<;>rfl
    ·rfl
   ·rfl
  ·simp only[hb,d5,jg,bZ,aT,Bool.and_false,od]
theorem aed{w:ar}(h:v8 w)(h8:w.aH.length<=8){k:Nat}(hk:k<w.aH.length):M.tr (k:Int) w=some (j4 w w.aH[k] (k:Int),w):=by
 have hs:=h.subs _ (ca hk);unfold M.tr;simp only[bY,getD_lt hk,cg,hk,cz];generalize w.aH[k]=t at hs⊢;have hh:=P9 (w:=w) (t:=t) (k:=(k:Int)) h.nS;have hS:=ad9 (w:=w) (t:=t) h8;have hT:=aea (t:=t);simp only[ad7 _ w t h.tasks hs.1,P6 t.aZ hs.1,P6 t.Set hs.2];rw[show(((((t.Id !=(Go.IntKind.wrap .i64 ((k:Int)+1)))||(!(decide ((0:Int)<=t.Prog)&&decide (t.Prog<=(Go.IntKind.wrap .i64 ((w.bp.length:Int)-1))))))||(!(decide ((0:Int)<=t.dI)&&decide (t.dI<=(Go.IntKind.wrap .i64 (t.Id-1))))))||(!(decide ((1:Int)<=t.Status)&&decide (t.Status<=5)))))=qw w t (k:Int)from rfl];unfold j4;cases hn:qw w t (k:Int)with
 |true=>rfl
 |false=>
  simp only[hh hn,fK,bQ,bH,bZ,cI,bF,aT,iE,bU,nY];unfold En zo v7;have hL1:(t.aZ.all (gK w t)&&fu t.aZ)=true->decide ((8:Int)<(t.aZ.length:Int))=false:=fun q=>by
   rw[bc]at q;have:=hS q.1 q.2;rw[iD];omega
  have hL2:(t.Set.all (hasB t.aZ)&&fu t.Set)=true->decide ((t.aZ.length:Int)<(t.Set.length:Int))=false:=fun q=>by
   rw[bc]at q;have:=hT q.1 q.2;rw[iD];omega
  have hz:decide ((0:Int)<(t.aZ.length:Int))= !((t.aZ.length:Int)==0):=by
   rw[jd];simp only[bP,eZ,gZ];omega
  have e1:=fun n=>ad8 n t hs.1 hs.2
  generalize decide ((8:Int)<(t.aZ.length:Int))=L1 at hL1⊢;generalize decide ((t.aZ.length:Int)<(t.Set.length:Int))=L2 at hL2⊢;generalize (decide ((0:Int)<=t.PC)&&decide (t.PC<=((w.bp.getD t.Prog.toNat aD.zero).Ops.length:Int)))=b1;generalize (decide ((0:Int)<=t.Result)&&decide (t.Result<=999))=b2;generalize (t.Result==0)=b3;generalize t.aZ.all (gK w t)=A at hL1⊢;generalize fu t.aZ=R1 at hL1⊢;generalize t.Set.all (hasB t.aZ)=H at hL2 e1⊢;generalize fu t.Set=R2 at hL2⊢;cases b2
  ·cases b3<;>cases t.cJ<;>cases b1<;>rfl
  cases hb:((!t.cJ)&& !b3)
  ·have hb':((!b3)&& !t.cJ)=false:=by rw[Bool.and_comm];exact hb
   simp only[hb',d5,fO,bF,iE,cI,bU,bX];cases b1
   ·rfl
   cases hA:(A&&R1)
   ·cases L1
    ·cases L2
     ·cases R1
      ·rfl
      ·cases A
       ·cases R2<;>rfl
       ·cases hA
     ·simp
    ·simp
   ·rw[hL1 hA];rw[bc]at hA;rw[hA.1,hA.2];cases hH:(H&&R2)
    ·cases L2
     ·cases R2
      ·rfl
      ·cases H
       ·simp only[dC,e1,d5,fO,bF];rfl
       ·cases hH
     ·simp
    ·rw[hL2 hH];rw[bc]at hH;rw[hH.1]at e1;rw[hH.2];simp only[e1,d5,fO,bF,dC,bZ,cI,aT,bU,hz];generalize ((t.aZ.length:Int)==0)=b7;generalize (t.PC==((w.bp.getD t.Prog.toNat aD.zero).Ops.length:Int))=b5;generalize (t.PC==0)=b6;generalize (t.Status==1)=s1;generalize (t.Status==3)=s3;generalize (t.Status==4)=s4;generalize (t.Status==5)=s5;generalize t.cJ=r;generalize t.Told=td;generalize t.Asked=ak;cases s1
     ·cases s3
      ·cases s4
       ·cases r<;>cases td<;>cases s5<;>rfl
       ·cases r<;>cases td<;>rfl
      ·cases r<;>cases b5<;>cases td<;>cases s4<;>cases s5<;>rfl
     ·cases b6<;>cases r<;>cases ak<;>cases b7<;>cases td<;>cases s4<;>cases s5<;>rfl
  ·have hb':((!b3)&& !t.cJ)=true:=by rw[Bool.and_comm];exact hb
   simp only[hb',d5,jg,bZ,aT,Bool.and_false,od]
end M
namespace M
open Go.V (inB cu al cE)
theorem Qa{w:ar}(h:w.sz<=1048576):v8 w/\(∀p∈w.bp,p.Ops.length<=1048576)/\w.bS.length<=1048576/\(∀s∈w.bS,s.sz<=1048576)/\w.Back.length<=1048576/\w.Notes.length<=1048576:=by
 rw[ar.cy]at h;have h1:=da aD.sz w.bp;have h2:=da ah.sz w.bS;have h3:=da af.sz w.aH;have h4:=da (fun _=>0) w.Back;have h5:=da ay.sz w.Notes;refine⟨⟨by omega,by omega,fun t ht=>?_⟩,fun p hp=>?_,by omega,fun s hs=>?_,by omega,by omega⟩
 ·have:=dQ af.sz _ _ ht;rw[af.cy]at this;have a:=da (fun _=>0) t.aZ;have b:=da (fun _=>0) t.Set;omega
 ·have:=dQ aD.sz _ _ hp;rw[aD.cy]at this;have a:=da aG.sz p.Ops;omega
 ·have:=dQ ah.sz _ _ hs;omega
def inst(x:Int):Bool:=decide ((1:Int)<=x)&&decide (x<=6)
def str9(s:ah):Bool:=(stB s&&(s.bR.Kind==9))&& !s.db
noncomputable def lN(w:ar):Bool:=
 ((((qt w.bp&&decide ((w.bS.length:Int)<=4))&&decide ((w.aH.length:Int)<=8))&&(decide ((w.Notes.length:Int)<=120)&&w.Notes.all jC))&&w.bS.all str9)&&
   (((List.range w.aH.length).all fun k=>j4 w (w.aH.getD k af.zero) (k:Int))&&(w.Back.all inst&&fu w.Back))
theorem Qb(n k:Int):decide (k<n)= !decide (n<=k):=by rw[<-ia];simp only[ej];omega
theorem aee(l:List ah)(hl:l.length<=1048576)(h:∀s∈l,s.sz<=1048576):M.tH l=some (!l.all str9):=by
 have ec:∀s∈l,M.tG s=some (!str9 s):=fun s hs=>by
  unfold M.tG str9;simp only[ah.aE,adO s (h s hs),bH,bQ,cI,aT,fK];cases stB s<;>cases (s.bR.Kind==9)<;>cases s.db<;>rfl
 have e:=i5 (p:=fun p=> !str9 p) (F:=M.qh l (l.length:Int)) (e:=()) (fun k=>k) l (by omega) (fun f k hk=>by
  rw[M.qh];simp only[ah.aE,getD_lt hk,ec _ (ca hk),bY,cg,cX,hk,cz,aT,bU,bX,bM hk (by omega:l.length<2^62),bH,bQ]) (fun f=>by
  rw[M.qh];simp)
 unfold M.tH M.vO;rw[e,tW,jA];cases l.findIdx? (fun p=> !str9 p)<;>simp
theorem aef(w:ar)(hl:w.bS.length<=1048576)(h:∀s∈w.bS,s.sz<=1048576):M.nJ w al 0=some (if w.bS.all str9 then .inr w else .inl (false,w.bp,w.bS,w.aH,w.Back,w.Notes)):=
 Em (p:=str9) (F:=M.nJ w) w.bS (by omega) (fun f k hk=>by
  rw[M.nJ];simp only[ah.aE,getD_lt hk,adN _ (h _ (ca hk)),bY,cg,cX,hk,cz,aT,bZ,cI,bM hk (by omega:w.bS.length<2^62),bH,bQ,fK];unfold str9;cases stB w.bS[k]<;>cases (w.bS[k].bR.Kind==9)<;>cases w.bS[k].db<;>rfl) (fun f=>by rw[M.nJ];simp)
theorem aeg{w:ar}(h:v8 w):M.nQ (w.aH.length:Int) w al 0=some (if((List.range w.aH.length).all fun k=>j4 w (w.aH.getD k af.zero) (k:Int))then .inr w else .inl false):=
 kX (F:=M.nQ (w.aH.length:Int) w) w.aH.length (by have:=h.tasks;omega) (fun f k hk=>by
  rw[M.nQ];simp only[getD_lt hk,aec h hk,cX,hk,cz,aT,cI,bM hk (by have:=h.tasks;omega:w.aH.length<2^62),bH,bQ];cases j4 w w.aH[k] (k:Int)<;>rfl) (fun f=>by rw[M.nQ];simp)
theorem aeh{w:ar}(h:v8 w)(h8:w.aH.length<=8):M.kS al 0 w=some (if((List.range w.aH.length).all fun k=>j4 w (w.aH.getD k af.zero) (k:Int))then .inr w else .inl (false,w.bp,w.bS,w.aH,w.Back,w.Notes)):=
 P5 (F:=fun f i=>M.kS f i w) w.aH.length (by omega) (fun f k hk=>by
  show M.kS (f+1) (k:Int) w=_
  rw[M.kS];simp only[getD_lt hk,aed h h8 hk,cX,hk,cz,aT,cI,bM hk (by omega:w.aH.length<2^62),bH,bQ];cases j4 w w.aH[k] (k:Int)<;>rfl) (fun f=>by
  show M.kS (f+1) _ w=_
  rw[M.kS];simp)
theorem aei(w:ar)(hl:w.Back.length<=1048576):M.nR w.Back (w.Back.length:Int) w al 0=some (if(w.Back.all inst&&fu w.Back)then .inr ()else .inl false):=by
 have e:=kX (p:=fun k=>inst (w.Back.getD k 0)&&rk w.Back k) (F:=M.nR w.Back (w.Back.length:Int) w) (e:=()) (b:=false) w.Back.length (by omega) (fun f k hk=>by
  rw[M.nR];have r1:=zk w.Back k hk hl;have r2:=zl w.Back.length k (!inst (w.Back.getD k 0)) hk hl;rw[show(decide ((1:Int)<=List.getD w.Back (Int.toNat (k:Int)) 0)&&decide (List.getD w.Back (Int.toNat (k:Int)) 0<=6))=inst (w.Back.getD k 0)from rfl];simp only[bY,r1,r2,cg,cX,hk,cz,aT,cI,bM hk (by omega:w.Back.length<2^62)];cases inst (w.Back.getD k 0)<;>cases rk w.Back k<;>rfl) (fun f=>by rw[M.nR];simp)
 rw[zm (fun k=>inst (w.Back.getD k 0)) (rk w.Back),zn inst,<-vZ]at e;exact e
theorem aej(w:ar)(hl:w.Back.length<=1048576):M.nM w al 0=some (if(w.Back.all inst&&fu w.Back)then .inr w else .inl (false,w.bp,w.bS,w.aH,w.Back,w.Notes)):=by
 have e:=P5 (p:=fun k=>inst (w.Back.getD k 0)&&rk w.Back k) (F:=M.nM w) (e:=w) (b:=(false,w.bp,w.bS,w.aH,w.Back,w.Notes)) w.Back.length (by omega) (fun f k hk=>by
  rw[M.nM];have r1:=zk w.Back k hk hl;have r2:=zl w.Back.length k (!inst (w.Back.getD k 0)) hk hl;rw[show(decide ((1:Int)<=List.getD w.Back (Int.toNat (k:Int)) 0)&&decide (List.getD w.Back (Int.toNat (k:Int)) 0<=6))=inst (w.Back.getD k 0)from rfl];simp only[bY,r1,r2,cg,cX,hk,cz,aT,bZ,cI,bM hk (by omega:w.Back.length<2^62)];cases inst (w.Back.getD k 0)<;>cases rk w.Back k<;>rfl) (fun f=>by rw[M.nM];simp)
 rw[zm (fun k=>inst (w.Back.getD k 0)) (rk w.Back),zn inst,<-vZ]at e;exact e
theorem aek(w:ar)(hl:w.Notes.length<=1048576):M.nN w al 0=some (if w.Notes.all jC then .inr (w.bp,w.bS,w.aH,w.Back,w.Notes)else .inl (false,w.bp,w.bS,w.aH,w.Back,w.Notes)):=
 Em (p:=jC) (F:=M.nN w) w.Notes (by omega) (fun f k hk=>by
  rw[M.nN];simp only[getD_lt hk,bY,cg,cX,hk,cz,aT,bZ,cI,bM hk (by omega:w.Notes.length<2^62)];unfold jC;generalize (decide ((1:Int)<=w.Notes[k].Task)&&decide (w.Notes[k].Task<=8))=b1;generalize (decide ((1:Int)<=w.Notes[k].Kind)&&decide (w.Notes[k].Kind<=9))=b2;cases b1<;>cases b2<;>rfl) (fun f=>by rw[M.nN];simp)
theorem UW(w:ar)(h:w.sz<=1048576):M.tM w=some (lN w):=by
 obtain⟨hw,hp,hs,hs2,hb,hn⟩:=Qa h;unfold M.tM lN;simp only[ad1 _ hw.nS hp,ad2 _ hn,aee _ hs hs2,aeg hw,bH,bQ,bZ,cI,aT,Qb];generalize qt w.bp=b1;generalize decide ((w.bS.length:Int)<=4)=b2;generalize decide ((w.aH.length:Int)<=8)=b3;generalize (decide ((w.Notes.length:Int)<=120)&&w.Notes.all jC)=b4;cases b1
 ·rfl
 cases b2
 ·rfl
 cases b3
 ·rfl
 cases b4
 ·rfl
 cases w.bS.all str9
 ·rfl
 cases ((List.range w.aH.length).all fun k=>j4 w (w.aH.getD k af.zero) (k:Int))
 ·rfl
 ·simp only[dC,aei w hb];cases (w.Back.all inst&&fu w.Back)<;>rfl
theorem UZ(w:ar)(h:w.sz<=1048576):M.qd w=some (lN w,w):=by
 obtain⟨hw,hp,hs,hs2,hb,hn⟩:=Qa h;have hB:(w.Back.all inst&&fu w.Back)=true->decide ((w.Back.length:Int)<=6)=true:=fun q=>by
  rw[bc]at q;have:=P3 q.2 6 (fun x hx=>by
   have:=dW.1 q.1 x hx;unfold inst at this;rw[bc,bP,bP]at this;exact this)
  rw[bP];omega
 have key:M.qd w=some (lN w,w):=by
  unfold M.qd lN;simp only[adZ _ hw.nS hp,aef w hs hs2,bH,bQ,cI,aT,Qb];by_cases h8:w.aH.length<=8
  ·have e8:decide ((w.aH.length:Int)<=8)=true:=by rw[bP];omega
   have et:=aeh hw h8;have eb:=aej w hb;have en:=aek w hn;rw[e8];generalize qt w.bp=b1;generalize decide ((w.bS.length:Int)<=4)=b2;generalize decide ((w.Notes.length:Int)<=120)=b4;generalize decide ((w.Back.length:Int)<=6)=b5 at hB⊢;generalize (w.Back.all inst&&fu w.Back)=b6 at hB eb⊢;generalize w.Notes.all jC=b7 at en⊢;generalize ((List.range w.aH.length).all fun k=>j4 w (w.aH.getD k af.zero) (k:Int))=b8 at et⊢;cases b1
   ·try rfl
   cases b2
   ·try rfl
   cases b4
   ·cases b5<;>try rfl
   cases b5
   ·have:b6=false:=by
     cases b6
     ·rfl
     ·exact absurd (hB rfl) (by decide)
    rw[this];simp only[Bool.and_false]
    try rfl
   cases w.bS.all str9
   ·simp only[Bool.and_false,od]
    try rfl
   simp only[d5,fO,bF,dC,et];cases b8
   ·simp only[Bool.and_false,od]
    try rfl
   simp only[dC,eb];cases b6
   ·simp only[Bool.and_false,od]
    try rfl
   simp only[dC,en]
   all_goals (cases b7<;>rfl)
  ·have e8:decide ((w.aH.length:Int)<=8)=false:=by rw[iD];omega
   rw[e8];simp only[iE,jg,bZ,aT,Bool.and_false,od]
   try rfl
 exact key
end M
