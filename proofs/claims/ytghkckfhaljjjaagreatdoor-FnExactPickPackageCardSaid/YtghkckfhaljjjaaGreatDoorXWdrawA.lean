/-
  A REGION WHOSE ORDER IS LEFT OPEN: none of its operations turns an object; each is read with no more than what comes ahead of it in every order; so the order does not matter.
-/
import Derived.Test.YtghkckfhaljjjaaGreatDoorXWregA
set_option linter.unusedVariables false
namespace Go.V
open Go
variable {K :dh}{ρ ρ':List Value}{S S':Nat->Prop}{w w':World}{H H':List (Ob K)}
def OX(L:List Oper)(t:Nat):Prop:=∀(k:Nat) o,L[k]?=some o->o.dst≠some t
theorem Jq{bits:Nat}:∀(L:List Oper)(i:Nat)(tm:List (AV K))(t:Nat)(v:AV K),(eO bits L i tm)[t]?=some v->v≠.any->
 tm[t]?=some v/\∀(k:Nat) o,L[k]?=some o->o.dst=some t->bits.testBit (i+k)=true
 |[],i,tm,t,v,h,_=>⟨h,fun k o ho=>by simp at ho⟩
 |o::r,i,tm,t,v,h,hv=>by
  simp only[eO]at h;obtain⟨h1,h2⟩:=Jq r (i+1) _ t v h hv;have hrest:∀(k:Nat) o',(o::r)[k]?=some o'->o'.dst=some t->k≠0->bits.testBit (i+k)=true:=fun k o' ho' hd hk=>by
   obtain⟨k',rfl⟩:=Nat.exists_eq_succ_of_ne_zero hk;have:=h2 k' o' (by simpa using ho') hd;rw[show i+(k'+1)=i+1+k' by omega];exact this
  split at h1
  ·rename_i d hd;split at h1
   ·rename_i hb;refine⟨h1,fun k o' ho' hd'=>?_⟩;by_cases hk:k=0
    ·subst hk;simpa using hb
    ·exact hrest k o' ho' hd' hk
   ·rename_i hb;rcases fj h1 with⟨rfl,rfl,-⟩|⟨hne,h1⟩
    ·exact absurd rfl hv
    ·refine⟨h1,fun k o' ho' hd'=>?_⟩;by_cases hk:k=0
     ·subst hk;simp at ho';subst ho';rw[hd]at hd';simp at hd';exact absurd hd'.symm hne
     ·exact hrest k o' ho' hd' hk
  ·rename_i hd;refine⟨h1,fun k o' ho' hd'=>?_⟩;by_cases hk:k=0
   ·subst hk;simp at ho';subst ho';rw[hd]at hd';cases hd'
   ·exact hrest k o' ho' hd' hk
theorem Jr{bits:Nat}:∀(L:List Oper)(i:Nat)(tm:List (AV K)),(eO bits L i tm).length=tm.length
 |[],i,tm=>rfl
 |o::r,i,tm=>by
  simp only[eO];rw[Jr r];split
  ·split<;>simp
  ·rfl
theorem OY{i:Nat}:∀(bs:List Nat)(k0 k:Nat),(yY i k0 bs).testBit k=true->∃j:Nat,k=k0+j/\((bs[j]?).getD 0).testBit i=true
 |[],k0,k,h=>by simp[yY]at h
 |b::r,k0,k,h=>by
  simp only[yY,wq,ej]at h;rcases h with h|h
  ·cases hb:b.testBit i with
   |false=>rw[hb]at h;simp at h
   |true=>
    rw[hb]at h;simp only[ae,Nat.testBit_two_pow,bB]at h;exact⟨0,by omega,by simpa using hb⟩
  ·obtain⟨j,h1,h2⟩:=OY r (k0+1) k h;exact⟨j+1,by omega,by simpa using h2⟩
theorem OZ{bs:List Nat}{i k:Nat}(h:(fe bs i).testBit k=true):(bs.getD i 0).testBit k=true\/(bs.getD k 0).testBit i=true:=by
 simp only[fe,wq,ej]at h;rcases h with h|h
 ·exact .inl h
 ·obtain⟨j,h1,h2⟩:=OY _ _ _ h;rw[jq]at h1;subst h1;right;rw[gn];exact h2
theorem Js:∀(L:List Oper)(acc:List Nat)(i:Nat),i<acc.length->(iF L acc).getD i 0=acc.getD i 0
 |[],acc,i,_=>rfl
 |o::r,acc,i,h=>by
  simp only[iF];rw[Js r _ i (by simp;omega)];simp only[gn];rw[b9 h]
theorem O0{acc:List Nat}{k:Nat}:∀(es:List Edge)(s:Nat),(es.foldl (fun s e=>s|||2^e.on|||acc.getD e.on 0) s).testBit k=true->s.testBit k=true\/∃e∈es,k=e.on\/(acc.getD e.on 0).testBit k=true
 |[],s,h=>.inl h
 |e::r,s,h=>by
  rcases O0 r _ h with h|⟨e',he',h⟩
  ·simp only[wq,ej]at h;rcases h with(h|h)|h
   ·exact .inl h
   ·rw[Nat.testBit_two_pow]at h;exact .inr ⟨e,by simp,.inl (by simpa using h.symm:e.on=k).symm⟩
   ·exact .inr ⟨e,by simp,.inr h⟩
  ·exact .inr ⟨e',by simp[he'],h⟩
theorem O1:∀(L:List Oper)(acc:List Nat)(j:Nat)(o:Oper),L[j]?=some o->jV L acc.length=true->
 ∀k,((iF L acc).getD (acc.length+j) 0).testBit k=true->∃e∈o.after,k=e.on\/((iF L acc).getD e.on 0).testBit k=true
 |[],acc,j,o,h,_,k,_=>by simp at h
 |x::r,acc,0,o,h,he,k,hk=>by
  simp at h;subst h;simp only[iF]at hk⊢;rw[Js r _ _ (by simp)]at hk;simp only[gn,Nat.add_zero]at hk;rw[eR (fh _)]at hk;simp only[Dx,List.getElem?_cons_zero,ay]at hk;simp only[jV,cG,fN,bB]at he;rcases O0 x.after.toList 0 (by simpa only[gn]using hk)with h|⟨e,h1,h2⟩
  ·simp at h
  ·refine⟨e,by simpa using h1,h2.imp id fun h=>?_⟩;rw[Js r _ _ (by have:=(he.1 e h1).1;simp;omega)];rw[gn,b9 (he.1 e h1).1,<-gn];exact h
 |x::r,acc,j+1,o,h,he,k,hk=>by
  simp only[iF]at hk⊢;simp only[jV,cG]at he;have:=O1 r (acc++[x.after.toList.foldl (fun s e=>s|||2^e.on|||acc.getD e.on 0) 0]) j o (by simpa using h) (by simpa using he.2) k (by
   rw[show acc.length+(j+1)=(acc++[x.after.toList.foldl (fun s e=>s|||2^e.on|||acc.getD e.on 0) 0]).length+j by simp;omega]at hk;exact hk)
  exact this
theorem zb:∀(L:List Oper)(n i:Nat)(o:Oper),jV L n=true->L[i]?=some o->∀e∈o.after,e.on<n+i/\Region.binds .any e=true
 |[],n,i,o,_,h=>by simp at h
 |x::r,n,0,o,h,ho=>by
  simp at ho;subst ho;simp only[jV,cG,fN,bB]at h;intro e he;exact h.1 e (by simpa using he)
 |x::r,n,i+1,o,h,ho=>by
  simp only[jV,cG]at h;intro e he;have:=zb r (n+1) i o h.2 (by simpa using ho) e he;exact⟨by omega,this.2⟩
theorem rN{L:List Oper}(he:jV L 0=true){T:Nat->Prop}(hT:∀(i:Nat) o,L[i]?=some o->T i->∀e∈o.after,T e.on):
 ∀(i:Nat)(o:Oper),L[i]?=some o->(∀e∈o.after,T e.on)->∀k,((iF L []).getD i 0).testBit k=true->T k/\k<i:=by
 intro i
 induction i using Nat.strongRecOn with
 |_ i ih=>
  intro o ho hoe k hk;obtain⟨e,h1,h2⟩:=O1 L [] i o ho he k (by simpa using hk);have hlt:=(zb L 0 i o he ho e h1).1;rw[jq]at hlt;rcases h2 with rfl|h2
  ·exact⟨hoe e h1,hlt⟩
  ·have hi:i<L.length:=(bD.1 ho).1;have hg:=cH (show e.on<L.length by omega);obtain⟨a,b⟩:=ih e.on hlt _ hg (hT e.on _ hg (hoe e h1)) k h2;exact⟨a,by omega⟩
structure DL (cx:Cx K) (L:List Oper) (bs:List Nat) (H:List (Ob K)) (bY ff:List (AV K)) (vals:Nat->AV K):Prop where
 len:ff.length=bY.length
 uniq:∀(i j:Nat) o o' d,L[i]?=some o->L[j]?=some o'->o.dst=some d->o'.dst=some d->i=j
 inb:∀(i:Nat) o d,L[i]?=some o->o.dst=some d->d<bY.length
 fin:∀(i:Nat) o d,L[i]?=some o->o.dst=some d->ff[d]?=some (vals i)
 rest:∀t,OX L t->ff[t]?=bY[t]?
 slot:∀(i:Nat) o,L[i]?=some o->∃di dU H1,iM true cx L (eO (fe bs i) L 0 di) H dU o=some (vals i,H1,true)/\di.length=bY.length/\
  (∀(k:Nat) o' d,L[k]?=some o'->o'.dst=some d->k<i->di[d]?=some (vals k))/\(∀t,(∀(k:Nat) o,k<i->L[k]?=some o->o.dst≠some t)->di[t]?=bY[t]?)/\∀d∈dU,∃(k:Nat)(o':Oper),k<i/\L[k]?=some o'/\o'.dst=some d
structure O2 (cx:Cx K) (L:List Oper) (bs:List Nat) (H:List (Ob K)) (bY:List (AV K)) (vals:Nat->AV K) (n:Nat) (tm:List (AV K)) (wr:List Nat):Prop where
 len:tm.length=bY.length
 uniq:∀(i j:Nat) o o' d,i<n->j<n->L[i]?=some o->L[j]?=some o'->o.dst=some d->o'.dst=some d->i=j
 inb:∀(i:Nat) o d,i<n->L[i]?=some o->o.dst=some d->d<bY.length
 fin:∀(i:Nat) o d,i<n->L[i]?=some o->o.dst=some d->tm[d]?=some (vals i)
 rest:∀t,(∀(k:Nat) o,k<n->L[k]?=some o->o.dst≠some t)->tm[t]?=bY[t]?
 mr:∀d,d∈wr↔∃(k:Nat)(o':Oper),k<n/\L[k]?=some o'/\o'.dst=some d
 slot:∀(i:Nat) o,i<n->L[i]?=some o->∃di dU H1,iM true cx L (eO (fe bs i) L 0 di) H dU o=some (vals i,H1,true)/\di.length=bY.length/\
  (∀(k:Nat) o' d,L[k]?=some o'->o'.dst=some d->k<i->di[d]?=some (vals k))/\(∀t,(∀(k:Nat) o,k<i->L[k]?=some o->o.dst≠some t)->di[t]?=bY[t]?)/\∀d∈dU,∃(k:Nat)(o':Oper),k<i/\L[k]?=some o'/\o'.dst=some d
theorem Jt{cx:Cx K}{L:List Oper}{bs:List Nat}:∀(l:List Oper)(i:Nat)(st st':St K)(wr wr':List Nat),mo cx L bs l i st wr=some (st',wr')->st'.ok=true->st.ok=true/\st'.H=st.H
 |[],i,st,st',wr,wr',h,hok=>by simp only[mo,av,aZ]at h;rw[h.1];exact⟨hok,rfl⟩
 |o::r,i,st,st',wr,wr',h,hok=>by
  simp only[mo]at h;split at h
  ·split at h
   ·rename_i st1 iG hp;obtain⟨p1,p2,-⟩:=qc hp;obtain⟨q1,q2⟩:=Jt r (i+1) st1 st' iG wr' h hok;rw[p2]at q1;simp only[cG]at q1;exact⟨q1.2,by rw[q2,p1]⟩
   ·cases h
  ·cases h
theorem O3{cx:Cx K}{L:List Oper}{bs:List Nat}{H:List (Ob K)}{bY:List (AV K)}:∀(l:List Oper)(n:Nat)(st st':St K)(wr wr':List Nat)(vals:Nat->AV K),mo cx L bs l n st wr=some (st',wr')->st'.ok=true->st.H=H->
 (∀j,l[j]?=L[n+j]?)->n+l.length=L.length->O2 cx L bs H bY vals n st.tm wr->∃kG,O2 cx L bs H bY kG L.length st'.tm wr'
 |[],n,st,st',wr,wr',vals,h,hok,hH,hl,hn,hp=>by
   simp only[mo,av,aZ]at h;obtain⟨rfl,rfl⟩:=h;simp at hn;subst hn;exact⟨vals,hp⟩
 |o::r,n,st,st',wr,wr',vals,h,hok,hH,hl,hn,hp=>by
  have hLn:L[n]?=some o:=by have:=hl 0;simpa using this.symm
  simp only[mo]at h;split at h
  ·rename_i v H1 c hsv;split at h
   ·rename_i st1 iG hput;obtain⟨p1,p2,p3⟩:=qc hput;have hok1:=(Jt r (n+1) st1 st' iG wr' h hok).1;rw[p2]at hok1;simp only[cG]at hok1;obtain⟨rfl,-⟩:=hok1;rw[hH]at hsv
    let kG:Nat->AV K:=fun i=>if i=n then v else vals i
    have hv':∀i,i<n->kG i=vals i:=fun i hi=>by simp[kG,show i≠n by omega]
    have hvn:kG n=v:=by simp[kG]
    have Ju:∃di dU H1,iM true cx L (eO (fe bs n) L 0 di) H dU o=some (kG n,H1,true)/\di.length=bY.length/\
     (∀(k:Nat) o' d,L[k]?=some o'->o'.dst=some d->k<n->di[d]?=some (kG k))/\(∀t,(∀(k:Nat) o,k<n->L[k]?=some o->o.dst≠some t)->di[t]?=bY[t]?)/\∀d∈dU,∃(k:Nat)(o':Oper),k<n/\L[k]?=some o'/\o'.dst=some d:=
     ⟨st.tm,wr,H1,by rw[hvn];exact hsv,hp.len,fun k o' d h1 h2 h3=>by rw[hv' k h3];exact hp.fin k o' d h3 h1 h2,fun t ht=>hp.rest t fun k o' hk h1=>ht k o' hk h1,fun d hd=>(hp.mr d).1 hd⟩
    have rO:∀(i:Nat) o,i<n+1->L[i]?=some o->∃di dU H1,iM true cx L (eO (fe bs i) L 0 di) H dU o=some (kG i,H1,true)/\di.length=bY.length/\
     (∀(k:Nat) o' d,L[k]?=some o'->o'.dst=some d->k<i->di[d]?=some (kG k))/\(∀t,(∀(k:Nat) o,k<i->L[k]?=some o->o.dst≠some t)->di[t]?=bY[t]?)/\∀d∈dU,∃(k:Nat)(o':Oper),k<i/\L[k]?=some o'/\o'.dst=some d:=fun i o1 hi ho1=>by
     by_cases hin:i=n
     ·subst hin;rw[hLn]at ho1;simp at ho1;subst ho1;exact Ju
     ·obtain⟨di,dU,H2,a1,a2,a3,a4,a5⟩:=hp.slot i o1 (by omega) ho1;exact⟨di,dU,H2,by rw[hv' i (by omega)];exact a1,a2,fun k o' d h1 h2 h3=>by rw[hv' k (by omega)];exact a3 k o' d h1 h2 h3,a4,a5⟩
    refine O3 r (n+1) st1 st' iG wr' kG h hok (by rw[p1];exact hH) (fun j=>by have:=hl (j+1);simp only[List.getElem?_cons_succ]at this;rw[this];congr 1;omega) (by simp at hn;omega) ?_;rcases p3 with⟨e1,e2,e3⟩|⟨d,e1,e2,e3,e4,e5⟩
    ·refine⟨by rw[e2];exact hp.len,fun i j o1 o2 d hi hj h1 h2 h3 h4=>?_,fun i o1 d hi h1 h2=>?_,fun i o1 d hi h1 h2=>?_,fun t ht=>by rw[e2];exact hp.rest t fun k o' hk=>ht k o' (by omega),fun d=>?_,rO⟩
     ·have hin:i≠n:=fun e=>by subst e;rw[hLn]at h1;simp at h1;subst h1;rw[e1]at h3;cases h3
      have hjn:j≠n:=fun e=>by subst e;rw[hLn]at h2;simp at h2;subst h2;rw[e1]at h4;cases h4
      exact hp.uniq i j o1 o2 d (by omega) (by omega) h1 h2 h3 h4
     ·have hin:i≠n:=fun e=>by subst e;rw[hLn]at h1;simp at h1;subst h1;rw[e1]at h2;cases h2
      exact hp.inb i o1 d (by omega) h1 h2
     ·have hin:i≠n:=fun e=>by subst e;rw[hLn]at h1;simp at h1;subst h1;rw[e1]at h2;cases h2
      rw[e2,hv' i (by omega)];exact hp.fin i o1 d (by omega) h1 h2
     ·rw[e3,hp.mr d];constructor
      ·rintro ⟨k,o',hk,h1,h2⟩;exact⟨k,o',by omega,h1,h2⟩
      ·rintro ⟨k,o',hk,h1,h2⟩
       have hkn:k≠n:=fun e=>by subst e;rw[hLn]at h1;simp at h1;subst h1;rw[e1]at h2;cases h2
       exact⟨k,o',by omega,h1,h2⟩
    ·have hnew:∀(k:Nat) o',k<n->L[k]?=some o'->o'.dst≠some d:=fun k o' hk h1 h2=>e2 ((hp.mr d).2 ⟨k,o',hk,h1,h2⟩)
     have hdn:∀{o1:Oper}{d1:Nat},L[n]?=some o1->o1.dst=some d1->d1=d:=fun{o1 d1} h1 h2=>by rw[hLn]at h1;simp at h1;subst h1;rw[e1]at h2;simpa using h2.symm
     refine⟨by rw[e4];simp[hp.len],fun i j o1 o2 d1 hi hj h1 h2 h3 h4=>?_,fun i o1 d1 hi h1 h2=>?_,fun i o1 d1 hi h1 h2=>?_,fun t ht=>?_,fun d1=>?_,rO⟩
     ·by_cases hin:i=n<;>by_cases hjn:j=n
      ·omega
      ·subst hin;have:=hdn h1 h3;subst this;exact absurd h4 (hnew j o2 (by omega) h2)
      ·subst hjn;have:=hdn h2 h4;subst this;exact absurd h3 (hnew i o1 (by omega) h1)
      ·exact hp.uniq i j o1 o2 d1 (by omega) (by omega) h1 h2 h3 h4
     ·by_cases hin:i=n
      ·subst hin;have:=hdn h1 h2;subst this;rw[<-hp.len];exact e3
      ·exact hp.inb i o1 d1 (by omega) h1 h2
     ·rw[e4];by_cases hin:i=n
      ·subst hin;have:=hdn h1 h2;subst this;rw[kC,aY rfl,aY e3,hvn]
      ·have hne:d1≠d:=fun e=>by subst e;exact hnew i o1 (by omega) h1 h2
       rw[kC,aT (ot hne),hv' i (by omega)];exact hp.fin i o1 d1 (by omega) h1 h2
     ·have hne:d≠t:=fun e=>by subst e;exact ht n o (by omega) hLn e1
      rw[e4,kC,aT hne];exact hp.rest t fun k o' hk=>ht k o' (by omega)
     ·rw[e5,jm,hp.mr d1];constructor
      ·rintro (rfl|⟨k,o',hk,h1,h2⟩)
       ·exact⟨n,o,by omega,hLn,e1⟩
       ·exact⟨k,o',by omega,h1,h2⟩
      ·rintro ⟨k,o',hk,h1,h2⟩
       by_cases hkn:k=n
       ·subst hkn;exact .inl (hdn h1 h2)
       ·exact .inr ⟨k,o',by omega,h1,h2⟩
   ·cases h
  ·cases h
theorem aeA{cx:Cx K}{L:List Oper}{bs:List Nat}{st st':St K}{wr':List Nat}(h:mo cx L bs L 0 st []=some (st',wr'))(hok:st'.ok=true):
 ∃vals,DL cx L bs st.H st.tm st'.tm vals/\∀d,d∈wr'↔∃(k:Nat)(o':Oper),L[k]?=some o'/\o'.dst=some d:=by
 obtain⟨vals,hp⟩:=O3 (bY:=st.tm) L 0 st st' [] wr' (fun _=>.any) h hok rfl (fun j=>by simp) (by simp)
  ⟨rfl,fun i j _ _ _ hi=>by omega,fun i _ _ hi=>by omega,fun i _ _ hi=>by omega,fun t _=>rfl,fun d=>by simp,fun i _ hi=>by omega⟩
 have hlt:∀{i:Nat}{o:Oper},L[i]?=some o->i<L.length:=fun h=>(bD.1 h).1
 refine⟨vals,⟨hp.len,fun i j o o' d h1 h2=>hp.uniq i j o o' d (hlt h1) (hlt h2) h1 h2,fun i o d h1=>hp.inb i o d (hlt h1) h1,fun i o d h1=>hp.fin i o d (hlt h1) h1,fun t ht=>hp.rest t fun k o _=>ht k o,fun i o h1=>hp.slot i o (hlt h1) h1⟩,fun d=>?_⟩;rw[hp.mr d];exact⟨fun⟨k,o',_,h1,h2⟩=>⟨k,o',h1,h2⟩,fun⟨k,o',h1,h2⟩=>⟨k,o',hlt h1,h1,h2⟩⟩
end Go.V
namespace Go.V
open Go
variable {K :dh}{ρ ρ':List Value}{S S':Nat->Prop}{w w':World}{H H':List (Ob K)}
structure Mid (cx:Cx K) (L:List Oper) (bY:List (AV K)) (vals:Nat->AV K) (H:List (Ob K)) (ρ:List Value) (S:Nat->Prop) (listed:Array Bool) (a:Act) (w:World):Prop where
 heap:aS cx.D ρ S w H
 defers:a.defers=[]
 size:a.tmps.size=bY.length
 nr:listed.size=L.length
 base:∀(t:Nat) v x,(∀(k:Nat) o,L[k]?=some o->o.dst=some t->listed[k]?≠some true)->bY[t]?=some v->a.tmps[t]?=some x->Rep cx.D ρ S w v x
 done:∀(k:Nat) o d x,L[k]?=some o->listed[k]?=some true->o.dst=some d->a.tmps[d]?=some x->eM cx.D ρ S w a.tmps (vals k) x
 opts:∀(k g:Nat) b y,listed[k]?=some true->vals k=.opt g b y->∃(k':Nat)(o':Oper),L[k']?=some o'/\o'.dst=some g/\listed[k']?=some true
 closed:∀(k:Nat) o,L[k]?=some o->listed[k]?=some true->∀e∈o.after,listed[e.on]?=some true
theorem wE(L:List Oper)(t:Nat):OX L t\/∃(k:Nat)(o:Oper),L[k]?=some o/\o.dst=some t:=by
 by_cases h:∃(k:Nat)(o:Oper),L[k]?=some o/\o.dst=some t
 ·exact .inr h
 ·exact .inl fun k o h1 h2=>h ⟨k,o,h1,h2⟩
theorem O4{q:Bool}{cx:Cx K}{ops:List Oper}{tm:List (AV K)}{wr:List Nat}{o:Oper}{g:Nat}{b:Bool}{y:AV K}{c:Bool}(h:iM q cx ops tm H wr o=some (.opt g b y,H',c)):∃v,tm[g]?=some v/\v≠.any:=by
 unfold iM at h;split at h
 ·cases h
 ·split at h
  ·split at h
   ·cases h
   ·rename_i hno;simp only[av,aZ]at h;obtain⟨rfl,-⟩:=h;simp[AV.jr]at hno
  ·cases h
 ·rename_i g' w1 hgd;split at h
  ·split at h
   ·split at h
    ·split at h
     ·split at h
      ·cases h
      ·rename_i hno;simp only[av,aZ]at h;obtain⟨rfl,-⟩:=h;simp[AV.jr]at hno
     ·cases h
    ·simp only[av,aZ]at h;obtain⟨h,-⟩:=h;cases h
   ·cases h
  split at h
  ·cases h
  ·rename_i e hgv;split at h
   ·split at h
    ·simp only[av,aZ,AV.opt.injEq]at h;obtain⟨⟨rfl,rfl,rfl⟩,-⟩:=h;simp only[vZ]at hgv;split at hgv
     ·rename_i bb hv;exact⟨_,hv,by simp⟩
     ·rename_i g1 w1 bb hv;exact⟨_,hv,by simp⟩
     ·cases hgv
    ·cases h
   ·cases h
theorem zc{listed:Array Bool}{j:Nat}:listed.getD j true=false↔listed[j]?=some false:=by
 rw[gu];cases h:listed[j]? with
 |none=>simp
 |some b=>cases b<;>simp
theorem Jv{listed:Array Bool}{j:Nat}:listed.getD j false=true↔listed[j]?=some true:=by
 rw[gu];cases h:listed[j]? with
 |none=>simp
 |some b=>cases b<;>simp
theorem Mid.slots{cx:Cx K}{L:List Oper}{bY ff:List (AV K)}{vals:Nat->AV K}{bs:List Nat}(hbs:bs=iF L [])(he:jV L 0=true){listed:Array Bool}{a:Act}
 (hm:Mid cx L bY vals H ρ S listed a w) (hd:DL cx L bs H bY ff vals) (h0:dC bY) {j:Nat} {o:Oper} (ho:L[j]?=some o) (ib:listed[j]?=some false) (ll:∀e∈o.after,listed[e.on]?=some true) {di:List (AV K)} (hl:di.length=bY.length)
 (h1:∀(k:Nat) o' d,L[k]?=some o'->o'.dst=some d->k<j->di[d]?=some (vals k)) (h2:∀t,(∀(k:Nat) o,k<j->L[k]?=some o->o.dst≠some t)->di[t]?=bY[t]?):fb cx.D ρ S w (eO (fe bs j) L 0 di) a.tmps/\
   ∀(t:Nat) v,(eO (fe bs j) L 0 di)[t]?=some v->v≠.any->(∀(k:Nat) o',k<j->L[k]?=some o'->o'.dst≠some t)\/∃(k:Nat)(o':Oper),L[k]?=some o'/\o'.dst=some t/\listed[k]?=some true:=by
 have key:∀(t:Nat) v,(eO (fe bs j) L 0 di)[t]?=some v->v≠.any->(((∀(k:Nat) o',k<j->L[k]?=some o'->o'.dst≠some t)/\(∀(k:Nat) o,L[k]?=some o->o.dst=some t->listed[k]?≠some true))/\bY[t]?=some v)\/∃(k:Nat)(o':Oper),L[k]?=some o'/\o'.dst=some t/\listed[k]?=some true/\v=vals k:=fun t v hv hne=>by
  obtain⟨g1,g2⟩:=Jq L 0 di t v hv hne;rcases wE L t with hn|⟨k,o',hk,hkd⟩
  ·exact .inl ⟨⟨fun k o' _ h=>hn k o' h,fun k o' h h'=>absurd h' (hn k o' h)⟩,by rw[<-h2 t fun k o' _ h=>hn k o' h];exact g1⟩
  ·have hb:=g2 k o' hk hkd;rw[jq,hbs]at hb;rcases OZ hb with hb|hb
   ·obtain⟨c1,c2⟩:=rN he (T:=fun i=>listed[i]?=some true) (fun i o hi gv=>hm.closed i o hi gv) j o ho ll k hb;have:=h1 k o' t hk hkd c2;rw[g1]at this;exact .inr ⟨k,o',hk,hkd,c1,by simpa using this⟩
   ·have c0:=(rN he (T:=fun _=>True) (fun _ _ _ _ _ _=>trivial) k o' hk (fun _ _=>trivial) j hb).2;have hun:listed[k]?≠some true:=fun hlk=>by
     have:=(rN he (T:=fun i=>listed[i]?=some true) (fun i o hi gv=>hm.closed i o hi gv) k o' hk (hm.closed k o' hk hlk) j hb).1;rw[ib]at this;cases this
    have zd:∀(k':Nat) o1,L[k']?=some o1->o1.dst=some t->k'=k:=fun k' o1 h1 h2=>hd.uniq k' k o1 o' t h1 hk h2 hkd
    have hlt:∀(k':Nat) o1,k'<j->L[k']?=some o1->o1.dst≠some t:=fun k' o1 hk' h1 h2=>by have:=zd k' o1 h1 h2;omega
    exact .inl ⟨⟨hlt,fun k' o1 h1 h2=>by rw[zd k' o1 h1 h2];exact hun⟩,by rw[<-h2 t hlt];exact g1⟩
 refine⟨⟨by rw[Jr,hl,hm.size],fun t v x hv hx=>?_⟩,fun t v hv hne=>?_⟩
 ·by_cases hne:v=.any
  ·subst hne;exact .jR (.any x)
  ·rcases key t v hv hne with⟨⟨-,hn⟩,g⟩|⟨k,o',hk,hkd,hlk,rfl⟩
   ·exact .jR (hm.base t v x hn g hx)
   ·exact hm.done k o' t x hk hlk hkd hx
 ·rcases key t v hv hne with⟨⟨hn,-⟩,-⟩|⟨k,o',hk,hkd,hlk,-⟩
  ·exact .inl hn
  ·exact .inr ⟨k,o',hk,hkd,hlk⟩
theorem Mid.put{cx:Cx K}{L:List Oper}{bY ff:List (AV K)}{vals:Nat->AV K}{bs:List Nat}{listed:Array Bool}{a:Act}(hm:Mid cx L bY vals H ρ S listed a w)(hd:DL cx L bs H bY ff vals){j:Nat}{o:Oper}(ho:L[j]?=some o)
 (hj:listed[j]?=some false) (ll:∀e∈o.after,listed[e.on]?=some true) {u:Value} (hs':aS cx.D ρ' S' w' H) (hst:Step cx.D H.length ρ S H w ρ' S' H w') (hv:eM cx.D ρ' S' w' a.tmps (vals j) u)
 (lW:∀g b y,vals j=.opt g b y->∃(k':Nat)(o':Oper),L[k']?=some o'/\o'.dst=some g/\listed[k']?=some true):Mid cx L bY vals H ρ' S' (listed.setIfInBounds j true) (a.put o.dst u) w':=by
 have hjs:j<listed.size:=(kE.1 hj).1;have hget:∀(k:Nat),(listed.setIfInBounds j true)[k]?=some true↔(k=j\/listed[k]?=some true):=fun k=>by
  rw[kx];by_cases hk:j=k
  ·subst hk;simp[hjs]
  ·rw[aT hk];simp[ot hk]
 have hmono:∀{v:AV K}{x:Value},Rep cx.D ρ S w v x->Rep cx.D ρ' S' w' v x:=fun h=>h.mono hst.s1 (hst.yC hm.heap) (hst.Jw hm.heap)
 have O5:∀{v:AV K}{x:Value}{tmps:Array Value},eM cx.D ρ S w tmps v x->eM cx.D ρ' S' w' tmps v x:=fun h=>h.mono hst.s1 (hst.yC hm.heap) (hst.Jw hm.heap)
 have hclosed:∀(k:Nat) o1,L[k]?=some o1->(listed.setIfInBounds j true)[k]?=some true->∀e∈o1.after,(listed.setIfInBounds j true)[e.on]?=some true:=fun k o1 hk hlk e he=>by
  rw[hget]at hlk⊢;rcases hlk with rfl|hlk
  ·rw[ho]at hk;simp at hk;subst hk;exact .inr (ll e he)
  ·exact .inr (hm.closed k o1 hk hlk e he)
 have ze:∀(k g:Nat) b y,(listed.setIfInBounds j true)[k]?=some true->vals k=.opt g b y->∃(k':Nat)(o':Oper),L[k']?=some o'/\o'.dst=some g/\(listed.setIfInBounds j true)[k']?=some true:=fun k g b y hlk hvk=>by
  rw[hget]at hlk;rcases hlk with rfl|hlk
  ·obtain⟨k',o',h1,h2,h3⟩:=lW g b y hvk;exact⟨k',o',h1,h2,(hget k').2 (.inr h3)⟩
  ·obtain⟨k',o',h1,h2,h3⟩:=hm.opts k g b y hlk hvk;exact⟨k',o',h1,h2,(hget k').2 (.inr h3)⟩
 cases hdst:o.dst with
 |none=>
  refine⟨hs',hm.defers,hm.size,by simp[hm.nr],fun t v x h1 h2 h3=>hmono (hm.base t v x (fun k o1 hk hd1 hl=>h1 k o1 hk hd1 ((hget k).2 (.inr hl))) h2 h3),fun k o1 d x hk hlk hd1 hx=>?_,ze,hclosed⟩;rw[hget]at hlk;rcases hlk with rfl|hlk
  ·rw[ho]at hk;simp at hk;subst hk;rw[hdst]at hd1;cases hd1
  ·exact O5 (hm.done k o1 d x hk hlk hd1 hx)
 |some d=>
  have hne:∀{k:Nat}{o1:Oper},L[k]?=some o1->listed[k]?=some true->o1.dst≠some d:=fun{k o1} hk hlk hd1=>by
   have:=hd.uniq k j o1 o d hk ho hd1 hdst;subst this;rw[hj]at hlk;cases hlk
  refine⟨hs',hm.defers,by simp[Act.put,hm.size],by simp[hm.nr],fun t v x h1 h2 h3=>?_,fun k o1 d1 x hk hlk hd1 hx=>?_,ze,hclosed⟩
  ·have:d≠t:=fun e=>by subst e;exact h1 j o ho hdst ((hget j).2 (.inl rfl))
   simp only[Act.put,kx,aT this]at h3;exact hmono (hm.base t v x (fun k o1 hk hd1 hl=>h1 k o1 hk hd1 ((hget k).2 (.inr hl))) h2 h3)
  ·rw[hget]at hlk;simp only[Act.put]at hx⊢;rw[kx]at hx;rcases hlk with rfl|hlk
   ·rw[ho]at hk;simp at hk;subst hk;rw[hdst]at hd1;simp at hd1;subst hd1;rw[aY rfl]at hx;split at hx
    ·simp at hx;subst hx;refine hv.put fun g b y e he=>?_
     obtain⟨k',o',h1,h2,h3⟩:=lW g b y e;subst he;exact hne h1 h3 h2
    ·cases hx
   ·have hdd:d≠d1:=fun e=>by subst e;exact hne hk hlk hd1
    rw[aT hdd]at hx;refine(O5 (hm.done k o1 d1 x hk hlk hd1 hx)).put fun g b y e he=>?_
    obtain⟨k',o',h1,h2,h3⟩:=hm.opts k g b y hlk e;subst he;exact hne h1 h3 h2
def todo(listed:Array Bool):Nat:=(listed.toList.filter fun b=> !b).length
theorem O6{listed:Array Bool}{j:Nat}(h:listed[j]?=some false):todo (listed.setIfInBounds j true)+1=todo listed:=by
 have key:∀(l:List Bool)(j:Nat),l[j]?=some false->((l.set j true).filter fun b=> !b).length+1=(l.filter fun b=> !b).length:=fun l=>by
  induction l with
  |nil=>intro j h;simp at h
  |cons x r ih=>
   intro j h;cases j with
   |zero=>simp at h;subst h;simp
   |succ j=>
    have:=ih j (by simpa using h);simp only[List.set_cons_succ,List.filter_cons];cases x
    ·simp only[bu,pW,ak];omega
    ·simp only[dT,oj,oq];omega
 simp only[todo,Array.toList_setIfInBounds];exact key _ _ (by simpa using h)
theorem O7{listed:Array Bool}(h:todo listed=0){j:Nat}:listed[j]?≠some false:=fun hj=>by
 have hm:false∈listed.toList:=by
  rw[List.mem_iff_getElem?];exact⟨j,by simpa using hj⟩
 have:false∈listed.toList.filter fun b=> !b:=by simp[hm]
 rw[lS h]at this;cases this
theorem O8{L:List Oper}(he:jV L 0=true){listed:Array Bool}(hl:listed.size=L.length)(hr:Region.ready .any L.toArray listed=[]):∀(i:Nat),i<L.length->listed[i]?=some true:=by
 intro i
 induction i using Nat.strongRecOn with
 |_ i ih=>
  intro hi;have ho:=cH hi;cases hb:listed[i]? with
  |none=>rw[Array.getElem?_eq_none_iff]at hb;omega
  |some b=>
   cases b with
   |true=>rfl
   |false=>
    have:i∈Region.ready .any L.toArray listed:=mem_ready.2 ⟨zc.2 hb,L[i],by simp[hi],fun e ux _=>by
     have:=(zb L 0 i _ he ho e ux).1;exact Jv.2 (ih e.on (by omega) (by omega))⟩
    rw[hr]at this;cases this
theorem aeB{cx:Cx K}(hD:bR cx.D)(hc:aP cx){L:List Oper}(Jy:∀(i:Nat) o,L[i]?=some o->nq cx o.op=true)(he:jV L 0=true){bY ff:List (AV K)}{vals:Nat->AV K}(hd:DL cx L (iF L []) H bY ff vals)(h0:dC bY)
 {n0:Nat} (hn:n0<=H.length) {Q:Exit->Act->World->Prop}:∀(fuel:Nat)(listed:Array Bool)(ρ:List Value)(S:Nat->Prop)(a:Act)(w:World),Mid cx L bY vals H ρ S listed a w->todo listed<=fuel->
 (∀ρ' S' a' w',aS cx.D ρ' S' w' H->fb cx.D ρ' S' w' ff a'.tmps->a'.defers=[]->Step cx.D n0 ρ S H w ρ' S' H w'->Q .normal a' w')->wpAny cx.P .any L.toArray Q fuel listed a w:=by
 have hfin:∀(listed:Array Bool)(ρ:List Value)(S:Nat->Prop)(a:Act)(w:World),Mid cx L bY vals H ρ S listed a w->Region.ready .any L.toArray listed=[]->fb cx.D ρ S w ff a.tmps:=fun listed ρ S a w hm hr=>by
  have hall:=O8 he hm.nr hr;refine⟨by rw[hd.len,hm.size],fun t v x hv hx=>?_⟩;rcases wE L t with hnd|⟨k,o,hk,hkd⟩
  ·rw[hd.rest t hnd]at hv;exact .jR (hm.base t v x (fun k o hk hkd=>absurd hkd (hnd k o hk)) hv hx)
  ·rw[hd.fin k o t hk hkd]at hv;simp only[av]at hv;subst hv;exact hm.done k o t x hk (hall k (bD.1 hk).1) hkd hx
 intro fuel
 induction fuel with
 |zero=>
  intro listed ρ S a w hm ht hq;have hr:Region.ready .any L.toArray listed=[]:=by
   cases hh:Region.ready .any L.toArray listed with
   |nil=>rfl
   |cons j r=>
    have:j∈Region.ready .any L.toArray listed:=by rw[hh];simp
    exact absurd (zc.1 (mem_ready.1 this).1) (O7 (by omega))
  exact⟨hr,hq ρ S a w hm.heap (hfin listed ρ S a w hm hr) hm.defers Step.refl⟩
 |succ fuel ih=>
  intro listed ρ S a w hm ht hq;refine⟨fun hr=>hq ρ S a w hm.heap (hfin listed ρ S a w hm hr) hm.defers Step.refl,fun j hj=>?_⟩;obtain⟨pR,o,hoj,hall⟩:=mem_ready.1 hj;have ib:=zc.1 pR;have ho:L[j]?=some o:=by simpa using hoj
  have ll:∀e∈o.after,listed[e.on]?=some true:=fun e ux=>Jv.1 (hall e ux (zb L 0 j o he ho e ux).2)
  obtain⟨di,dU,H1,s1,s2,s3,s4,s5⟩:=hd.slot j o ho;obtain⟨hsl,hkn⟩:=hm.slots rfl he hd h0 ho ib ll s2 s3 s4;have hH1:H1=H:=by
   have hsm:=Jy j o ho;unfold iM at s1;split at s1
   ·cases s1
   ·split at s1
    ·rename_i hy;split at s1
     ·cases s1
     ·simp only[av,aZ]at s1;obtain⟨-,rfl,-⟩:=s1;exact wF hy
    ·cases s1
   ·split at s1
    ·split at s1
     ·split at s1
      ·split at s1
       ·rename_i hy;split at s1
        ·cases s1
        ·simp only[av,aZ]at s1;obtain⟨-,rfl,-⟩:=s1;exact wF hy
       ·cases s1
      ·simp only[av,aZ]at s1;exact s1.2.1.symm
     ·cases s1
    split at s1
    ·cases s1
    ·split at s1
     ·split at s1
      ·simp only[av,aZ]at s1;exact s1.2.1.symm
      ·cases s1
     ·cases s1
  subst hH1;have lW:∀g b y,vals j=.opt g b y->∃(k':Nat)(o':Oper),L[k']?=some o'/\o'.dst=some g/\listed[k']?=some true:=fun g b y e=>by
   rw[e]at s1;obtain⟨v,g1,g2⟩:=O4 s1;rcases hkn g v g1 g2 with hn'|h
   ·obtain⟨k,o',hk,h2,h3⟩:=s5 g (uy s1 g b y rfl);exact absurd h3 (hn' k o' hk h2)
   ·exact h
  have hw:=Jz hD hc hm.heap hsl (ops:=L) s1 rfl (k:=wpAny cx.P .any L.toArray Q fuel (listed.setIfInBounds j true)) (Q:=Q) fun u ρ1 S1 w1 q1 q2 q3=>by
   have hm1:=hm.put hd ho ib ll q1 q3 q2 lW;refine ih _ ρ1 S1 _ w1 hm1 (by have:=O6 ib;omega) fun ρ' S' a' w' g1 g2 g3 g4=>hq ρ' S' a' w' g1 g2 g3 ((q3.weaken hn).trans g4)
  unfold wpOp;rw[hoj];dsimp only;split
  ·rename_i hwt;rw[aY hwt]at hw;exact .inl hw
  ·rename_i hwt;rw[aT hwt]at hw;exact hw
theorem O9(n:Nat):todo (Array.replicate n false)<=n:=by
 simp only[todo,Array.toList_replicate];exact lU (List.length_filter_le _ _) (by simp)
end Go.V
