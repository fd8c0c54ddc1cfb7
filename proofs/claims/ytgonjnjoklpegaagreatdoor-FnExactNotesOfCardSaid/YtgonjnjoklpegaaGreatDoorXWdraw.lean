/-
  A REGION WHOSE ORDER IS LEFT OPEN: none of its operations turns an object; each is read with no more than what comes ahead of it in every order; so the order does not matter.
-/
import Derived.Test.YtgonjnjoklpegaaGreatDoorXWreg2
set_option linter.unusedVariables false
namespace Go.V
open Go
variable{K :cq}{ρ ρ':List Value}{S S':Nat->Prop}{w w':World}{H H':List (Ob K)}
def Re(L:List Oper)(t:Nat):Prop:=∀(k:Nat) o,L[k]?=some o->o.dst≠some t
theorem FG{bits:Nat}:∀(L:List Oper)(i:Nat)(tm:List (AV K))(t:Nat)(v:AV K),(dm bits L i tm)[t]?=some v->v≠.any->
 tm[t]?=some v/\∀(k:Nat) o,L[k]?=some o->o.dst=some t->bits.testBit (i+k)=true
 |[],i,tm,t,v,h,_=>⟨h,fun k o ho=>by simp at ho⟩
 |o::r,i,tm,t,v,h,hv=>by
  simp only[dm]at h;obtain⟨h1,h2⟩:=FG r (i+1) _ t v h hv;have hrest:∀(k:Nat) o',(o::r)[k]?=some o'->o'.dst=some t->k≠0->bits.testBit (i+k)=true:=fun k o' ho' hd hk=>by
   obtain⟨k',rfl⟩:=Nat.exists_eq_succ_of_ne_zero hk;have:=h2 k' o' (by simpa using ho') hd;rw[show i+(k'+1)=i+1+k' by omega];exact this
  split at h1
  ·rename_i d hd;split at h1
   ·rename_i hb;refine⟨h1,fun k o' ho' hd'=>?_⟩;by_cases hk:k=0
    ·subst hk;simpa using hb
    ·exact hrest k o' ho' hd' hk
   ·rename_i hb;rcases dt h1 with⟨rfl,rfl,-⟩|⟨hne,h1⟩
    ·exact absurd rfl hv
    ·refine⟨h1,fun k o' ho' hd'=>?_⟩;by_cases hk:k=0
     ·subst hk;simp at ho';subst ho';rw[hd]at hd';simp at hd';exact absurd hd'.symm hne
     ·exact hrest k o' ho' hd' hk
  ·rename_i hd;refine⟨h1,fun k o' ho' hd'=>?_⟩;by_cases hk:k=0
   ·subst hk;simp at ho';subst ho';rw[hd]at hd';cases hd'
   ·exact hrest k o' ho' hd' hk
theorem FH{bits:Nat}:∀(L:List Oper)(i:Nat)(tm:List (AV K)),(dm bits L i tm).length=tm.length
 |[],i,tm=>rfl
 |o::r,i,tm=>by
  simp only[dm];rw[FH r];split
  ·split<;>simp
  ·rfl
theorem Rf{i:Nat}:∀(bs:List Nat)(k0 k:Nat),(wF i k0 bs).testBit k=true->∃j:Nat,k=k0+j/\((bs[j]?).getD 0).testBit i=true
 |[],k0,k,h=>by simp[wF]at h
 |b::r,k0,k,h=>by
  simp only[wF,uM,fU]at h;rcases h with h|h
  ·cases hb:b.testBit i with
   |false=>rw[hb]at h;simp at h
   |true=>
    rw[hb]at h;simp only[aT,Nat.testBit_two_pow,bP]at h;exact⟨0,by omega,by simpa using hb⟩
  ·obtain⟨j,h1,h2⟩:=Rf r (k0+1) k h;exact⟨j+1,by omega,by simpa using h2⟩
theorem Rh{bs:List Nat}{i k:Nat}(h:(dE bs i).testBit k=true):(bs.getD i 0).testBit k=true\/(bs.getD k 0).testBit i=true:=by
 simp only[dE,uM,fU]at h;rcases h with h|h
 ·exact .inl h
 ·obtain⟨j,h1,h2⟩:=Rf _ _ _ h;rw[dB]at h1;subst h1;right;rw[eK];exact h2
theorem FI:∀(L:List Oper)(acc:List Nat)(i:Nat),i<acc.length->(fk L acc).getD i 0=acc.getD i 0
 |[],acc,i,_=>rfl
 |o::r,acc,i,h=>by
  simp only[fk];rw[FI r _ i (by simp;omega)];simp only[eK];rw[cn h]
theorem Ri{acc:List Nat}{k:Nat}:∀(es:List Edge)(s:Nat),(es.foldl (fun s e=>s|||2^e.on|||acc.getD e.on 0) s).testBit k=true->s.testBit k=true\/∃e∈es,k=e.on\/(acc.getD e.on 0).testBit k=true
 |[],s,h=>.inl h
 |e::r,s,h=>by
  rcases Ri r _ h with h|⟨e',he',h⟩
  ·simp only[uM,fU]at h;rcases h with(h|h)|h
   ·exact .inl h
   ·rw[Nat.testBit_two_pow]at h;exact .inr ⟨e,by simp,.inl (by simpa using h.symm:e.on=k).symm⟩
   ·exact .inr ⟨e,by simp,.inr h⟩
  ·exact .inr ⟨e',by simp[he'],h⟩
theorem Rj:∀(L:List Oper)(acc:List Nat)(j:Nat)(o:Oper),L[j]?=some o->gW L acc.length=true->
 ∀k,((fk L acc).getD (acc.length+j) 0).testBit k=true->∃e∈o.after,k=e.on\/((fk L acc).getD e.on 0).testBit k=true
 |[],acc,j,o,h,_,k,_=>by simp at h
 |x::r,acc,0,o,h,he,k,hk=>by
  simp at h;subst h;simp only[fk]at hk⊢;rw[FI r _ _ (by simp)]at hk;simp only[eK,Nat.add_zero]at hk;rw[cB (bu _)]at hk;simp only[qu,List.getElem?_cons_zero,bH]at hk;simp only[gW,bc,dW,bP]at he;rcases Ri x.after.toList 0 (by simpa only[eK]using hk)with h|⟨e,h1,h2⟩
  ·simp at h
  ·refine⟨e,by simpa using h1,h2.imp id fun h=>?_⟩;rw[FI r _ _ (by have:=(he.1 e h1).1;simp;omega)];rw[eK,cn (he.1 e h1).1,<-eK];exact h
 |x::r,acc,j+1,o,h,he,k,hk=>by
  simp only[fk]at hk⊢;simp only[gW,bc]at he;have:=Rj r (acc++[x.after.toList.foldl (fun s e=>s|||2^e.on|||acc.getD e.on 0) 0]) j o (by simpa using h) (by simpa using he.2) k (by
   rw[show acc.length+(j+1)=(acc++[x.after.toList.foldl (fun s e=>s|||2^e.on|||acc.getD e.on 0) 0]).length+j by simp;omega]at hk;exact hk)
  exact this
theorem wJ:∀(L:List Oper)(n i:Nat)(o:Oper),gW L n=true->L[i]?=some o->∀e∈o.after,e.on<n+i/\Region.binds .any e=true
 |[],n,i,o,_,h=>by simp at h
 |x::r,n,0,o,h,ho=>by
  simp at ho;subst ho;simp only[gW,bc,dW,bP]at h;intro e he;exact h.1 e (by simpa using he)
 |x::r,n,i+1,o,h,ho=>by
  simp only[gW,bc]at h;intro e he;have:=wJ r (n+1) i o h.2 (by simpa using ho) e he;exact⟨by omega,this.2⟩
theorem oC{L:List Oper}(he:gW L 0=true){T:Nat->Prop}(hT:∀(i:Nat) o,L[i]?=some o->T i->∀e∈o.after,T e.on):
 ∀(i:Nat)(o:Oper),L[i]?=some o->(∀e∈o.after,T e.on)->∀k,((fk L []).getD i 0).testBit k=true->T k/\k<i:=by
 intro i
 induction i using Nat.strongRecOn with
 |_ i ih=>
  intro o ho hoe k hk;obtain⟨e,h1,h2⟩:=Rj L [] i o ho he k (by simpa using hk);have hlt:=(wJ L 0 i o he ho e h1).1;rw[dB]at hlt;rcases h2 with rfl|h2
  ·exact⟨hoe e h1,hlt⟩
  ·have hi:i<L.length:=(bk.1 ho).1;have hg:=bL (show e.on<L.length by omega);obtain⟨a,b⟩:=ih e.on hlt _ hg (hT e.on _ hg (hoe e h1)) k h2;exact⟨a,by omega⟩
structure zU (cx:Cx K) (L:List Oper) (bs:List Nat) (H:List (Ob K)) (bm dF:List (AV K)) (vals:Nat->AV K):Prop where
 len:dF.length=bm.length
 uniq:∀(i j:Nat) o o' d,L[i]?=some o->L[j]?=some o'->o.dst=some d->o'.dst=some d->i=j
 inb:∀(i:Nat) o d,L[i]?=some o->o.dst=some d->d<bm.length
 fin:∀(i:Nat) o d,L[i]?=some o->o.dst=some d->dF[d]?=some (vals i)
 rest:∀t,Re L t->dF[t]?=bm[t]?
 slot:∀(i:Nat) o,L[i]?=some o->∃cm cU H1,fA true cx L (dm (dE bs i) L 0 cm) H cU o=some (vals i,H1,true)/\cm.length=bm.length/\
  (∀(k:Nat) o' d,L[k]?=some o'->o'.dst=some d->k<i->cm[d]?=some (vals k))/\(∀t,(∀(k:Nat) o,k<i->L[k]?=some o->o.dst≠some t)->cm[t]?=bm[t]?)/\∀d∈cU,∃(k:Nat)(o':Oper),k<i/\L[k]?=some o'/\o'.dst=some d
structure Rk (cx:Cx K) (L:List Oper) (bs:List Nat) (H:List (Ob K)) (bm:List (AV K)) (vals:Nat->AV K) (n:Nat) (tm:List (AV K)) (wr:List Nat):Prop where
 len:tm.length=bm.length
 uniq:∀(i j:Nat) o o' d,i<n->j<n->L[i]?=some o->L[j]?=some o'->o.dst=some d->o'.dst=some d->i=j
 inb:∀(i:Nat) o d,i<n->L[i]?=some o->o.dst=some d->d<bm.length
 fin:∀(i:Nat) o d,i<n->L[i]?=some o->o.dst=some d->tm[d]?=some (vals i)
 rest:∀t,(∀(k:Nat) o,k<n->L[k]?=some o->o.dst≠some t)->tm[t]?=bm[t]?
 jI:∀d,d∈wr↔∃(k:Nat)(o':Oper),k<n/\L[k]?=some o'/\o'.dst=some d
 slot:∀(i:Nat) o,i<n->L[i]?=some o->∃cm cU H1,fA true cx L (dm (dE bs i) L 0 cm) H cU o=some (vals i,H1,true)/\cm.length=bm.length/\
  (∀(k:Nat) o' d,L[k]?=some o'->o'.dst=some d->k<i->cm[d]?=some (vals k))/\(∀t,(∀(k:Nat) o,k<i->L[k]?=some o->o.dst≠some t)->cm[t]?=bm[t]?)/\∀d∈cU,∃(k:Nat)(o':Oper),k<i/\L[k]?=some o'/\o'.dst=some d
theorem FK{cx:Cx K}{L:List Oper}{bs:List Nat}:∀(l:List Oper)(i:Nat)(st st':St K)(wr wr':List Nat),jH cx L bs l i st wr=some (st',wr')->st'.ok=true->st.ok=true/\st'.H=st.H
 |[],i,st,st',wr,wr',h,hok=>by simp only[jH,av,aJ]at h;rw[h.1];exact⟨hok,rfl⟩
 |o::r,i,st,st',wr,wr',h,hok=>by
  simp only[jH]at h;split at h
  ·split at h
   ·rename_i st1 fl hp;obtain⟨p1,p2,-⟩:=mH hp;obtain⟨q1,q2⟩:=FK r (i+1) st1 st' fl wr' h hok;rw[p2]at q1;simp only[bc]at q1;exact⟨q1.2,by rw[q2,p1]⟩
   ·cases h
  ·cases h
theorem Rl{cx:Cx K}{L:List Oper}{bs:List Nat}{H:List (Ob K)}{bm:List (AV K)}:∀(l:List Oper)(n:Nat)(st st':St K)(wr wr':List Nat)(vals:Nat->AV K),jH cx L bs l n st wr=some (st',wr')->st'.ok=true->st.H=H->
 (∀j,l[j]?=L[n+j]?)->n+l.length=L.length->Rk cx L bs H bm vals n st.tm wr->∃ir,Rk cx L bs H bm ir L.length st'.tm wr'
 |[],n,st,st',wr,wr',vals,h,hok,hH,hl,hn,hp=>by
   simp only[jH,av,aJ]at h;obtain⟨rfl,rfl⟩:=h;simp at hn;subst hn;exact⟨vals,hp⟩
 |o::r,n,st,st',wr,wr',vals,h,hok,hH,hl,hn,hp=>by
  have hLn:L[n]?=some o:=by have:=hl 0;simpa using this.symm
  simp only[jH]at h;split at h
  ·rename_i v H1 c hsv;split at h
   ·rename_i st1 fl hput;obtain⟨p1,p2,p3⟩:=mH hput;have hok1:=(FK r (n+1) st1 st' fl wr' h hok).1;rw[p2]at hok1;simp only[bc]at hok1;obtain⟨rfl,-⟩:=hok1;rw[hH]at hsv
    let ir:Nat->AV K:=fun i=>if i=n then v else vals i
    have hv':∀i,i<n->ir i=vals i:=fun i hi=>by simp[ir,show i≠n by omega]
    have hvn:ir n=v:=by simp[ir]
    have FM:∃cm cU H1,fA true cx L (dm (dE bs n) L 0 cm) H cU o=some (ir n,H1,true)/\cm.length=bm.length/\
     (∀(k:Nat) o' d,L[k]?=some o'->o'.dst=some d->k<n->cm[d]?=some (ir k))/\(∀t,(∀(k:Nat) o,k<n->L[k]?=some o->o.dst≠some t)->cm[t]?=bm[t]?)/\∀d∈cU,∃(k:Nat)(o':Oper),k<n/\L[k]?=some o'/\o'.dst=some d:=
     ⟨st.tm,wr,H1,by rw[hvn];exact hsv,hp.len,fun k o' d h1 h2 h3=>by rw[hv' k h3];exact hp.fin k o' d h3 h1 h2,fun t ht=>hp.rest t fun k o' hk h1=>ht k o' hk h1,fun d hd=>(hp.jI d).1 hd⟩
    have oD:∀(i:Nat) o,i<n+1->L[i]?=some o->∃cm cU H1,fA true cx L (dm (dE bs i) L 0 cm) H cU o=some (ir i,H1,true)/\cm.length=bm.length/\
     (∀(k:Nat) o' d,L[k]?=some o'->o'.dst=some d->k<i->cm[d]?=some (ir k))/\(∀t,(∀(k:Nat) o,k<i->L[k]?=some o->o.dst≠some t)->cm[t]?=bm[t]?)/\∀d∈cU,∃(k:Nat)(o':Oper),k<i/\L[k]?=some o'/\o'.dst=some d:=fun i o1 hi ho1=>by
     by_cases hin:i=n
     ·subst hin;rw[hLn]at ho1;simp at ho1;subst ho1;exact FM
     ·obtain⟨cm,cU,H2,a1,a2,a3,a4,a5⟩:=hp.slot i o1 (by omega) ho1;exact⟨cm,cU,H2,by rw[hv' i (by omega)];exact a1,a2,fun k o' d h1 h2 h3=>by rw[hv' k (by omega)];exact a3 k o' d h1 h2 h3,a4,a5⟩
    refine Rl r (n+1) st1 st' fl wr' ir h hok (by rw[p1];exact hH) (fun j=>by have:=hl (j+1);simp only[List.getElem?_cons_succ]at this;rw[this];congr 1;omega) (by simp at hn;omega) ?_;rcases p3 with⟨e1,e2,e3⟩|⟨d,e1,e2,e3,e4,e5⟩
    ·refine⟨by rw[e2];exact hp.len,fun i j o1 o2 d hi hj h1 h2 h3 h4=>?_,fun i o1 d hi h1 h2=>?_,fun i o1 d hi h1 h2=>?_,fun t ht=>by rw[e2];exact hp.rest t fun k o' hk=>ht k o' (by omega),fun d=>?_,oD⟩
     ·have hin:i≠n:=fun e=>by subst e;rw[hLn]at h1;simp at h1;subst h1;rw[e1]at h3;cases h3
      have hjn:j≠n:=fun e=>by subst e;rw[hLn]at h2;simp at h2;subst h2;rw[e1]at h4;cases h4
      exact hp.uniq i j o1 o2 d (by omega) (by omega) h1 h2 h3 h4
     ·have hin:i≠n:=fun e=>by subst e;rw[hLn]at h1;simp at h1;subst h1;rw[e1]at h2;cases h2
      exact hp.inb i o1 d (by omega) h1 h2
     ·have hin:i≠n:=fun e=>by subst e;rw[hLn]at h1;simp at h1;subst h1;rw[e1]at h2;cases h2
      rw[e2,hv' i (by omega)];exact hp.fin i o1 d (by omega) h1 h2
     ·rw[e3,hp.jI d];constructor
      ·rintro ⟨k,o',hk,h1,h2⟩;exact⟨k,o',by omega,h1,h2⟩
      ·rintro ⟨k,o',hk,h1,h2⟩
       have hkn:k≠n:=fun e=>by subst e;rw[hLn]at h1;simp at h1;subst h1;rw[e1]at h2;cases h2
       exact⟨k,o',by omega,h1,h2⟩
    ·have hnew:∀(k:Nat) o',k<n->L[k]?=some o'->o'.dst≠some d:=fun k o' hk h1 h2=>e2 ((hp.jI d).2 ⟨k,o',hk,h1,h2⟩)
     have hdn:∀{o1:Oper}{d1:Nat},L[n]?=some o1->o1.dst=some d1->d1=d:=fun{o1 d1} h1 h2=>by rw[hLn]at h1;simp at h1;subst h1;rw[e1]at h2;simpa using h2.symm
     refine⟨by rw[e4];simp[hp.len],fun i j o1 o2 d1 hi hj h1 h2 h3 h4=>?_,fun i o1 d1 hi h1 h2=>?_,fun i o1 d1 hi h1 h2=>?_,fun t ht=>?_,fun d1=>?_,oD⟩
     ·by_cases hin:i=n<;>by_cases hjn:j=n
      ·omega
      ·subst hin;have:=hdn h1 h3;subst this;exact absurd h4 (hnew j o2 (by omega) h2)
      ·subst hjn;have:=hdn h2 h4;subst this;exact absurd h3 (hnew i o1 (by omega) h1)
      ·exact hp.uniq i j o1 o2 d1 (by omega) (by omega) h1 h2 h3 h4
     ·by_cases hin:i=n
      ·subst hin;have:=hdn h1 h2;subst this;rw[<-hp.len];exact e3
      ·exact hp.inb i o1 d1 (by omega) h1 h2
     ·rw[e4];by_cases hin:i=n
      ·subst hin;have:=hdn h1 h2;subst this;rw[eE,aC rfl,aC e3,hvn]
      ·have hne:d1≠d:=fun e=>by subst e;exact hnew i o1 (by omega) h1 h2
       rw[eE,ax (lu hne),hv' i (by omega)];exact hp.fin i o1 d1 (by omega) h1 h2
     ·have hne:d≠t:=fun e=>by subst e;exact ht n o (by omega) hLn e1
      rw[e4,eE,ax hne];exact hp.rest t fun k o' hk=>ht k o' (by omega)
     ·rw[e5,eJ,hp.jI d1];constructor
      ·rintro (rfl|⟨k,o',hk,h1,h2⟩)
       ·exact⟨n,o,by omega,hLn,e1⟩
       ·exact⟨k,o',by omega,h1,h2⟩
      ·rintro ⟨k,o',hk,h1,h2⟩
       by_cases hkn:k=n
       ·subst hkn;exact .inl (hdn h1 h2)
       ·exact .inr ⟨k,o',by omega,h1,h2⟩
   ·cases h
  ·cases h
theorem aff{cx:Cx K}{L:List Oper}{bs:List Nat}{st st':St K}{wr':List Nat}(h:jH cx L bs L 0 st []=some (st',wr'))(hok:st'.ok=true):
 ∃vals,zU cx L bs st.H st.tm st'.tm vals/\∀d,d∈wr'↔∃(k:Nat)(o':Oper),L[k]?=some o'/\o'.dst=some d:=by
 obtain⟨vals,hp⟩:=Rl (bm:=st.tm) L 0 st st' [] wr' (fun _=>.any) h hok rfl (fun j=>by simp) (by simp)
  ⟨rfl,fun i j _ _ _ hi=>by omega,fun i _ _ hi=>by omega,fun i _ _ hi=>by omega,fun t _=>rfl,fun d=>by simp,fun i _ hi=>by omega⟩
 have hlt:∀{i:Nat}{o:Oper},L[i]?=some o->i<L.length:=fun h=>(bk.1 h).1
 refine⟨vals,⟨hp.len,fun i j o o' d h1 h2=>hp.uniq i j o o' d (hlt h1) (hlt h2) h1 h2,fun i o d h1=>hp.inb i o d (hlt h1) h1,fun i o d h1=>hp.fin i o d (hlt h1) h1,fun t ht=>hp.rest t fun k o _=>ht k o,fun i o h1=>hp.slot i o (hlt h1) h1⟩,fun d=>?_⟩;rw[hp.jI d];exact⟨fun⟨k,o',_,h1,h2⟩=>⟨k,o',h1,h2⟩,fun⟨k,o',h1,h2⟩=>⟨k,o',hlt h1,h1,h2⟩⟩
end Go.V
