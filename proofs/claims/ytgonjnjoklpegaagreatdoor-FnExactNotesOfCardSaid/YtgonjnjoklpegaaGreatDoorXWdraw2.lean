/-
  A REGION WHOSE ORDER IS LEFT OPEN, IN WHATEVER ORDER.
-/
import Derived.Test.YtgonjnjoklpegaaGreatDoorXWdraw
set_option linter.unusedVariables false
namespace Go.V
open Go
variable{K :cq}{ρ ρ':List Value}{S S':Nat->Prop}{w w':World}{H H':List (Ob K)}
structure Mid (cx:Cx K) (L:List Oper) (bm:List (AV K)) (vals:Nat->AV K) (H:List (Ob K)) (ρ:List Value) (S:Nat->Prop) (listed:Array Bool) (a:Act) (w:World):Prop where
 heap:aL cx.D ρ S w H
 defers:a.defers=[]
 size:a.tmps.size=bm.length
 kf:listed.size=L.length
 base:∀(t:Nat) v x,(∀(k:Nat) o,L[k]?=some o->o.dst=some t->listed[k]?≠some true)->bm[t]?=some v->a.tmps[t]?=some x->Rep cx.D ρ S w v x
 done:∀(k:Nat) o d x,L[k]?=some o->listed[k]?=some true->o.dst=some d->a.tmps[d]?=some x->dk cx.D ρ S w a.tmps (vals k) x
 opts:∀(k g:Nat) b y,listed[k]?=some true->vals k=.opt g b y->∃(k':Nat)(o':Oper),L[k']?=some o'/\o'.dst=some g/\listed[k']?=some true
 closed:∀(k:Nat) o,L[k]?=some o->listed[k]?=some true->∀e∈o.after,listed[e.on]?=some true
theorem uU(L:List Oper)(t:Nat):Re L t\/∃(k:Nat)(o:Oper),L[k]?=some o/\o.dst=some t:=by
 by_cases h:∃(k:Nat)(o:Oper),L[k]?=some o/\o.dst=some t
 ·exact .inr h
 ·exact .inl fun k o h1 h2=>h ⟨k,o,h1,h2⟩
theorem Rm{q:Bool}{cx:Cx K}{ops:List Oper}{tm:List (AV K)}{wr:List Nat}{o:Oper}{g:Nat}{b:Bool}{y:AV K}{c:Bool}(h:fA q cx ops tm H wr o=some (.opt g b y,H',c)):∃v,tm[g]?=some v/\v≠.any:=by
 unfold fA at h;split at h
 ·cases h
 ·split at h
  ·split at h
   ·cases h
   ·rename_i hno;simp only[av,aJ]at h;obtain⟨rfl,-⟩:=h;simp[AV.fZ]at hno
  ·cases h
 ·rename_i g' w1 hgd;split at h
  ·split at h
   ·split at h
    ·split at h
     ·split at h
      ·cases h
      ·rename_i hno;simp only[av,aJ]at h;obtain⟨rfl,-⟩:=h;simp[AV.fZ]at hno
     ·cases h
    ·simp only[av,aJ]at h;obtain⟨h,-⟩:=h;cases h
   ·cases h
  split at h
  ·cases h
  ·rename_i e hgv;split at h
   ·split at h
    ·simp only[av,aJ,AV.opt.injEq]at h;obtain⟨⟨rfl,rfl,rfl⟩,-⟩:=h;simp only[uu]at hgv;split at hgv
     ·rename_i bb hv;exact⟨_,hv,by simp⟩
     ·rename_i g1 w1 bb hv;exact⟨_,hv,by simp⟩
     ·cases hgv
    ·cases h
   ·cases h
theorem wK{listed:Array Bool}{j:Nat}:listed.getD j true=false↔listed[j]?=some false:=by
 rw[j7];cases h:listed[j]? with
 |none=>simp
 |some b=>cases b<;>simp
theorem FN{listed:Array Bool}{j:Nat}:listed.getD j false=true↔listed[j]?=some true:=by
 rw[j7];cases h:listed[j]? with
 |none=>simp
 |some b=>cases b<;>simp
theorem Mid.slots{cx:Cx K}{L:List Oper}{bm dF:List (AV K)}{vals:Nat->AV K}{bs:List Nat}(hbs:bs=fk L [])(he:gW L 0=true){listed:Array Bool}{a:Act}
 (hm:Mid cx L bm vals H ρ S listed a w) (hd:zU cx L bs H bm dF vals) (h0:cH bm) {j:Nat} {o:Oper} (ho:L[j]?=some o) (eP:listed[j]?=some false) (iT:∀e∈o.after,listed[e.on]?=some true) {cm:List (AV K)} (hl:cm.length=bm.length)
 (h1:∀(k:Nat) o' d,L[k]?=some o'->o'.dst=some d->k<j->cm[d]?=some (vals k)) (h2:∀t,(∀(k:Nat) o,k<j->L[k]?=some o->o.dst≠some t)->cm[t]?=bm[t]?):dD cx.D ρ S w (dm (dE bs j) L 0 cm) a.tmps/\
   ∀(t:Nat) v,(dm (dE bs j) L 0 cm)[t]?=some v->v≠.any->(∀(k:Nat) o',k<j->L[k]?=some o'->o'.dst≠some t)\/∃(k:Nat)(o':Oper),L[k]?=some o'/\o'.dst=some t/\listed[k]?=some true:=by
 have key:∀(t:Nat) v,(dm (dE bs j) L 0 cm)[t]?=some v->v≠.any->(((∀(k:Nat) o',k<j->L[k]?=some o'->o'.dst≠some t)/\(∀(k:Nat) o,L[k]?=some o->o.dst=some t->listed[k]?≠some true))/\bm[t]?=some v)\/∃(k:Nat)(o':Oper),L[k]?=some o'/\o'.dst=some t/\listed[k]?=some true/\v=vals k:=fun t v hv hne=>by
  obtain⟨g1,g2⟩:=FG L 0 cm t v hv hne;rcases uU L t with hn|⟨k,o',hk,hkd⟩
  ·exact .inl ⟨⟨fun k o' _ h=>hn k o' h,fun k o' h h'=>absurd h' (hn k o' h)⟩,by rw[<-h2 t fun k o' _ h=>hn k o' h];exact g1⟩
  ·have hb:=g2 k o' hk hkd;rw[dB,hbs]at hb;rcases Rh hb with hb|hb
   ·obtain⟨c1,c2⟩:=oC he (T:=fun i=>listed[i]?=some true) (fun i o hi kg=>hm.closed i o hi kg) j o ho iT k hb;have:=h1 k o' t hk hkd c2;rw[g1]at this;exact .inr ⟨k,o',hk,hkd,c1,by simpa using this⟩
   ·have c0:=(oC he (T:=fun _=>True) (fun _ _ _ _ _ _=>trivial) k o' hk (fun _ _=>trivial) j hb).2;have hun:listed[k]?≠some true:=fun hlk=>by
     have:=(oC he (T:=fun i=>listed[i]?=some true) (fun i o hi kg=>hm.closed i o hi kg) k o' hk (hm.closed k o' hk hlk) j hb).1;rw[eP]at this;cases this
    have wL:∀(k':Nat) o1,L[k']?=some o1->o1.dst=some t->k'=k:=fun k' o1 h1 h2=>hd.uniq k' k o1 o' t h1 hk h2 hkd
    have hlt:∀(k':Nat) o1,k'<j->L[k']?=some o1->o1.dst≠some t:=fun k' o1 hk' h1 h2=>by have:=wL k' o1 h1 h2;omega
    exact .inl ⟨⟨hlt,fun k' o1 h1 h2=>by rw[wL k' o1 h1 h2];exact hun⟩,by rw[<-h2 t hlt];exact g1⟩
 refine⟨⟨by rw[FH,hl,hm.size],fun t v x hv hx=>?_⟩,fun t v hv hne=>?_⟩
 ·by_cases hne:v=.any
  ·subst hne;exact .gU (.any x)
  ·rcases key t v hv hne with⟨⟨-,hn⟩,g⟩|⟨k,o',hk,hkd,hlk,rfl⟩
   ·exact .gU (hm.base t v x hn g hx)
   ·exact hm.done k o' t x hk hlk hkd hx
 ·rcases key t v hv hne with⟨⟨hn,-⟩,-⟩|⟨k,o',hk,hkd,hlk,-⟩
  ·exact .inl hn
  ·exact .inr ⟨k,o',hk,hkd,hlk⟩
theorem Mid.put{cx:Cx K}{L:List Oper}{bm dF:List (AV K)}{vals:Nat->AV K}{bs:List Nat}{listed:Array Bool}{a:Act}(hm:Mid cx L bm vals H ρ S listed a w)(hd:zU cx L bs H bm dF vals){j:Nat}{o:Oper}(ho:L[j]?=some o)
 (hj:listed[j]?=some false) (iT:∀e∈o.after,listed[e.on]?=some true) {u:Value} (hs':aL cx.D ρ' S' w' H) (hst:Step cx.D H.length ρ S H w ρ' S' H w') (hv:dk cx.D ρ' S' w' a.tmps (vals j) u)
 (js:∀g b y,vals j=.opt g b y->∃(k':Nat)(o':Oper),L[k']?=some o'/\o'.dst=some g/\listed[k']?=some true):Mid cx L bm vals H ρ' S' (listed.setIfInBounds j true) (a.put o.dst u) w':=by
 have hjs:j<listed.size:=(gB.1 hj).1;have hget:∀(k:Nat),(listed.setIfInBounds j true)[k]?=some true↔(k=j\/listed[k]?=some true):=fun k=>by
  rw[lr];by_cases hk:j=k
  ·subst hk;simp[hjs]
  ·rw[ax hk];simp[lu hk]
 have hmono:∀{v:AV K}{x:Value},Rep cx.D ρ S w v x->Rep cx.D ρ' S' w' v x:=fun h=>h.mono hst.s1 (hst.we hm.heap) (hst.FO hm.heap)
 have Rn:∀{v:AV K}{x:Value}{tmps:Array Value},dk cx.D ρ S w tmps v x->dk cx.D ρ' S' w' tmps v x:=fun h=>h.mono hst.s1 (hst.we hm.heap) (hst.FO hm.heap)
 have hclosed:∀(k:Nat) o1,L[k]?=some o1->(listed.setIfInBounds j true)[k]?=some true->∀e∈o1.after,(listed.setIfInBounds j true)[e.on]?=some true:=fun k o1 hk hlk e he=>by
  rw[hget]at hlk⊢;rcases hlk with rfl|hlk
  ·rw[ho]at hk;simp at hk;subst hk;exact .inr (iT e he)
  ·exact .inr (hm.closed k o1 hk hlk e he)
 have wM:∀(k g:Nat) b y,(listed.setIfInBounds j true)[k]?=some true->vals k=.opt g b y->∃(k':Nat)(o':Oper),L[k']?=some o'/\o'.dst=some g/\(listed.setIfInBounds j true)[k']?=some true:=fun k g b y hlk hvk=>by
  rw[hget]at hlk;rcases hlk with rfl|hlk
  ·obtain⟨k',o',h1,h2,h3⟩:=js g b y hvk;exact⟨k',o',h1,h2,(hget k').2 (.inr h3)⟩
  ·obtain⟨k',o',h1,h2,h3⟩:=hm.opts k g b y hlk hvk;exact⟨k',o',h1,h2,(hget k').2 (.inr h3)⟩
 cases hdst:o.dst with
 |none=>
  refine⟨hs',hm.defers,hm.size,by simp[hm.kf],fun t v x h1 h2 h3=>hmono (hm.base t v x (fun k o1 hk hd1 hl=>h1 k o1 hk hd1 ((hget k).2 (.inr hl))) h2 h3),fun k o1 d x hk hlk hd1 hx=>?_,wM,hclosed⟩;rw[hget]at hlk;rcases hlk with rfl|hlk
  ·rw[ho]at hk;simp at hk;subst hk;rw[hdst]at hd1;cases hd1
  ·exact Rn (hm.done k o1 d x hk hlk hd1 hx)
 |some d=>
  have hne:∀{k:Nat}{o1:Oper},L[k]?=some o1->listed[k]?=some true->o1.dst≠some d:=fun{k o1} hk hlk hd1=>by
   have:=hd.uniq k j o1 o d hk ho hd1 hdst;subst this;rw[hj]at hlk;cases hlk
  refine⟨hs',hm.defers,by simp[Act.put,hm.size],by simp[hm.kf],fun t v x h1 h2 h3=>?_,fun k o1 d1 x hk hlk hd1 hx=>?_,wM,hclosed⟩
  ·have:d≠t:=fun e=>by subst e;exact h1 j o ho hdst ((hget j).2 (.inl rfl))
   simp only[Act.put,lr,ax this]at h3;exact hmono (hm.base t v x (fun k o1 hk hd1 hl=>h1 k o1 hk hd1 ((hget k).2 (.inr hl))) h2 h3)
  ·rw[hget]at hlk;simp only[Act.put]at hx⊢;rw[lr]at hx;rcases hlk with rfl|hlk
   ·rw[ho]at hk;simp at hk;subst hk;rw[hdst]at hd1;simp at hd1;subst hd1;rw[aC rfl]at hx;split at hx
    ·simp at hx;subst hx;refine hv.put fun g b y e he=>?_
     obtain⟨k',o',h1,h2,h3⟩:=js g b y e;subst he;exact hne h1 h3 h2
    ·cases hx
   ·have hdd:d≠d1:=fun e=>by subst e;exact hne hk hlk hd1
    rw[ax hdd]at hx;refine(Rn (hm.done k o1 d1 x hk hlk hd1 hx)).put fun g b y e he=>?_
    obtain⟨k',o',h1,h2,h3⟩:=hm.opts k g b y hlk e;subst he;exact hne h1 h3 h2
def todo(listed:Array Bool):Nat:=(listed.toList.filter fun b=> !b).length
theorem Ro{listed:Array Bool}{j:Nat}(h:listed[j]?=some false):todo (listed.setIfInBounds j true)+1=todo listed:=by
 have key:∀(l:List Bool)(j:Nat),l[j]?=some false->((l.set j true).filter fun b=> !b).length+1=(l.filter fun b=> !b).length:=fun l=>by
  induction l with
  |nil=>intro j h;simp at h
  |cons x r ih=>
   intro j h;cases j with
   |zero=>simp at h;subst h;simp
   |succ j=>
    have:=ih j (by simpa using h);simp only[List.set_cons_succ,List.filter_cons];cases x
    ·simp only[iE,dC,cV];omega
    ·simp only[d5,gi,dN];omega
 simp only[todo,Array.toList_setIfInBounds];exact key _ _ (by simpa using h)
theorem Rq{listed:Array Bool}(h:todo listed=0){j:Nat}:listed[j]?≠some false:=fun hj=>by
 have hm:false∈listed.toList:=by
  rw[List.mem_iff_getElem?];exact⟨j,by simpa using hj⟩
 have:false∈listed.toList.filter fun b=> !b:=by simp[hm]
 rw[iW h]at this;cases this
theorem Rr{L:List Oper}(he:gW L 0=true){listed:Array Bool}(hl:listed.size=L.length)(hr:Region.ready .any L.toArray listed=[]):∀(i:Nat),i<L.length->listed[i]?=some true:=by
 intro i
 induction i using Nat.strongRecOn with
 |_ i ih=>
  intro hi;have ho:=bL hi;cases hb:listed[i]? with
  |none=>rw[Array.getElem?_eq_none_iff]at hb;omega
  |some b=>
   cases b with
   |true=>rfl
   |false=>
    have:i∈Region.ready .any L.toArray listed:=mem_ready.2 ⟨wK.2 hb,L[i],by simp[hi],fun e qW _=>by
     have:=(wJ L 0 i _ he ho e qW).1;exact FN.2 (ih e.on (by omega) (by omega))⟩
    rw[hr]at this;cases this
theorem afg{cx:Cx K}(hD:bg cx.D)(hc:aI cx){L:List Oper}(FP:∀(i:Nat) o,L[i]?=some o->ke cx o.op=true)(he:gW L 0=true){bm dF:List (AV K)}{vals:Nat->AV K}(hd:zU cx L (fk L []) H bm dF vals)(h0:cH bm)
 {n0:Nat} (hn:n0<=H.length) {Q:Exit->Act->World->Prop}:∀(fuel:Nat)(listed:Array Bool)(ρ:List Value)(S:Nat->Prop)(a:Act)(w:World),Mid cx L bm vals H ρ S listed a w->todo listed<=fuel->
 (∀ρ' S' a' w',aL cx.D ρ' S' w' H->dD cx.D ρ' S' w' dF a'.tmps->a'.defers=[]->Step cx.D n0 ρ S H w ρ' S' H w'->Q .normal a' w')->wpAny cx.P .any L.toArray Q fuel listed a w:=by
 have hfin:∀(listed:Array Bool)(ρ:List Value)(S:Nat->Prop)(a:Act)(w:World),Mid cx L bm vals H ρ S listed a w->Region.ready .any L.toArray listed=[]->dD cx.D ρ S w dF a.tmps:=fun listed ρ S a w hm hr=>by
  have hall:=Rr he hm.kf hr;refine⟨by rw[hd.len,hm.size],fun t v x hv hx=>?_⟩;rcases uU L t with hnd|⟨k,o,hk,hkd⟩
  ·rw[hd.rest t hnd]at hv;exact .gU (hm.base t v x (fun k o hk hkd=>absurd hkd (hnd k o hk)) hv hx)
  ·rw[hd.fin k o t hk hkd]at hv;simp only[av]at hv;subst hv;exact hm.done k o t x hk (hall k (bk.1 hk).1) hkd hx
 intro fuel
 induction fuel with
 |zero=>
  intro listed ρ S a w hm ht hq;have hr:Region.ready .any L.toArray listed=[]:=by
   cases hh:Region.ready .any L.toArray listed with
   |nil=>rfl
   |cons j r=>
    have:j∈Region.ready .any L.toArray listed:=by rw[hh];simp
    exact absurd (wK.1 (mem_ready.1 this).1) (Rq (by omega))
  exact⟨hr,hq ρ S a w hm.heap (hfin listed ρ S a w hm hr) hm.defers Step.refl⟩
 |succ fuel ih=>
  intro listed ρ S a w hm ht hq;refine⟨fun hr=>hq ρ S a w hm.heap (hfin listed ρ S a w hm hr) hm.defers Step.refl,fun j hj=>?_⟩;obtain⟨mz,o,hoj,hall⟩:=mem_ready.1 hj;have eP:=wK.1 mz;have ho:L[j]?=some o:=by simpa using hoj
  have iT:∀e∈o.after,listed[e.on]?=some true:=fun e qW=>FN.1 (hall e qW (wJ L 0 j o he ho e qW).2)
  obtain⟨cm,cU,H1,s1,s2,s3,s4,s5⟩:=hd.slot j o ho;obtain⟨hsl,hkn⟩:=hm.slots rfl he hd h0 ho eP iT s2 s3 s4;have hH1:H1=H:=by
   have hsm:=FP j o ho;unfold fA at s1;split at s1
   ·cases s1
   ·split at s1
    ·rename_i hy;split at s1
     ·cases s1
     ·simp only[av,aJ]at s1;obtain⟨-,rfl,-⟩:=s1;exact uV hy
    ·cases s1
   ·split at s1
    ·split at s1
     ·split at s1
      ·split at s1
       ·rename_i hy;split at s1
        ·cases s1
        ·simp only[av,aJ]at s1;obtain⟨-,rfl,-⟩:=s1;exact uV hy
       ·cases s1
      ·simp only[av,aJ]at s1;exact s1.2.1.symm
     ·cases s1
    split at s1
    ·cases s1
    ·split at s1
     ·split at s1
      ·simp only[av,aJ]at s1;exact s1.2.1.symm
      ·cases s1
     ·cases s1
  subst hH1;have js:∀g b y,vals j=.opt g b y->∃(k':Nat)(o':Oper),L[k']?=some o'/\o'.dst=some g/\listed[k']?=some true:=fun g b y e=>by
   rw[e]at s1;obtain⟨v,g1,g2⟩:=Rm s1;rcases hkn g v g1 g2 with hn'|h
   ·obtain⟨k,o',hk,h2,h3⟩:=s5 g (qX s1 g b y rfl);exact absurd h3 (hn' k o' hk h2)
   ·exact h
  have hw:=FQ hD hc hm.heap hsl (ops:=L) s1 rfl (k:=wpAny cx.P .any L.toArray Q fuel (listed.setIfInBounds j true)) (Q:=Q) fun u ρ1 S1 w1 q1 q2 q3=>by
   have hm1:=hm.put hd ho eP iT q1 q3 q2 js;refine ih _ ρ1 S1 _ w1 hm1 (by have:=Ro eP;omega) fun ρ' S' a' w' g1 g2 g3 g4=>hq ρ' S' a' w' g1 g2 g3 ((q3.weaken hn).trans g4)
  unfold wpOp;rw[hoj];dsimp only;split
  ·rename_i hwt;rw[aC hwt]at hw;exact .inl hw
  ·rename_i hwt;rw[ax hwt]at hw;exact hw
theorem Rt(n:Nat):todo (Array.replicate n false)<=n:=by
 simp only[todo,Array.toList_replicate];exact eU (List.length_filter_le _ _) (by simp)
end Go.V
