/-
  SUCH A REGION IN WHATEVER ORDER: one operation more.
-/
import Derived.Test.YtghkckfhaljjjaaGreatDoorXWfreeA
set_option linter.unusedVariables false
namespace Go.V
open Go
variable {K :dh}{ρ ρ':List Value}{S S':Nat->Prop}{w w':World}{H H':List (Ob K)}{D:bH K}
theorem eM.take(hD:bR D){n:Nat}{tmps:Array Value}{v:AV K}{x:Value}(h:eM D ρ S w tmps v x)(hu:v.upto n=true):eM D (ρ.take n) S w tmps v x:=by
 cases v with
 |opt g b v=>
  simp only[eM]at h⊢;rcases h with⟨h1,h2⟩|h
  ·exact .inl ⟨h1,h2.take hD (by simpa [AV.upto]using hu)⟩
  ·exact .inr h
 |_=>exact Rep.take hD h hu
theorem eM.mono'{tmps:Array Value}(hS:∀b,S b->S' b)(hw:∀b,S b->w'.heap[b]?=w.heap[b]?)(hρ:∀(h:Nat) r,ρ[h]?=some r->r≠dummy->ρ'[h]?=some r){v:AV K}{x:Value}(h:eM D ρ S w tmps v x):eM D ρ' S' w' tmps v x:=by
 cases v with
 |opt g b v=>
  simp only[eM]at h⊢;rcases h with⟨h1,h2⟩|h
  ·exact .inl ⟨h1,h2.mono' hS hw hρ⟩
  ·exact .inr h
 |_=>exact Rep.mono' hS hw hρ h
section
variable {cx :Cx K}{L:List Oper}{bs:List Nat}{H0:List (Ob K)}{bY ff:List (AV K)}{F:kH K}{HF:List (Ob K)}{wr:List Nat}{ms:List (Nat×Nat)}{ws:List Nat}{listed:Array Bool}{a:Act}
theorem jW.slots(hD:bR cx.D)(hbs:bs=iF L [])(he:jV L 0=true)(hp:gw cx L bs H0 bY F L.length ff HF wr ms ws)(hm:jW cx L bs bY F H0 HF H ρ S listed a w){j:Nat}{o:Oper}(ho:L[j]?=some o)(ib:listed[j]?=some false)(ll:∀e∈o.after,listed[e.on]?=some true){di:List (AV K)}{dU:List Nat}
 (fs:wJ cx L bs bY F j o di dU):fb cx.D (ρ.take (F.hin j).length) S w (eO (fe bs j) L 0 di) a.tmps/\
   ∀(t:Nat) v,(eO (fe bs j) L 0 di)[t]?=some v->v≠.any->(∀(k:Nat) o',k<j->L[k]?=some o'->o'.dst≠some t)\/∃(k:Nat)(o':Oper),L[k]?=some o'/\o'.dst=some t/\listed[k]?=some true:=by
 have key:∀(t:Nat) v,(eO (fe bs j) L 0 di)[t]?=some v->v≠.any->(((∀(k:Nat) o',k<j->L[k]?=some o'->o'.dst≠some t)/\(∀(k:Nat) o,L[k]?=some o->o.dst=some t->listed[k]?≠some true))/\bY[t]?=some v)\/∃(k:Nat)(o':Oper),L[k]?=some o'/\o'.dst=some t/\listed[k]?=some true/\v=F.vals k:=fun t v hv hne=>by
  obtain⟨g1,g2⟩:=Jq L 0 di t v hv hne;rcases wE L t with hn|⟨k,o',hk,hkd⟩
  ·exact .inl ⟨⟨fun k o' _ h=>hn k o' h,fun k o' h h'=>absurd h' (hn k o' h)⟩,by rw[<-fs.rest t fun k o' _ h=>hn k o' h];exact g1⟩
  ·have hb:=g2 k o' hk hkd;rw[jq,hbs]at hb;rcases OZ hb with hb|hb
   ·obtain⟨c1,c2⟩:=rN he (T:=fun i=>listed[i]?=some true) (fun i o hi gv=>hm.closed i o hi gv) j o ho ll k hb;have:=fs.fin k o' t hk hkd c2;rw[g1]at this;exact .inr ⟨k,o',hk,hkd,c1,by simpa using this⟩
   ·have c0:=(rN he (T:=fun _=>True) (fun _ _ _ _ _ _=>trivial) k o' hk (fun _ _=>trivial) j hb).2;have hun:listed[k]?≠some true:=fun hlk=>by
     have:=(rN he (T:=fun i=>listed[i]?=some true) (fun i o hi gv=>hm.closed i o hi gv) k o' hk (hm.closed k o' hk hlk) j hb).1;rw[ib]at this;cases this
    have zd:∀(k':Nat) o1,L[k']?=some o1->o1.dst=some t->k'=k:=fun k' o1 h1 h2=>hp.uniq k' k o1 o' t (bD.1 h1).1 (bD.1 hk).1 h1 hk h2 hkd
    have hlt:∀(k':Nat) o1,k'<j->L[k']?=some o1->o1.dst≠some t:=fun k' o1 hk' h1 h2=>by have:=zd k' o1 h1 h2;omega
    exact .inl ⟨⟨hlt,fun k' o1 h1 h2=>by rw[zd k' o1 h1 h2];exact hun⟩,by rw[<-fs.rest t hlt];exact g1⟩
 refine⟨⟨by rw[Jr,fs.len,hm.size],fun t v x hv hx=>?_⟩,fun t v hv hne=>?_⟩
 ·by_cases hne:v=.any
  ·subst hne;exact .jR (.any x)
  ·have hu:=uB fs.up hv;rcases key t v hv hne with⟨⟨-,hn⟩,g⟩|⟨k,o',hk,hkd,hlk,rfl⟩
   ·exact(eM.jR (hm.base t v x hn g hx)).take hD hu
   ·exact(hm.done k o' t x hk hlk hkd hx).take hD hu
 ·rcases key t v hv hne with⟨⟨hn,-⟩,-⟩|⟨k,o',hk,hkd,hlk,-⟩
  ·exact .inl hn
  ·exact .inr ⟨k,o',hk,hkd,hlk⟩
theorem jW.view(hp:gw cx L bs H0 bY F L.length ff HF wr ms ws)(hm:jW cx L bs bY F H0 HF H ρ S listed a w){j:Nat}{o:Oper}(hj:j<L.length)(ib:listed[j]?=some false)
 (hA:∀k,(bs.getD j 0).testBit k=true->listed[k]?=some true) (hcl:∀i k,listed[i]?=some true->(bs.getD i 0).testBit k=true->listed[k]?=some true) {di:List (AV K)} {dU:List Nat} (fs:wJ cx L bs bY F j o di dU):
 View (F.hin j).length H (iN (F.mask j) 0 (F.hin j)):={
 len:=zh _ _
 le:=by rw[hm.hlen];have:=hp.mono (show j<=L.length by omega) (fh _);rw[hp.hn]at this;exact this
 ob:=fun h o ho=>by
  rw[zg,jq]at ho;cases hb:(F.mask j).testBit h with
  |true=>
   rw[hb]at ho;cases hx:(F.hin j)[h]? with
   |none=>rw[hx]at ho;cases ho
   |some y=>rw[hx]at ho;simp at ho;exact .inl ho.symm
  |false=>
   rw[hb]at ho;cases hx:(F.hin j)[h]? with
   |none=>rw[hx]at ho;cases ho
   |some y=>
    rw[hx]at ho;simp at ho;subst ho;exact .inr (by rw[hm.sees hp hj ib hA hcl (bD.1 hx).1 hb];exact hx)
 up:=fun h o ho=>by
  have:=fs.DY;rw[fN]at this;exact this o (eN ho)}
def after(F:kH K)(j:Nat)(H:List (Ob K)):List (Ob K):=kF (F.mask j) 0 (H.take (F.hin j).length) (F.hout j)++H.drop (F.hout j).length
theorem ae6{j:Nat}(h1:(F.hin j).length<=(F.hout j).length)(h2:(F.hout j).length<=H.length)(h:Nat):
 (after F j H)[h]?=if h<(F.hout j).length then(if h<(F.hin j).length/\(F.mask j).testBit h=true then H[h]? else(F.hout j)[h]?)else H[h]?:=by
 have hl:(H.take (F.hin j).length).length=(F.hin j).length:=by rw[om];omega
 have hml:(kF (F.mask j) 0 (H.take (F.hin j).length) (F.hout j)).length=(F.hout j).length:=DU _ _ _ (by omega);unfold after;by_cases hh:h<(F.hout j).length
 ·rw[b9 (by omega),aY hh,DV _ _ _ _ (by omega),hl,jq];by_cases hc:h<(F.hin j).length/\(F.mask j).testBit h=true
  ·rw[aY hc,aY hc,fa,aY hc.1]
  ·rw[aT hc,aT hc]
 ·rw[eR (by omega),aT hh,hml,iY];congr 1;omega
theorem after_length{j:Nat}(h1:(F.hin j).length<=(F.hout j).length)(h2:(F.hout j).length<=H.length):(after F j H).length=H.length:=by
 have hl:(H.take (F.hin j).length).length=(F.hin j).length:=by rw[om];omega
 unfold after;rw[aN,DU _ _ _ (by omega),List.length_drop];omega
end
end Go.V
namespace Go.V
open Go
variable {K :dh}{ρ ρ':List Value}{S S':Nat->Prop}{w w':World}{H H':List (Ob K)}{D:bH K}
section
variable {cx :Cx K}{L:List Oper}{bs:List Nat}{H0:List (Ob K)}{bY ff:List (AV K)}{F:kH K}{HF:List (Ob K)}{wr:List Nat}{ms:List (Nat×Nat)}{ws:List Nat}{listed:Array Bool}{a:Act}
theorem jW.put(hD:bR cx.D)(hp:gw cx L bs H0 bY F L.length ff HF wr ms ws)(hm:jW cx L bs bY F H0 HF H ρ S listed a w){j:Nat}{o:Oper}(ho:L[j]?=some o)(ib:listed[j]?=some false)(ll:∀e∈o.after,listed[e.on]?=some true)
 (hA:∀k,(bs.getD j 0).testBit k=true->listed[k]?=some true) (hcl:∀i k,listed[i]?=some true->(bs.getD i 0).testBit k=true->listed[k]?=some true) {di:List (AV K)} {dU:List Nat} (fs:wJ cx L bs bY F j o di dU)
 {ρ1:List Value} {S1:Nat->Prop} {w1:World} {u:Value} (hs1:aS cx.D ρ1 S1 w1 (F.hout j)) (hst:Step cx.D (F.hin j).length (ρ.take (F.hin j).length) S (iN (F.mask j) 0 (F.hin j)) w ρ1 S1 (F.hout j) w1) (hv:eM cx.D ρ1 S1 w1 a.tmps (F.vals j) u)
 (lW:∀g b y,F.vals j=.opt g b y->∃(k':Nat)(o':Oper),L[k']?=some o'/\o'.dst=some g/\listed[k']?=some true) {n0:Nat} (hn0:n0<=H0.length):
 jW cx L bs bY F H0 HF (after F j H) (ρ1++ρ.drop (F.hout j).length) S1 (listed.setIfInBounds j true) (a.put o.dst u) w1/\Step cx.D n0 ρ S H w (ρ1++ρ.drop (F.hout j).length) S1 (after F j H) w1:=by
 have hj:j<L.length:=(bD.1 ho).1;have hjs:j<listed.size:=(kE.1 ib).1;have hnm:=(hp.hs j hj).2;have hmN:(F.hout j).length<=H.length:=by
  have:=hp.mono (show j+1<=L.length by omega) (fh _);rw[hp.rP hj,hp.hn]at this;rw[hm.hlen];exact this
 have h0n:H0.length<=(F.hin j).length:=by have:=hp.mono (dN j) (by omega);rw[hp.h0]at this;exact this
 have hlt:∀k,listed[k]?=some true->k<L.length:=fun k hk=>by have:=(kE.1 hk).1;rw[hm.nr]at this;exact this
 have hne:∀k,listed[k]?=some true->k≠j:=fun k hk e=>by subst e;rw[ib]at hk;cases hk
 have view:=hm.view hp hj ib hA hcl fs;have hd:∀h,(F.hin j).length<=h->h<(F.hout j).length->ρ[h]?=some dummy:=fun h h1 h2=>
  hm.PV h (by omega) (by rw[<-hm.hlen];omega) fun k hk ⟨h3,h4⟩=>hne k hk (hp.maker hj (hlt k hk) h1 h2 h3 h4).symm
 have ag:=ae6 (F:=F) (H:=H) hnm hmN;have joined:Joined (F.hin j).length (F.hout j).length H (iN (F.mask j) 0 (F.hin j)) (F.hout j) (after F j H):=⟨hnm,rfl,after_length hnm hmN,hmN,fun h o1 h1=>by
  rw[ag]at h1;by_cases hh:h<(F.hout j).length
  ·rw[aY hh]at h1;by_cases hc:h<(F.hin j).length/\(F.mask j).testBit h=true
   ·rw[aY hc]at h1;refine .inr ⟨h1,.inl ⟨hc.1,?_⟩⟩;rw[zg,jq,hc.2,cH hc.1];rfl
   ·rw[aT hc]at h1;exact .inl ⟨hh,h1⟩
  ·rw[aT hh]at h1;exact .inr ⟨h1,.inr (by omega)⟩⟩
 obtain⟨PW,stF,hmono⟩:=hm.heap.join (n0:=n0) view hs1 hst joined hd (by omega);have hl1:ρ1.length=(F.hout j).length:=hs1.len;have hρ:=PD (n:=0) (ρ:=ρ) (ρ1:=ρ1) hl1 (by rw[hm.heap.len];exact hmN);have hread:∀b,S b->w1.heap[b]?=w.heap[b]?:=fun b hb=>hst.old b (hm.heap.slt b hb) fun h=>(hm.heap.lt b (view.own h)).2 hb
 have hrep:∀{v:AV K}{x:Value},Rep cx.D ρ S w v x->Rep cx.D (ρ1++ρ.drop (F.hout j).length) S1 w1 v x:=fun h=>h.mono' hst.s1 hread hmono
 have rO:∀{v:AV K}{x:Value}{tmps:Array Value},eM cx.D ρ S w tmps v x->eM cx.D (ρ1++ρ.drop (F.hout j).length) S1 w1 tmps v x:=fun h=>h.mono' hst.s1 hread hmono
 have hvF:eM cx.D (ρ1++ρ.drop (F.hout j).length) S1 w1 a.tmps (F.vals j) u:=hv.mono' (fun _ h=>h) (fun _ _=>rfl) fun h r hr _=>by
  have:h<(F.hout j).length:=by have:=(bD.1 hr).1;omega
  rw[hρ,aY this];exact hr
 have hget:∀(k:Nat),(listed.setIfInBounds j true)[k]?=some true↔(k=j\/listed[k]?=some true):=fun k=>by
  rw[kx];by_cases hk:j=k
  ·subst hk;simp[hjs]
  ·rw[aT hk];simp[ot hk]
 have hclosed:∀(k:Nat) o1,L[k]?=some o1->(listed.setIfInBounds j true)[k]?=some true->∀e∈o1.after,(listed.setIfInBounds j true)[e.on]?=some true:=fun k o1 hk hlk e he=>by
  rw[hget]at hlk⊢;rcases hlk with rfl|hlk
  ·rw[ho]at hk;simp at hk;subst hk;exact .inr (ll e he)
  ·exact .inr (hm.closed k o1 hk hlk e he)
 have ze:∀(k g:Nat) b y,(listed.setIfInBounds j true)[k]?=some true->F.vals k=.opt g b y->∃(k':Nat)(o':Oper),L[k']?=some o'/\o'.dst=some g/\(listed.setIfInBounds j true)[k']?=some true:=fun k g b y hlk hvk=>by
  rw[hget]at hlk;rcases hlk with rfl|hlk
  ·obtain⟨k',o',h1,h2,h3⟩:=lW g b y hvk;exact⟨k',o',h1,h2,(hget k').2 (.inr h3)⟩
  ·obtain⟨k',o',h1,h2,h3⟩:=hm.opts k g b y hlk hvk;exact⟨k',o',h1,h2,(hget k').2 (.inr h3)⟩
 have hsame:∀h,¬F.W j h->(after F j H)[h]?=H[h]?:=fun h hn=>by
  rw[ag];by_cases hh:h<(F.hout j).length
  ·rw[aY hh];by_cases hc:h<(F.hin j).length/\(F.mask j).testBit h=true
   ·rw[aY hc]
   ·rw[aT hc];have hln:h<(F.hin j).length:=by
     rcases cP h (F.hin j).length with h1|h1
     ·exact h1
     ·exact absurd (.inr ⟨h1,hh⟩) hn
    have hun:(F.mask j).testBit h=false:=by
     cases hb:(F.mask j).testBit h with
     |false=>rfl
     |true=>exact absurd ⟨hln,hb⟩ hc
    rw[fs.turns.2 h (by rw[zh];exact hln) (fun hT=>hn (.inl hT)),zg,jq,hun,hm.sees hp hj ib hA hcl hln hun];cases (F.hin j)[h]?<;>simp
  ·rw[aT hh]
 have hnew:∀h,F.W j h->(after F j H)[h]?=(F.hin (j+1))[h]?:=fun h hw=>by
  have hc:¬(h<(F.hin j).length/\(F.mask j).testBit h=true):=fun⟨h1,h2⟩=>by
   rcases hw with hT|hT
   ·have:=(hp.clear j hj h hT).1;rw[h2]at this;cases this
   ·omega
  have hh:h<(F.hout j).length:=by
   rcases hw with hT|hT
   ·have:=(hp.clear j hj h hT).2;omega
   ·exact hT.2
  rw[ag,aY hh,aT hc,(hp.hs j hj).1,DV _ _ _ _ hnm,jq,aT hc]
 have c0:∀h,(∀k,(listed.setIfInBounds j true)[k]?=some true->¬F.W k h)->h<HF.length->(h<H0.length->(after F j H)[h]?=H0[h]?)/\(H0.length<=h->(after F j H)[h]?=some .dead):=fun h hno hh=>by
  rw[hsame h (hno j ((hget j).2 (.inl rfl)))];exact hm.JS h (fun k hk=>hno k ((hget k).2 (.inr hk))) hh
 have ck:∀h k,(listed.setIfInBounds j true)[k]?=some true->F.W k h->(∀k',(listed.setIfInBounds j true)[k']?=some true->F.W k' h->k'<=k)->(after F j H)[h]?=(F.hin (k+1))[h]?:=fun h k hk hw hmax=>by
  by_cases hkj:k=j
  ·subst hkj;exact hnew h hw
  ·have hk':listed[k]?=some true:=((hget k).1 hk).resolve_left hkj;have uC:¬F.W j h:=fun JV=>by
    have hjk:j<k:=by have:=hmax j ((hget j).2 (.inl rfl)) JV;omega
    have mw:=hlt k hk';have hlen:=hp.mono (show j+1<=k by omega) (by omega);rw[hp.rP hj]at hlen;have hb:(bs.getD k 0).testBit j=false:=by
     cases hb:(bs.getD k 0).testBit j with
     |false=>rfl
     |true=>have:=hcl k j hk' hb;rw[ib]at this;cases this
    have hmk:=hp.masks k mw h ⟨j,hjk,hb,JV⟩;rcases hw with hT|hT
    ·have:=(hp.clear k mw h hT).1;rw[hmk]at this;cases this
    ·have:h<(F.hout j).length:=by
      rcases JV with h1|h1
      ·have:=(hp.clear j hj h h1).2;omega
      ·exact h1.2
     omega
   rw[hsame h uC];exact hm.JU h k hk' hw fun k' a b=>hmax k' ((hget k').2 (.inr a)) b
 have cd:∀h,H0.length<=h->h<HF.length->(∀k,(listed.setIfInBounds j true)[k]?=some true->¬((F.hin k).length<=h/\h<(F.hout k).length))->(ρ1++ρ.drop (F.hout j).length)[h]?=some dummy:=fun h h1 h2 hno=>by
  have h3:=hm.PV h h1 h2 fun k hk=>hno k ((hget k).2 (.inr hk))
  have h4:=hno j ((hget j).2 (.inl rfl));rw[hρ];by_cases hh:h<(F.hout j).length
  ·have hl:h<(F.hin j).length:=by
    rcases cP h (F.hin j).length with h5|h5
    ·exact h5
    ·exact absurd ⟨h5,hh⟩ h4
   rw[aY hh,hst.pre h hl,fa,aY hl];exact h3
  ·rw[aT hh];exact h3
 have hlen2:(after F j H).length=HF.length:=by rw[after_length hnm hmN,hm.hlen]
 refine⟨?_,stF⟩;cases hdst:o.dst with
 |none=>
  refine⟨PW,hlen2,hm.defers,hm.size,by simp[hm.nr],fun t v x h1 h2 h3=>hrep (hm.base t v x (fun k o1 hk hd1 hl=>h1 k o1 hk hd1 ((hget k).2 (.inr hl))) h2 h3),fun k o1 d x hk hlk hd1 hx=>?_,ze,hclosed,c0,ck,cd⟩;rw[hget]at hlk;rcases hlk with rfl|hlk
  ·rw[ho]at hk;simp at hk;subst hk;rw[hdst]at hd1;cases hd1
  ·exact rO (hm.done k o1 d x hk hlk hd1 hx)
 |some d=>
  have JW:∀{k:Nat}{o1:Oper},L[k]?=some o1->listed[k]?=some true->o1.dst≠some d:=fun{k o1} hk hlk hd1=>by
   have:=hp.uniq k j o1 o d (hlt k hlk) hj hk ho hd1 hdst;exact hne k hlk this
  refine⟨PW,hlen2,hm.defers,by simp[Act.put,hm.size],by simp[hm.nr],fun t v x h1 h2 h3=>?_,fun k o1 d1 x hk hlk hd1 hx=>?_,ze,hclosed,c0,ck,cd⟩
  ·have:d≠t:=fun e=>by subst e;exact h1 j o ho hdst ((hget j).2 (.inl rfl))
   simp only[Act.put,kx,aT this]at h3;exact hrep (hm.base t v x (fun k o1 hk hd1 hl=>h1 k o1 hk hd1 ((hget k).2 (.inr hl))) h2 h3)
  ·rw[hget]at hlk;simp only[Act.put]at hx⊢;rw[kx]at hx;rcases hlk with rfl|hlk
   ·rw[ho]at hk;simp at hk;subst hk;rw[hdst]at hd1;simp at hd1;subst hd1;rw[aY rfl]at hx;split at hx
    ·simp at hx;subst hx;refine hvF.put fun g b y e he=>?_
     obtain⟨k',o',h1,h2,h3⟩:=lW g b y e;subst he;exact JW h1 h3 h2
    ·cases hx
   ·have hdd:d≠d1:=fun e=>by subst e;exact JW hk hlk hd1
    rw[aT hdd]at hx;refine(rO (hm.done k o1 d1 x hk hlk hd1 hx)).put fun g b y e he=>?_
    obtain⟨k',o',h1,h2,h3⟩:=hm.opts k g b y hlk e;subst he;exact JW h1 h3 h2
end
end Go.V
namespace Go.V
open Go
variable {K :dh}{ρ ρ':List Value}{S S':Nat->Prop}{w w':World}{H H':List (Ob K)}{D:bH K}
def nt(H0:List (Ob K))(n:Nat):List (Ob K):=H0++List.replicate (n-H0.length) .dead
def my(ρ:List Value)(n:Nat):List Value:=ρ++List.replicate (n-ρ.length) dummy
theorem PX{H0:List (Ob K)}{n:Nat}(h:H0.length<=n):(nt H0 n).length=n:=by simp[nt];omega
theorem PY{n h:Nat}{r:Value}(hr:ρ[h]?=some r):(my ρ n)[h]?=some r:=by
 unfold my;rw[b9 (bD.1 hr).1];exact hr
theorem PZ{H0:List (Ob K)}{n h:Nat}{o:Ob K}(ho:(nt H0 n)[h]?=some o):H0[h]?=some o\/(H0.length<=h/\o=.dead):=by
 unfold nt at ho;rcases cP h H0.length with h1|h1
 ·rw[b9 h1]at ho;exact .inl ho
 ·rw[eR h1,m8]at ho;split at ho
  ·simp at ho;exact .inr ⟨h1,ho.symm⟩
  ·cases ho
theorem DZ{H0:List (Ob K)}{n h:Nat}{o:Ob K}{r:Value}(hl:ρ.length=H0.length)(ho:(nt H0 n)[h]?=some o)(hlv:o.live=true)(hr:(my ρ n)[h]?=some r):H0[h]?=some o/\ρ[h]?=some r:=by
 rcases PZ ho with h1|⟨-,rfl⟩
 ·have:h<ρ.length:=by rw[hl];exact(bD.1 h1).1
  unfold my at hr;rw[b9 this]at hr;exact⟨h1,hr⟩
 ·cases hlv
theorem aS.pad{H0:List (Ob K)}(hs:aS D ρ S w H0){n:Nat}(hn:H0.length<=n):aS D (my ρ n) S w (nt H0 n):=by
 have own:∀b,Own D w (my ρ n) (nt H0 n) b->Own D w ρ H0 b:=fun b ⟨h,o,r,h1,h2,h3,h4⟩=>by
  obtain⟨g1,g2⟩:=DZ hs.len h1 h2 h3;exact⟨h,o,r,g1,h2,g2,h4⟩
 refine⟨by rw[PX hn];simp[my];have:=hs.len;omega,fun h o r h1 h2=>?_,fun h h' o o' r r' b h1 h2 h3 h4 h5 h6 h7 h8=>?_,fun b hb=>hs.lt b (own b hb),hs.slt,hs.base⟩
 ·rcases PZ h1 with h3|⟨-,rfl⟩
  ·have:h<ρ.length:=by rw[hs.len];exact(bD.1 h3).1
   have h4:ρ[h]?=some r:=by unfold my at h2;rwa [b9 this]at h2
   refine(hs.ob h o r h3 h4).mono' (fun _ h=>h) (fun _ _=>rfl) (fun h' r' hr' _=>PY hr') fun _ _ _=>rfl
  ·trivial
 ·obtain⟨g1,g2⟩:=DZ hs.len h1 h2 h3;obtain⟨k1,k2⟩:=DZ hs.len h5 h6 h7;exact hs.eV h h' o o' r r' b g1 h2 g2 h4 k1 h6 k2 h8
theorem Step.pad{H0:List (Ob K)}(hs:aS D ρ S w H0){n n0:Nat}(hn:n0<=H0.length):Step D n0 ρ S H0 w (my ρ n) S (nt H0 n) w:=
 ⟨rfl,rfl,rfl,fh _,fun _ _ _=>rfl,fun b ⟨h,o,r,h1,h2,h3,h4⟩=>by
   obtain⟨g1,g2⟩:=DZ hs.len h1 h2 h3;exact .inl ⟨h,o,r,g1,h2,g2,h4⟩,fun _ h=>h,fun _ h=>.inl h,fun h hh=>by
   have:h<ρ.length:=by rw[hs.len];omega
   unfold my;rw[b9 this]⟩
section
variable {cx :Cx K}{L:List Oper}{bs:List Nat}{H0:List (Ob K)}{bY ff:List (AV K)}{F:kH K}{HF:List (Ob K)}{wr:List Nat}{ms:List (Nat×Nat)}{ws:List Nat}{listed:Array Bool}{a:Act}
theorem gw.len0(hp:gw cx L bs H0 bY F L.length ff HF wr ms ws):H0.length<=HF.length:=by
 have:=hp.mono (dN L.length) (fh _);rw[hp.h0,hp.hn]at this;exact this
theorem jW.final(hp:gw cx L bs H0 bY F L.length ff HF wr ms ws)(hm:jW cx L bs bY F H0 HF H ρ S listed a w)(hall:∀i,i<L.length->listed[i]?=some true):H=HF:=by
 have hlt:∀k,listed[k]?=some true->k<L.length:=fun k hk=>by have:=(kE.1 hk).1;rw[hm.nr]at this;exact this
 apply lh;intro h;rcases cP h HF.length with hh|hh
 ·have P0:h<(F.hin L.length).length:=by rw[hp.hn];exact hh
  by_cases hex:∃k,listed[k]?=some true/\F.W k h
  ·obtain⟨k,⟨hk1,hk2⟩,hk3⟩:=PU (p:=fun k=>listed[k]?=some true/\F.W k h) (n:=L.length) (fun k hk=>hlt k hk.1) hex;rw[hm.JU h k hk1 hk2 fun k' a b=>hk3 k' ⟨a,b⟩];have mw:=hlt k hk1;have hno:∀k',k+1<=k'->k'<L.length->¬F.W k' h:=fun k' h1 h2 hw=>by have:=hk3 k' ⟨hall k' h2,hw⟩;omega
   by_cases hl:h<(F.hin (k+1)).length
   ·rw[<-hp.stay (show k+1<=L.length by omega) (fh _) hno hl,hp.hn]
   ·exfalso;have:H0.length<=h:=by have:=hp.mono (show 0<=k+1 by omega) (show k+1<=L.length by omega);rw[hp.h0]at this;omega
    obtain⟨k',g1,g2,g3⟩:=hp.made (fh _) P0 this;by_cases hkk:k+1<=k'
    ·exact hno k' hkk g1 (.inr ⟨g2,g3⟩)
    ·have:=hp.mono (show k'+1<=k+1 by omega) (show k+1<=L.length by omega);rw[hp.rP g1]at this;omega
  ·have hno:∀k,listed[k]?=some true->¬F.W k h:=fun k a b=>hex ⟨k,a,b⟩
   have uC:∀k,0<=k->k<L.length->¬F.W k h:=fun k _ hk hw=>hno k (hall k hk) hw
   obtain⟨g1,g2⟩:=hm.JS h hno hh;by_cases h0:h<H0.length
   ·rw[g1 h0,<-hp.hn,hp.stay (dN _) (fh _) uC (by rw[hp.h0];exact h0),hp.h0]
   ·obtain⟨k',a1,a2,a3⟩:=hp.made (fh _) P0 (by omega);exact absurd (.inr ⟨a2,a3⟩) (uC k' (dN _) a1)
 ·rw[hZ (by rw[hm.hlen];exact hh),hZ hh]
theorem aeF(hD:bR cx.D)(hc:aP cx)(he:jV L 0=true)(hp:gw cx L (iF L []) H0 bY F L.length ff HF wr ms ws){n0:Nat}(hn:n0<=H0.length){Q:Exit->Act->World->Prop}:
 ∀(fuel:Nat)(listed:Array Bool)(H:List (Ob K))(ρ:List Value)(S:Nat->Prop)(a:Act)(w:World),jW cx L (iF L []) bY F H0 HF H ρ S listed a w->todo listed<=fuel->
 (∀ρ' S' a' w',aS cx.D ρ' S' w' HF->fb cx.D ρ' S' w' ff a'.tmps->a'.defers=[]->Step cx.D n0 ρ S H w ρ' S' HF w'->Q .normal a' w')->wpAny cx.P .any L.toArray Q fuel listed a w:=by
 have hfin:∀(listed:Array Bool)(H:List (Ob K))(ρ:List Value)(S:Nat->Prop)(a:Act)(w:World),jW cx L (iF L []) bY F H0 HF H ρ S listed a w->Region.ready .any L.toArray listed=[]->H=HF/\fb cx.D ρ S w ff a.tmps:=fun listed H ρ S a w hm hr=>by
  have hall:=O8 he hm.nr hr;refine⟨hm.final hp hall,by rw[hp.len,hm.size],fun t v x hv hx=>?_⟩;rcases wE L t with hnd|⟨k,o,hk,hkd⟩
  ·rw[hp.rest t fun k o _ h=>hnd k o h]at hv;exact .jR (hm.base t v x (fun k o hk hkd=>absurd hkd (hnd k o hk)) hv hx)
  ·have mw:=(bD.1 hk).1;rw[hp.fin k o t mw hk hkd]at hv;simp only[av]at hv;subst hv;exact hm.done k o t x hk (hall k mw) hkd hx
 intro fuel
 induction fuel with
 |zero=>
  intro listed H ρ S a w hm ht hq;have hr:Region.ready .any L.toArray listed=[]:=by
   cases hh:Region.ready .any L.toArray listed with
   |nil=>rfl
   |cons j r=>
    have:j∈Region.ready .any L.toArray listed:=by rw[hh];simp
    exact absurd (zc.1 (mem_ready.1 this).1) (O7 (by omega))
  obtain⟨e,hs⟩:=hfin listed H ρ S a w hm hr;subst e;exact⟨hr,hq ρ S a w hm.heap hs hm.defers Step.refl⟩
 |succ fuel ih=>
  intro listed H ρ S a w hm ht hq;refine⟨fun hr=>by
   obtain⟨e,hs⟩:=hfin listed H ρ S a w hm hr;subst e;exact hq ρ S a w hm.heap hs hm.defers Step.refl,fun j hj=>?_⟩
  obtain⟨pR,o,hoj,hall⟩:=mem_ready.1 hj;have ib:=zc.1 pR;have ho:L[j]?=some o:=by simpa using hoj
  have P1:=(bD.1 ho).1;have ll:∀e∈o.after,listed[e.on]?=some true:=fun e ux=>Jv.1 (hall e ux (zb L 0 j o he ho e ux).2)
  have hA:∀k,((iF L []).getD j 0).testBit k=true->listed[k]?=some true:=fun k hk=>
   (rN he (T:=fun i=>listed[i]?=some true) (fun i o hi gv=>hm.closed i o hi gv) j o ho ll k hk).1
  have hcl:∀i k,listed[i]?=some true->((iF L []).getD i 0).testBit k=true->listed[k]?=some true:=fun i k hi hk=>by
   have hiL:i<L.length:=by have:=(kE.1 hi).1;rw[hm.nr]at this;exact this
   exact(rN he (T:=fun i=>listed[i]?=some true) (fun i o hi gv=>hm.closed i o hi gv) i _ (cH hiL) (hm.closed i _ (cH hiL) hi) k hk).1
  obtain⟨di,dU,fs⟩:=hp.slot j o P1 ho;obtain⟨hsl,hkn⟩:=hm.slots hD rfl he hp ho ib ll fs;have view:=hm.view hp P1 ib hA hcl fs;have hsv:=hm.heap.view hD view;have main:∀q,iM q cx L (eO (fe (iF L []) j) L 0 di) (iN (F.mask j) 0 (F.hin j)) dU o=some (F.vals j,F.hout j,true)->wpOp cx.P L.toArray Q j (wpAny cx.P .any L.toArray Q fuel (listed.setIfInBounds j true)) a w:=fun q s1=>by
   have lW:∀g b y,F.vals j=.opt g b y->∃(k':Nat)(o':Oper),L[k']?=some o'/\o'.dst=some g/\listed[k']?=some true:=fun g b y e=>by
    rw[e]at s1;obtain⟨v,g1,g2⟩:=O4 s1;rcases hkn g v g1 g2 with hn'|h
    ·obtain⟨k,o',hk,h2,h3⟩:=fs.dU g (uy s1 g b y rfl);exact absurd h3 (hn' k o' hk h2)
    ·exact h
   have hw:=Jz hD hc hsv hsl (ops:=L) s1 rfl (k:=wpAny cx.P .any L.toArray Q fuel (listed.setIfInBounds j true)) (Q:=Q) fun u ρ1 S1 w1 q1 q2 q3=>by
    rw[zh]at q3;obtain⟨hm1,st1⟩:=hm.put hD hp ho ib ll hA hcl fs q1 q3 q2 lW hn;exact ih _ _ _ S1 _ w1 hm1 (by have:=O6 ib;omega) fun ρ' S' a' w' g1 g2 g3 g4=>hq ρ' S' a' w' g1 g2 g3 (st1.trans g4)
   unfold wpOp;rw[hoj];dsimp only;split
   ·rename_i hwt;rw[aY hwt]at hw;exact .inl hw
   ·rename_i hwt;rw[aT hwt]at hw;exact hw
  have s1:=fs.slot;unfold wA at s1;split at s1
  ·exact main true s1
  ·split at s1
   ·exact main false s1
   ·cases s1
theorem jW.start(hp:gw cx L bs H0 bY F L.length ff HF wr ms ws)(hs:aS cx.D ρ S w H0)(hd:a.defers=[])(hsl:fb cx.D ρ S w bY a.tmps)(h0:dC bY):
 jW cx L bs bY F H0 HF (nt H0 HF.length) (my ρ HF.length) S (Array.replicate L.length false) a w:=by
 have hf:∀(k:Nat),(Array.replicate L.length false)[k]?≠some true:=fun k e=>by
  rw[Dp]at e;split at e<;>simp at e
 have hl:=hp.len0;refine⟨hs.pad hl,PX hl,hd,hsl.len.symm,by simp,fun t v x hn1 h1 h2=>?_,fun k o d x h1 h2=>absurd h2 (hf k),fun k g b y h1=>absurd h1 (hf k),fun k o h1 h2=>absurd h2 (hf k),fun h _ hh=>⟨fun h1=>?_,fun h1=>?_⟩,fun h k hk=>absurd hk (hf k),fun h h1 h2 _=>?_⟩
 ·have h3:=hsl.ok t v x h1 h2;have h4:Rep cx.D ρ S w v x:=by
   cases v with
   |opt g b y=>exact absurd h1 (h0 t g b y)
   |_=>exact h3
  exact h4.mono' (fun _ h=>h) (fun _ _=>rfl) fun h r hr _=>PY hr
 ·unfold nt;rw[b9 h1]
 ·unfold nt;rw[eR h1,m8,aY (by omega)]
 ·unfold my;rw[eR (by rw[hs.len];exact h1),m8,aY (by rw[hs.len];omega)]
end
end Go.V
