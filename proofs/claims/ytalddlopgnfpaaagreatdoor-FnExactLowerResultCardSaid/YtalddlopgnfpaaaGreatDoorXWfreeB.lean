/-
  SUCH A REGION IN WHATEVER ORDER: one operation more.
-/
import Derived.Test.YtalddlopgnfpaaaGreatDoorXWfreeA
set_option linter.unusedVariables false
namespace Go.V
open Go
variable {K :cJ}{ρ ρ':List Value}{S S':Nat->Prop}{w w':World}{H H':List (Ob K)}{D:ba K}
theorem dM.take(hD:bn D){n:Nat}{tmps:Array Value}{v:AV K}{x:Value}(h:dM D ρ S w tmps v x)(hu:v.upto n=true):dM D (ρ.take n) S w tmps v x:=by
 cases v with
 |opt g b v=>
  simp only[dM]at h⊢;rcases h with⟨h1,h2⟩|h
  ·exact .inl ⟨h1,h2.take hD (by simpa [AV.upto]using hu)⟩
  ·exact .inr h
 |_=>exact Rep.take hD h hu
theorem dM.mono'{tmps:Array Value}(hS:∀b,S b->S' b)(hw:∀b,S b->w'.heap[b]?=w.heap[b]?)(hρ:∀(h:Nat) r,ρ[h]?=some r->r≠dummy->ρ'[h]?=some r){v:AV K}{x:Value}(h:dM D ρ S w tmps v x):dM D ρ' S' w' tmps v x:=by
 cases v with
 |opt g b v=>
  simp only[dM]at h⊢;rcases h with⟨h1,h2⟩|h
  ·exact .inl ⟨h1,h2.mono' hS hw hρ⟩
  ·exact .inr h
 |_=>exact Rep.mono' hS hw hρ h
section
variable {cx :Cx K}{L:List Oper}{bs:List Nat}{H0:List (Ob K)}{bD ei:List (AV K)}{F:km K}{HF:List (Ob K)}{wr:List Nat}{ms:List (Nat×Nat)}{ws:List Nat}{listed:Array Bool}{a:Act}
theorem jN.slots(hD:bn cx.D)(hbs:bs=gY L [])(he:jM L 0=true)(hp:fA cx L bs H0 bD F L.length ei HF wr ms ws)(hm:jN cx L bs bD F H0 HF H ρ S listed a w){j:Nat}{o:Oper}(ho:L[j]?=some o)(fV:listed[j]?=some false)(kX:∀e∈o.after,listed[e.on]?=some true){cF:List (AV K)}{dt:List Nat}
 (fs:yM cx L bs bD F j o cF dt):ef cx.D (ρ.take (F.hin j).length) S w (dN (eg bs j) L 0 cF) a.tmps/\
   ∀(t:Nat) v,(dN (eg bs j) L 0 cF)[t]?=some v->v≠.any->(∀(k:Nat) o',k<j->L[k]?=some o'->o'.dst≠some t)\/∃(k:Nat)(o':Oper),L[k]?=some o'/\o'.dst=some t/\listed[k]?=some true:=by
 have key:∀(t:Nat) v,(dN (eg bs j) L 0 cF)[t]?=some v->v≠.any->(((∀(k:Nat) o',k<j->L[k]?=some o'->o'.dst≠some t)/\(∀(k:Nat) o,L[k]?=some o->o.dst=some t->listed[k]?≠some true))/\bD[t]?=some v)\/∃(k:Nat)(o':Oper),L[k]?=some o'/\o'.dst=some t/\listed[k]?=some true/\v=F.vals k:=fun t v hv hne=>by
  obtain⟨g1,g2⟩:=Ll L 0 cF t v hv hne;rcases yI L t with hn|⟨k,o',hk,hkd⟩
  ·exact .inl ⟨⟨fun k o' _ h=>hn k o' h,fun k o' h h'=>absurd h' (hn k o' h)⟩,by rw[<-fs.rest t fun k o' _ h=>hn k o' h];exact g1⟩
  ·have hb:=g2 k o' hk hkd;rw[dz,hbs]at hb;rcases Yv hb with hb|hb
   ·obtain⟨c1,c2⟩:=sQ he (T:=fun i=>listed[i]?=some true) (fun i o hi nq=>hm.closed i o hi nq) j o ho kX k hb;have:=fs.fin k o' t hk hkd c2;rw[g1]at this;exact .inr ⟨k,o',hk,hkd,c1,by simpa using this⟩
   ·have c0:=(sQ he (T:=fun _=>True) (fun _ _ _ _ _ _=>trivial) k o' hk (fun _ _=>trivial) j hb).2;have hun:listed[k]?≠some true:=fun hlk=>by
     have:=(sQ he (T:=fun i=>listed[i]?=some true) (fun i o hi nq=>hm.closed i o hi nq) k o' hk (hm.closed k o' hk hlk) j hb).1;rw[fV]at this;cases this
    have A7:∀(k':Nat) o1,L[k']?=some o1->o1.dst=some t->k'=k:=fun k' o1 h1 h2=>hp.uniq k' k o1 o' t (bq.1 h1).1 (bq.1 hk).1 h1 hk h2 hkd
    have hlt:∀(k':Nat) o1,k'<j->L[k']?=some o1->o1.dst≠some t:=fun k' o1 hk' h1 h2=>by have:=A7 k' o1 h1 h2;omega
    exact .inl ⟨⟨hlt,fun k' o1 h1 h2=>by rw[A7 k' o1 h1 h2];exact hun⟩,by rw[<-fs.rest t hlt];exact g1⟩
 refine⟨⟨by rw[Lm,fs.len,hm.size],fun t v x hv hx=>?_⟩,fun t v hv hne=>?_⟩
 ·by_cases hne:v=.any
  ·subst hne;exact .jI (.any x)
  ·have hu:=vv fs.up hv;rcases key t v hv hne with⟨⟨-,hn⟩,g⟩|⟨k,o',hk,hkd,hlk,rfl⟩
   ·exact(dM.jI (hm.base t v x hn g hx)).take hD hu
   ·exact(hm.done k o' t x hk hlk hkd hx).take hD hu
 ·rcases key t v hv hne with⟨⟨hn,-⟩,-⟩|⟨k,o',hk,hkd,hlk,-⟩
  ·exact .inl hn
  ·exact .inr ⟨k,o',hk,hkd,hlk⟩
theorem jN.view(hp:fA cx L bs H0 bD F L.length ei HF wr ms ws)(hm:jN cx L bs bD F H0 HF H ρ S listed a w){j:Nat}{o:Oper}(hj:j<L.length)(fV:listed[j]?=some false)
 (hA:∀k,(bs.getD j 0).testBit k=true->listed[k]?=some true) (hcl:∀i k,listed[i]?=some true->(bs.getD i 0).testBit k=true->listed[k]?=some true) {cF:List (AV K)} {dt:List Nat} (fs:yM cx L bs bD F j o cF dt):
 View (F.hin j).length H (ik (F.mask j) 0 (F.hin j)):={
 len:=Bc _ _
 le:=by rw[hm.hlen];have:=hp.mono (show j<=L.length by omega) (bj _);rw[hp.hn]at this;exact this
 ob:=fun h o ho=>by
  rw[Ba,dz]at ho;cases hb:(F.mask j).testBit h with
  |true=>
   rw[hb]at ho;cases hx:(F.hin j)[h]? with
   |none=>rw[hx]at ho;cases ho
   |some y=>rw[hx]at ho;simp at ho;exact .inl ho.symm
  |false=>
   rw[hb]at ho;cases hx:(F.hin j)[h]? with
   |none=>rw[hx]at ho;cases ho
   |some y=>
    rw[hx]at ho;simp at ho;subst ho;exact .inr (by rw[hm.sees hp hj fV hA hcl (bq.1 hx).1 hb];exact hx)
 up:=fun h o ho=>by
  have:=fs.FP;rw[fg]at this;exact this o (gX ho)}
def after(F:km K)(j:Nat)(H:List (Ob K)):List (Ob K):=ki (F.mask j) 0 (H.take (F.hin j).length) (F.hout j)++H.drop (F.hout j).length
theorem alZ{j:Nat}(h1:(F.hin j).length<=(F.hout j).length)(h2:(F.hout j).length<=H.length)(h:Nat):
 (after F j H)[h]?=if h<(F.hout j).length then(if h<(F.hin j).length/\(F.mask j).testBit h=true then H[h]? else(F.hout j)[h]?)else H[h]?:=by
 have hl:(H.take (F.hin j).length).length=(F.hin j).length:=by rw[iV];omega
 have hml:(ki (F.mask j) 0 (H.take (F.hin j).length) (F.hout j)).length=(F.hout j).length:=FM _ _ _ (by omega);unfold after;by_cases hh:h<(F.hout j).length
 ·rw[cI (by omega),av hh,FN _ _ _ _ (by omega),hl,dz];by_cases hc:h<(F.hin j).length/\(F.mask j).testBit h=true
  ·rw[av hc,av hc,cR,av hc.1]
  ·rw[ak hc,ak hc]
 ·rw[bL (by omega),ak hh,hml,eF];congr 1;omega
theorem after_length{j:Nat}(h1:(F.hin j).length<=(F.hout j).length)(h2:(F.hout j).length<=H.length):(after F j H).length=H.length:=by
 have hl:(H.take (F.hin j).length).length=(F.hin j).length:=by rw[iV];omega
 unfold after;rw[cL,FM _ _ _ (by omega),List.length_drop];omega
end
end Go.V
namespace Go.V
open Go
variable {K :cJ}{ρ ρ':List Value}{S S':Nat->Prop}{w w':World}{H H':List (Ob K)}{D:ba K}
section
variable {cx :Cx K}{L:List Oper}{bs:List Nat}{H0:List (Ob K)}{bD ei:List (AV K)}{F:km K}{HF:List (Ob K)}{wr:List Nat}{ms:List (Nat×Nat)}{ws:List Nat}{listed:Array Bool}{a:Act}
theorem jN.put(hD:bn cx.D)(hp:fA cx L bs H0 bD F L.length ei HF wr ms ws)(hm:jN cx L bs bD F H0 HF H ρ S listed a w){j:Nat}{o:Oper}(ho:L[j]?=some o)(fV:listed[j]?=some false)(kX:∀e∈o.after,listed[e.on]?=some true)
 (hA:∀k,(bs.getD j 0).testBit k=true->listed[k]?=some true) (hcl:∀i k,listed[i]?=some true->(bs.getD i 0).testBit k=true->listed[k]?=some true) {cF:List (AV K)} {dt:List Nat} (fs:yM cx L bs bD F j o cF dt)
 {ρ1:List Value} {S1:Nat->Prop} {w1:World} {u:Value} (hs1:aH cx.D ρ1 S1 w1 (F.hout j)) (hst:Step cx.D (F.hin j).length (ρ.take (F.hin j).length) S (ik (F.mask j) 0 (F.hin j)) w ρ1 S1 (F.hout j) w1) (hv:dM cx.D ρ1 S1 w1 a.tmps (F.vals j) u)
 (lR:∀g b y,F.vals j=.opt g b y->∃(k':Nat)(o':Oper),L[k']?=some o'/\o'.dst=some g/\listed[k']?=some true) {n0:Nat} (hn0:n0<=H0.length):
 jN cx L bs bD F H0 HF (after F j H) (ρ1++ρ.drop (F.hout j).length) S1 (listed.setIfInBounds j true) (a.put o.dst u) w1/\Step cx.D n0 ρ S H w (ρ1++ρ.drop (F.hout j).length) S1 (after F j H) w1:=by
 have hj:j<L.length:=(bq.1 ho).1;have hjs:j<listed.size:=(iv.1 fV).1;have hnm:=(hp.hs j hj).2;have hmN:(F.hout j).length<=H.length:=by
  have:=hp.mono (show j+1<=L.length by omega) (bj _);rw[hp.sS hj,hp.hn]at this;rw[hm.hlen];exact this
 have h0n:H0.length<=(F.hin j).length:=by have:=hp.mono (cU j) (by omega);rw[hp.h0]at this;exact this
 have hlt:∀k,listed[k]?=some true->k<L.length:=fun k hk=>by have:=(iv.1 hk).1;rw[hm.nk]at this;exact this
 have hne:∀k,listed[k]?=some true->k≠j:=fun k hk e=>by subst e;rw[fV]at hk;cases hk
 have view:=hm.view hp hj fV hA hcl fs;have hd:∀h,(F.hin j).length<=h->h<(F.hout j).length->ρ[h]?=some dummy:=fun h h1 h2=>
  hm.Za h (by omega) (by rw[<-hm.hlen];omega) fun k hk ⟨h3,h4⟩=>hne k hk (hp.maker hj (hlt k hk) h1 h2 h3 h4).symm
 have ag:=alZ (F:=F) (H:=H) hnm hmN;have joined:Joined (F.hin j).length (F.hout j).length H (ik (F.mask j) 0 (F.hin j)) (F.hout j) (after F j H):=⟨hnm,rfl,after_length hnm hmN,hmN,fun h o1 h1=>by
  rw[ag]at h1;by_cases hh:h<(F.hout j).length
  ·rw[av hh]at h1;by_cases hc:h<(F.hin j).length/\(F.mask j).testBit h=true
   ·rw[av hc]at h1;refine .inr ⟨h1,.inl ⟨hc.1,?_⟩⟩;rw[Ba,dz,hc.2,bY hc.1];rfl
   ·rw[ak hc]at h1;exact .inl ⟨hh,h1⟩
  ·rw[ak hh]at h1;exact .inr ⟨h1,.inr (by omega)⟩⟩
 obtain⟨Zb,stF,hmono⟩:=hm.heap.join (n0:=n0) view hs1 hst joined hd (by omega);have hl1:ρ1.length=(F.hout j).length:=hs1.len;have hρ:=YV (n:=0) (ρ:=ρ) (ρ1:=ρ1) hl1 (by rw[hm.heap.len];exact hmN);have hread:∀b,S b->w1.heap[b]?=w.heap[b]?:=fun b hb=>hst.old b (hm.heap.slt b hb) fun h=>(hm.heap.lt b (view.own h)).2 hb
 have hrep:∀{v:AV K}{x:Value},Rep cx.D ρ S w v x->Rep cx.D (ρ1++ρ.drop (F.hout j).length) S1 w1 v x:=fun h=>h.mono' hst.s1 hread hmono
 have sR:∀{v:AV K}{x:Value}{tmps:Array Value},dM cx.D ρ S w tmps v x->dM cx.D (ρ1++ρ.drop (F.hout j).length) S1 w1 tmps v x:=fun h=>h.mono' hst.s1 hread hmono
 have hvF:dM cx.D (ρ1++ρ.drop (F.hout j).length) S1 w1 a.tmps (F.vals j) u:=hv.mono' (fun _ h=>h) (fun _ _=>rfl) fun h r hr _=>by
  have:h<(F.hout j).length:=by have:=(bq.1 hr).1;omega
  rw[hρ,av this];exact hr
 have hget:∀(k:Nat),(listed.setIfInBounds j true)[k]?=some true↔(k=j\/listed[k]?=some true):=fun k=>by
  rw[oV];by_cases hk:j=k
  ·subst hk;simp[hjs]
  ·rw[ak hk];simp[oW hk]
 have hclosed:∀(k:Nat) o1,L[k]?=some o1->(listed.setIfInBounds j true)[k]?=some true->∀e∈o1.after,(listed.setIfInBounds j true)[e.on]?=some true:=fun k o1 hk hlk e he=>by
  rw[hget]at hlk⊢;rcases hlk with rfl|hlk
  ·rw[ho]at hk;simp at hk;subst hk;exact .inr (kX e he)
  ·exact .inr (hm.closed k o1 hk hlk e he)
 have A8:∀(k g:Nat) b y,(listed.setIfInBounds j true)[k]?=some true->F.vals k=.opt g b y->∃(k':Nat)(o':Oper),L[k']?=some o'/\o'.dst=some g/\(listed.setIfInBounds j true)[k']?=some true:=fun k g b y hlk hvk=>by
  rw[hget]at hlk;rcases hlk with rfl|hlk
  ·obtain⟨k',o',h1,h2,h3⟩:=lR g b y hvk;exact⟨k',o',h1,h2,(hget k').2 (.inr h3)⟩
  ·obtain⟨k',o',h1,h2,h3⟩:=hm.opts k g b y hlk hvk;exact⟨k',o',h1,h2,(hget k').2 (.inr h3)⟩
 have hsame:∀h,¬F.W j h->(after F j H)[h]?=H[h]?:=fun h hn=>by
  rw[ag];by_cases hh:h<(F.hout j).length
  ·rw[av hh];by_cases hc:h<(F.hin j).length/\(F.mask j).testBit h=true
   ·rw[av hc]
   ·rw[ak hc];have hln:h<(F.hin j).length:=by
     rcases cQ h (F.hin j).length with h1|h1
     ·exact h1
     ·exact absurd (.inr ⟨h1,hh⟩) hn
    have hun:(F.mask j).testBit h=false:=by
     cases hb:(F.mask j).testBit h with
     |false=>rfl
     |true=>exact absurd ⟨hln,hb⟩ hc
    rw[fs.turns.2 h (by rw[Bc];exact hln) (fun hT=>hn (.inl hT)),Ba,dz,hun,hm.sees hp hj fV hA hcl hln hun];cases (F.hin j)[h]?<;>simp
  ·rw[ak hh]
 have hnew:∀h,F.W j h->(after F j H)[h]?=(F.hin (j+1))[h]?:=fun h hw=>by
  have hc:¬(h<(F.hin j).length/\(F.mask j).testBit h=true):=fun⟨h1,h2⟩=>by
   rcases hw with hT|hT
   ·have:=(hp.clear j hj h hT).1;rw[h2]at this;cases this
   ·omega
  have hh:h<(F.hout j).length:=by
   rcases hw with hT|hT
   ·have:=(hp.clear j hj h hT).2;omega
   ·exact hT.2
  rw[ag,av hh,ak hc,(hp.hs j hj).1,FN _ _ _ _ hnm,dz,ak hc]
 have c0:∀h,(∀k,(listed.setIfInBounds j true)[k]?=some true->¬F.W k h)->h<HF.length->(h<H0.length->(after F j H)[h]?=H0[h]?)/\(H0.length<=h->(after F j H)[h]?=some .dead):=fun h hno hh=>by
  rw[hsame h (hno j ((hget j).2 (.inl rfl)))];exact hm.LQ h (fun k hk=>hno k ((hget k).2 (.inr hk))) hh
 have ck:∀h k,(listed.setIfInBounds j true)[k]?=some true->F.W k h->(∀k',(listed.setIfInBounds j true)[k']?=some true->F.W k' h->k'<=k)->(after F j H)[h]?=(F.hin (k+1))[h]?:=fun h k hk hw hmax=>by
  by_cases hkj:k=j
  ·subst hkj;exact hnew h hw
  ·have hk':listed[k]?=some true:=((hget k).1 hk).resolve_left hkj;have vx:¬F.W j h:=fun LS=>by
    have hjk:j<k:=by have:=hmax j ((hget j).2 (.inl rfl)) LS;omega
    have mr:=hlt k hk';have hlen:=hp.mono (show j+1<=k by omega) (by omega);rw[hp.sS hj]at hlen;have hb:(bs.getD k 0).testBit j=false:=by
     cases hb:(bs.getD k 0).testBit j with
     |false=>rfl
     |true=>have:=hcl k j hk' hb;rw[fV]at this;cases this
    have hmk:=hp.masks k mr h ⟨j,hjk,hb,LS⟩;rcases hw with hT|hT
    ·have:=(hp.clear k mr h hT).1;rw[hmk]at this;cases this
    ·have:h<(F.hout j).length:=by
      rcases LS with h1|h1
      ·have:=(hp.clear j hj h h1).2;omega
      ·exact h1.2
     omega
   rw[hsame h vx];exact hm.LR h k hk' hw fun k' a b=>hmax k' ((hget k').2 (.inr a)) b
 have cd:∀h,H0.length<=h->h<HF.length->(∀k,(listed.setIfInBounds j true)[k]?=some true->¬((F.hin k).length<=h/\h<(F.hout k).length))->(ρ1++ρ.drop (F.hout j).length)[h]?=some dummy:=fun h h1 h2 hno=>by
  have h3:=hm.Za h h1 h2 fun k hk=>hno k ((hget k).2 (.inr hk))
  have h4:=hno j ((hget j).2 (.inl rfl));rw[hρ];by_cases hh:h<(F.hout j).length
  ·have hl:h<(F.hin j).length:=by
    rcases cQ h (F.hin j).length with h5|h5
    ·exact h5
    ·exact absurd ⟨h5,hh⟩ h4
   rw[av hh,hst.pre h hl,cR,av hl];exact h3
  ·rw[ak hh];exact h3
 have hlen2:(after F j H).length=HF.length:=by rw[after_length hnm hmN,hm.hlen]
 refine⟨?_,stF⟩;cases hdst:o.dst with
 |none=>
  refine⟨Zb,hlen2,hm.defers,hm.size,by simp[hm.nk],fun t v x h1 h2 h3=>hrep (hm.base t v x (fun k o1 hk hd1 hl=>h1 k o1 hk hd1 ((hget k).2 (.inr hl))) h2 h3),fun k o1 d x hk hlk hd1 hx=>?_,A8,hclosed,c0,ck,cd⟩;rw[hget]at hlk;rcases hlk with rfl|hlk
  ·rw[ho]at hk;simp at hk;subst hk;rw[hdst]at hd1;cases hd1
  ·exact sR (hm.done k o1 d x hk hlk hd1 hx)
 |some d=>
  have LU:∀{k:Nat}{o1:Oper},L[k]?=some o1->listed[k]?=some true->o1.dst≠some d:=fun{k o1} hk hlk hd1=>by
   have:=hp.uniq k j o1 o d (hlt k hlk) hj hk ho hd1 hdst;exact hne k hlk this
  refine⟨Zb,hlen2,hm.defers,by simp[Act.put,hm.size],by simp[hm.nk],fun t v x h1 h2 h3=>?_,fun k o1 d1 x hk hlk hd1 hx=>?_,A8,hclosed,c0,ck,cd⟩
  ·have:d≠t:=fun e=>by subst e;exact h1 j o ho hdst ((hget j).2 (.inl rfl))
   simp only[Act.put,oV,ak this]at h3;exact hrep (hm.base t v x (fun k o1 hk hd1 hl=>h1 k o1 hk hd1 ((hget k).2 (.inr hl))) h2 h3)
  ·rw[hget]at hlk;simp only[Act.put]at hx⊢;rw[oV]at hx;rcases hlk with rfl|hlk
   ·rw[ho]at hk;simp at hk;subst hk;rw[hdst]at hd1;simp at hd1;subst hd1;rw[av rfl]at hx;split at hx
    ·simp at hx;subst hx;refine hvF.put fun g b y e he=>?_
     obtain⟨k',o',h1,h2,h3⟩:=lR g b y e;subst he;exact LU h1 h3 h2
    ·cases hx
   ·have hdd:d≠d1:=fun e=>by subst e;exact LU hk hlk hd1
    rw[ak hdd]at hx;refine(sR (hm.done k o1 d1 x hk hlk hd1 hx)).put fun g b y e he=>?_
    obtain⟨k',o',h1,h2,h3⟩:=hm.opts k g b y hlk e;subst he;exact LU h1 h3 h2
end
end Go.V
namespace Go.V
open Go
variable {K :cJ}{ρ ρ':List Value}{S S':Nat->Prop}{w w':World}{H H':List (Ob K)}{D:ba K}
def ns(H0:List (Ob K))(n:Nat):List (Ob K):=H0++List.replicate (n-H0.length) .dead
def my(ρ:List Value)(n:Nat):List Value:=ρ++List.replicate (n-ρ.length) dummy
theorem Zc{H0:List (Ob K)}{n:Nat}(h:H0.length<=n):(ns H0 n).length=n:=by simp[ns];omega
theorem Zd{n h:Nat}{r:Value}(hr:ρ[h]?=some r):(my ρ n)[h]?=some r:=by
 unfold my;rw[cI (bq.1 hr).1];exact hr
theorem Ze{H0:List (Ob K)}{n h:Nat}{o:Ob K}(ho:(ns H0 n)[h]?=some o):H0[h]?=some o\/(H0.length<=h/\o=.dead):=by
 unfold ns at ho;rcases cQ h H0.length with h1|h1
 ·rw[cI h1]at ho;exact .inl ho
 ·rw[bL h1,hJ]at ho;split at ho
  ·simp at ho;exact .inr ⟨h1,ho.symm⟩
  ·cases ho
theorem FQ{H0:List (Ob K)}{n h:Nat}{o:Ob K}{r:Value}(hl:ρ.length=H0.length)(ho:(ns H0 n)[h]?=some o)(hlv:o.live=true)(hr:(my ρ n)[h]?=some r):H0[h]?=some o/\ρ[h]?=some r:=by
 rcases Ze ho with h1|⟨-,rfl⟩
 ·have:h<ρ.length:=by rw[hl];exact(bq.1 h1).1
  unfold my at hr;rw[cI this]at hr;exact⟨h1,hr⟩
 ·cases hlv
theorem aH.pad{H0:List (Ob K)}(hs:aH D ρ S w H0){n:Nat}(hn:H0.length<=n):aH D (my ρ n) S w (ns H0 n):=by
 have own:∀b,Own D w (my ρ n) (ns H0 n) b->Own D w ρ H0 b:=fun b ⟨h,o,r,h1,h2,h3,h4⟩=>by
  obtain⟨g1,g2⟩:=FQ hs.len h1 h2 h3;exact⟨h,o,r,g1,h2,g2,h4⟩
 refine⟨by rw[Zc hn];simp[my];have:=hs.len;omega,fun h o r h1 h2=>?_,fun h h' o o' r r' b h1 h2 h3 h4 h5 h6 h7 h8=>?_,fun b hb=>hs.lt b (own b hb),hs.slt,hs.base⟩
 ·rcases Ze h1 with h3|⟨-,rfl⟩
  ·have:h<ρ.length:=by rw[hs.len];exact(bq.1 h3).1
   have h4:ρ[h]?=some r:=by unfold my at h2;rwa [cI this]at h2
   refine(hs.ob h o r h3 h4).mono' (fun _ h=>h) (fun _ _=>rfl) (fun h' r' hr' _=>Zd hr') fun _ _ _=>rfl
  ·trivial
 ·obtain⟨g1,g2⟩:=FQ hs.len h1 h2 h3;obtain⟨k1,k2⟩:=FQ hs.len h5 h6 h7;exact hs.dH h h' o o' r r' b g1 h2 g2 h4 k1 h6 k2 h8
theorem Step.pad{H0:List (Ob K)}(hs:aH D ρ S w H0){n n0:Nat}(hn:n0<=H0.length):Step D n0 ρ S H0 w (my ρ n) S (ns H0 n) w:=
 ⟨rfl,rfl,rfl,bj _,fun _ _ _=>rfl,fun b ⟨h,o,r,h1,h2,h3,h4⟩=>by
   obtain⟨g1,g2⟩:=FQ hs.len h1 h2 h3;exact .inl ⟨h,o,r,g1,h2,g2,h4⟩,fun _ h=>h,fun _ h=>.inl h,fun h hh=>by
   have:h<ρ.length:=by rw[hs.len];omega
   unfold my;rw[cI this]⟩
section
variable {cx :Cx K}{L:List Oper}{bs:List Nat}{H0:List (Ob K)}{bD ei:List (AV K)}{F:km K}{HF:List (Ob K)}{wr:List Nat}{ms:List (Nat×Nat)}{ws:List Nat}{listed:Array Bool}{a:Act}
theorem fA.len0(hp:fA cx L bs H0 bD F L.length ei HF wr ms ws):H0.length<=HF.length:=by
 have:=hp.mono (cU L.length) (bj _);rw[hp.h0,hp.hn]at this;exact this
theorem jN.final(hp:fA cx L bs H0 bD F L.length ei HF wr ms ws)(hm:jN cx L bs bD F H0 HF H ρ S listed a w)(hall:∀i,i<L.length->listed[i]?=some true):H=HF:=by
 have hlt:∀k,listed[k]?=some true->k<L.length:=fun k hk=>by have:=(iv.1 hk).1;rw[hm.nk]at this;exact this
 apply mU;intro h;rcases cQ h HF.length with hh|hh
 ·have Zf:h<(F.hin L.length).length:=by rw[hp.hn];exact hh
  by_cases hex:∃k,listed[k]?=some true/\F.W k h
  ·obtain⟨k,⟨hk1,hk2⟩,hk3⟩:=Y9 (p:=fun k=>listed[k]?=some true/\F.W k h) (n:=L.length) (fun k hk=>hlt k hk.1) hex;rw[hm.LR h k hk1 hk2 fun k' a b=>hk3 k' ⟨a,b⟩];have mr:=hlt k hk1;have hno:∀k',k+1<=k'->k'<L.length->¬F.W k' h:=fun k' h1 h2 hw=>by have:=hk3 k' ⟨hall k' h2,hw⟩;omega
   by_cases hl:h<(F.hin (k+1)).length
   ·rw[<-hp.stay (show k+1<=L.length by omega) (bj _) hno hl,hp.hn]
   ·exfalso;have:H0.length<=h:=by have:=hp.mono (show 0<=k+1 by omega) (show k+1<=L.length by omega);rw[hp.h0]at this;omega
    obtain⟨k',g1,g2,g3⟩:=hp.made (bj _) Zf this;by_cases hkk:k+1<=k'
    ·exact hno k' hkk g1 (.inr ⟨g2,g3⟩)
    ·have:=hp.mono (show k'+1<=k+1 by omega) (show k+1<=L.length by omega);rw[hp.sS g1]at this;omega
  ·have hno:∀k,listed[k]?=some true->¬F.W k h:=fun k a b=>hex ⟨k,a,b⟩
   have vx:∀k,0<=k->k<L.length->¬F.W k h:=fun k _ hk hw=>hno k (hall k hk) hw
   obtain⟨g1,g2⟩:=hm.LQ h hno hh;by_cases h0:h<H0.length
   ·rw[g1 h0,<-hp.hn,hp.stay (cU _) (bj _) vx (by rw[hp.h0];exact h0),hp.h0]
   ·obtain⟨k',a1,a2,a3⟩:=hp.made (bj _) Zf (by omega);exact absurd (.inr ⟨a2,a3⟩) (vx k' (cU _) a1)
 ·rw[qb (by rw[hm.hlen];exact hh),qb hh]
theorem aly(hD:bn cx.D)(hc:aD cx)(he:jM L 0=true)(hp:fA cx L (gY L []) H0 bD F L.length ei HF wr ms ws){n0:Nat}(hn:n0<=H0.length){Q:Exit->Act->World->Prop}:
 ∀(fuel:Nat)(listed:Array Bool)(H:List (Ob K))(ρ:List Value)(S:Nat->Prop)(a:Act)(w:World),jN cx L (gY L []) bD F H0 HF H ρ S listed a w->todo listed<=fuel->
 (∀ρ' S' a' w',aH cx.D ρ' S' w' HF->ef cx.D ρ' S' w' ei a'.tmps->a'.defers=[]->Step cx.D n0 ρ S H w ρ' S' HF w'->Q .normal a' w')->wpAny cx.P .any L.toArray Q fuel listed a w:=by
 have hfin:∀(listed:Array Bool)(H:List (Ob K))(ρ:List Value)(S:Nat->Prop)(a:Act)(w:World),jN cx L (gY L []) bD F H0 HF H ρ S listed a w->Region.ready .any L.toArray listed=[]->H=HF/\ef cx.D ρ S w ei a.tmps:=fun listed H ρ S a w hm hr=>by
  have hall:=YE he hm.nk hr;refine⟨hm.final hp hall,by rw[hp.len,hm.size],fun t v x hv hx=>?_⟩;rcases yI L t with hnd|⟨k,o,hk,hkd⟩
  ·rw[hp.rest t fun k o _ h=>hnd k o h]at hv;exact .jI (hm.base t v x (fun k o hk hkd=>absurd hkd (hnd k o hk)) hv hx)
  ·have mr:=(bq.1 hk).1;rw[hp.fin k o t mr hk hkd]at hv;simp only[ar]at hv;subst hv;exact hm.done k o t x hk (hall k mr) hkd hx
 intro fuel
 induction fuel with
 |zero=>
  intro listed H ρ S a w hm ht hq;have hr:Region.ready .any L.toArray listed=[]:=by
   cases hh:Region.ready .any L.toArray listed with
   |nil=>rfl
   |cons j r=>
    have:j∈Region.ready .any L.toArray listed:=by rw[hh];simp
    exact absurd (A6.1 (mem_ready.1 this).1) (YD (by omega))
  obtain⟨e,hs⟩:=hfin listed H ρ S a w hm hr;subst e;exact⟨hr,hq ρ S a w hm.heap hs hm.defers Step.refl⟩
 |succ fuel ih=>
  intro listed H ρ S a w hm ht hq;refine⟨fun hr=>by
   obtain⟨e,hs⟩:=hfin listed H ρ S a w hm hr;subst e;exact hq ρ S a w hm.heap hs hm.defers Step.refl,fun j hj=>?_⟩
  obtain⟨qy,o,hoj,hall⟩:=mem_ready.1 hj;have fV:=A6.1 qy;have ho:L[j]?=some o:=by simpa using hoj
  have Zg:=(bq.1 ho).1;have kX:∀e∈o.after,listed[e.on]?=some true:=fun e vp=>Lq.1 (hall e vp (A5 L 0 j o he ho e vp).2)
  have hA:∀k,((gY L []).getD j 0).testBit k=true->listed[k]?=some true:=fun k hk=>
   (sQ he (T:=fun i=>listed[i]?=some true) (fun i o hi nq=>hm.closed i o hi nq) j o ho kX k hk).1
  have hcl:∀i k,listed[i]?=some true->((gY L []).getD i 0).testBit k=true->listed[k]?=some true:=fun i k hi hk=>by
   have hiL:i<L.length:=by have:=(iv.1 hi).1;rw[hm.nk]at this;exact this
   exact(sQ he (T:=fun i=>listed[i]?=some true) (fun i o hi nq=>hm.closed i o hi nq) i _ (bY hiL) (hm.closed i _ (bY hiL) hi) k hk).1
  obtain⟨cF,dt,fs⟩:=hp.slot j o Zg ho;obtain⟨hsl,hkn⟩:=hm.slots hD rfl he hp ho fV kX fs;have view:=hm.view hp Zg fV hA hcl fs;have hsv:=hm.heap.view hD view;have main:∀q,ij q cx L (dN (eg (gY L []) j) L 0 cF) (ik (F.mask j) 0 (F.hin j)) dt o=some (F.vals j,F.hout j,true)->wpOp cx.P L.toArray Q j (wpAny cx.P .any L.toArray Q fuel (listed.setIfInBounds j true)) a w:=fun q s1=>by
   have lR:∀g b y,F.vals j=.opt g b y->∃(k':Nat)(o':Oper),L[k']?=some o'/\o'.dst=some g/\listed[k']?=some true:=fun g b y e=>by
    rw[e]at s1;obtain⟨v,g1,g2⟩:=YA s1;rcases hkn g v g1 g2 with hn'|h
    ·obtain⟨k,o',hk,h2,h3⟩:=fs.dt g (vq s1 g b y rfl);exact absurd h3 (hn' k o' hk h2)
    ·exact h
   have hw:=Lt hD hc hsv hsl (ops:=L) s1 rfl (k:=wpAny cx.P .any L.toArray Q fuel (listed.setIfInBounds j true)) (Q:=Q) fun u ρ1 S1 w1 q1 q2 q3=>by
    rw[Bc]at q3;obtain⟨hm1,st1⟩:=hm.put hD hp ho fV kX hA hcl fs q1 q3 q2 lR hn;exact ih _ _ _ S1 _ w1 hm1 (by have:=YC fV;omega) fun ρ' S' a' w' g1 g2 g3 g4=>hq ρ' S' a' w' g1 g2 g3 (st1.trans g4)
   unfold wpOp;rw[hoj];dsimp only;split
   ·rename_i hwt;rw[av hwt]at hw;exact .inl hw
   ·rename_i hwt;rw[ak hwt]at hw;exact hw
  have s1:=fs.slot;unfold yF at s1;split at s1
  ·exact main true s1
  ·split at s1
   ·exact main false s1
   ·cases s1
theorem jN.start(hp:fA cx L bs H0 bD F L.length ei HF wr ms ws)(hs:aH cx.D ρ S w H0)(hd:a.defers=[])(hsl:ef cx.D ρ S w bD a.tmps)(h0:cV bD):
 jN cx L bs bD F H0 HF (ns H0 HF.length) (my ρ HF.length) S (Array.replicate L.length false) a w:=by
 have hf:∀(k:Nat),(Array.replicate L.length false)[k]?≠some true:=fun k e=>by
  rw[Ft]at e;split at e<;>simp at e
 have hl:=hp.len0;refine⟨hs.pad hl,Zc hl,hd,hsl.len.symm,by simp,fun t v x hn1 h1 h2=>?_,fun k o d x h1 h2=>absurd h2 (hf k),fun k g b y h1=>absurd h1 (hf k),fun k o h1 h2=>absurd h2 (hf k),fun h _ hh=>⟨fun h1=>?_,fun h1=>?_⟩,fun h k hk=>absurd hk (hf k),fun h h1 h2 _=>?_⟩
 ·have h3:=hsl.ok t v x h1 h2;have h4:Rep cx.D ρ S w v x:=by
   cases v with
   |opt g b y=>exact absurd h1 (h0 t g b y)
   |_=>exact h3
  exact h4.mono' (fun _ h=>h) (fun _ _=>rfl) fun h r hr _=>Zd hr
 ·unfold ns;rw[cI h1]
 ·unfold ns;rw[bL h1,hJ,av (by omega)]
 ·unfold my;rw[bL (by rw[hs.len];exact h1),hJ,av (by rw[hs.len];omega)]
end
end Go.V
