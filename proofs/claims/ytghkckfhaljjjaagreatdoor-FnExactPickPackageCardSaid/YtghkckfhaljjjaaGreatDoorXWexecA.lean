/-
  CODE: what 'execC' yields is what the machine does.
-/
import Derived.Test.YtghkckfhaljjjaaGreatDoorXWperm
set_option linter.unusedVariables false
namespace Go.V
open Go
variable {K :dh}{ρ ρ':List Value}{S S':Nat->Prop}{w w':World}{H H':List (Ob K)}
def Tr(cx:Cx K)(n0:Nat)(c:Code)(st:St K)(e:Ex)(st':St K):Prop:=
 ∀(ρ:List Value)(S:Nat->Prop)(a:Act)(w:World),n0<=st.H.length->Sat cx ρ S a w st->
  c.wp cx.P (fun e' a' w'=>e'=e.ng/\n0<=st'.H.length/\∃ρ' S',Sat cx ρ' S' a' w' st'/\Step cx.D n0 ρ S st.H w ρ' S' st'.H w') a w
theorem Step.drew{D:bH K}{n0 n:Nat}{ρ ρ':List Value}{S S':Nat->Prop}{w w':World}{H H':List (Ob K)}(h:Step D n0 ρ S H {w with drawn:=n} ρ' S' H' w'):Step D n0 ρ S H w ρ' S' H' w':=
 have g:∀b,Own D {w with drawn:=n} ρ H b->Own D w ρ H b:=fun b h=>h.old fun _ _=>rfl
 ⟨h.os,h.tape,h.output,h.size,fun b hb hn=>h.old b hb fun hO=>hn (g b hO),fun b hb=>(h.own b hb).imp (g b) id,h.s1,fun b hb=>(h.s2 b hb).imp id (Or.imp (g b) id),h.pre⟩
theorem Sat.drawn{cx:Cx K}{a:Act}{st:St K}(h:Sat cx ρ S a w st)(n:Nat):Sat cx ρ S a {w with drawn:=n} st:=
 ⟨h.heap.world (fh _) (fun _ _=>rfl) (fun _ _=>rfl),fb.mono (w:=w) (w':={w with drawn:=n}) (fun _ h=>h) (fun _ _=>rfl) (fun _ _ h=>h) h.slots,h.defers⟩
theorem Pe{cx:Cx K}{ops:List Oper}:∀(l:List Oper)(st st':St K)(wr wr':List Nat),aeO cx ops l st wr=some (st',wr')->ln st.tm wr->ln st'.tm wr'
 |[],st,st',wr,wr',h,ho=>by simp only[aeO,av,aZ]at h;obtain⟨rfl,rfl⟩:=h;exact ho
 |o::r,st,st',wr,wr',h,ho=>by
  simp only[aeO]at h;split at h
  ·rename_i st1 iG h1;refine Pe r st1 st' iG wr' h ?_;unfold uk at h1;split at h1
   ·rename_i v H1 c hsv;obtain⟨-,-,p3⟩:=qc h1;rcases p3 with⟨e1,e2,e3⟩|⟨d,e1,e2,e3,e4,e5⟩
    ·rw[e2,e3];exact ho
    ·rw[e4,e5];exact ho.put (uy hsv)
   ·cases h1
  ·cases h
theorem aeC{cx:Cx K}{op:Op}(h:ja cx op=true):nq cx op=true:=by
 unfold nq;split
 ·rfl
 ·simp only[ja]at h;simp[h]
 ·simp only[ja,cG]at h;simp[h.1]
 ·exact h
theorem JA{cx:Cx K}{ops:List Oper}{π:List Nat}{st st':St K}(h:y6 cx ops π st=some st'):yZ π ops.length=true/\ox cx (permuted π ops) st=some st':=by
 unfold y6 at h;split at h
 ·rename_i hp;exact⟨hp,h⟩
 ·cases h
theorem Pg{cx:Cx K}{ops:List Oper}{st st':St K}(h:Jm cx ops st=some st'):ox cx ops st=some st'\/∃π,yZ π ops.length=true/\ox cx (permuted π ops) st=some st':=by
 unfold Jm at h;split at h
 ·split at h
  ·rename_i r hr;simp only[av]at h;subst h;exact .inl hr
  ·exact .inr ⟨_,JA h⟩
 ·split at h
  ·rename_i r hr;simp only[av]at h;subst h;exact .inr ⟨_,JA hr⟩
  ·exact .inr ⟨_,JA h⟩
theorem Ph{cx:Cx K}(hD:bR cx.D)(hc:aP cx){n0:Nat}{ops:Array Oper}{st st':St K}(h:ox cx ops.toList st=some st'):
 (st'.ok=true->st.ok=true)/\(st'.ok=true->dC st.tm->dC st'.tm/\∀(ρ:List Value)(S:Nat->Prop)(a:Act)(w:World),n0<=st.H.length->Sat cx ρ S a w st->
   wpAny cx.P .any ops (fun e' a' w'=>e'=Ex.normal.ng/\n0<=st'.H.length/\∃ρ' S',Sat cx ρ' S' a' w' st'/\Step cx.D n0 ρ S st.H w ρ' S' st'.H w') ops.size (Array.replicate ops.size false) a {w with drawn:=w.drawn+1}):=by
 unfold ox at h;split at h
 ·rename_i hsm;simp only[cG]at hsm;split at h
  ·rename_i s1 wr hr;simp only[av]at h;subst h;have hk:=Jt _ _ _ _ _ _ hr;refine⟨fun hok=>(hk hok).1,fun hok h0=>?_⟩;obtain⟨vals,hd,hwr⟩:=aeA hr hok;have hH:=(hk hok).2;have Jy:∀(i:Nat) o,ops.toList[i]?=some o->nq cx o.op=true:=fun i o ho=>
    fN.1 hsm.1 o (eN ho)
   have lW:ln s1.tm wr:=fun t g b v e=>by
    rcases wE ops.toList t with hn|⟨k,o,hk1,hk2⟩
    ·rw[hd.rest t hn]at e;exact absurd e (h0 t g b v)
    ·rw[hd.fin k o t hk1 hk2]at e;refine⟨(hwr t).2 ⟨k,o,hk1,hk2⟩,?_⟩;obtain⟨di,dU,H1,q1,q2,q3,q4,q5⟩:=hd.slot k o hk1;simp only[av]at e;rw[e]at q1;obtain⟨k',o',-,c2,c3⟩:=q5 g (uy q1 g b v rfl);exact(hwr g).2 ⟨k',o',c2,c3⟩
   refine⟨dC.wipe lW,fun ρ S a w hn bM=>?_⟩;have qd:=bM.drawn (w.drawn+1);have hall:ops=ops.toList.toArray:=by simp
   have hmid:Mid cx ops.toList st.tm vals st.H ρ S (Array.replicate ops.size false) a {w with drawn:=w.drawn+1}:=by
    have hf:∀(k:Nat),(Array.replicate ops.size false)[k]?≠some true:=fun k e=>by
     rw[Dp]at e;split at e<;>simp at e
    refine⟨qd.heap,qd.defers,qd.slots.len.symm,by simp,fun t v x hn1 h1 h2=>?_,fun k o d x h1 h2=>absurd h2 (hf k),fun k g b y h1=>absurd h1 (hf k),fun k o h1 h2=>absurd h2 (hf k)⟩;have:=qd.slots.ok t v x h1 h2;cases v with
    |opt g b y=>exact absurd h1 (h0 t g b y)
    |_=>exact this
   rw[hH];have key:=aeB hD hc Jy hsm.2 hd h0 (n0:=n0) hn (Q:=fun e' a' w'=>e'=Ex.normal.ng/\n0<=st.H.length/\∃ρ' S',Sat cx ρ' S' a' w' ⟨js s1.tm wr,st.H,s1.ok⟩/\Step cx.D n0 ρ S st.H w ρ' S' st.H w') ops.size (Array.replicate ops.size false) ρ S a {w with drawn:=w.drawn+1} hmid (O9 _) fun ρ' S' a' w' g1 g2 g3 g4=>by
    exact⟨rfl,hn,ρ',S',⟨g1,g2.wipe _ _,g3⟩,g4.drew⟩
   rw[<-hall]at key;exact key
  ·cases h
 ·split at h
  ·rename_i JB;split at h
   ·rename_i s1 wr hr;simp only[av]at h;subst h;refine⟨fun hok=>JC _ _ _ _ _ _ _ _ hr hok,fun hok h0=>?_⟩;obtain⟨F,ms,ws,hp⟩:=aeD hr hok;have lW:ln s1.tm wr:=fun t g b v e=>by
     rcases wE ops.toList t with hn|⟨k,o,hk1,hk2⟩
     ·rw[hp.rest t fun k o _ h=>hn k o h]at e;exact absurd e (h0 t g b v)
     ·have mw:=(bD.1 hk1).1;rw[hp.fin k o t mw hk1 hk2]at e;refine⟨(hp.mr t).2 ⟨k,o,mw,hk1,hk2⟩,?_⟩;obtain⟨di,dU,fs⟩:=hp.slot k o mw hk1;simp only[av]at e;have q1:=fs.slot;rw[e]at q1;have hg:g∈dU:=by
       unfold wA at q1;split at q1
       ·exact uy q1 g b v rfl
       ·split at q1
        ·exact uy q1 g b v rfl
        ·cases q1
      obtain⟨k',o',c1,c2,c3⟩:=fs.dU g hg;exact(hp.mr g).2 ⟨k',o',by omega,c2,c3⟩
    refine⟨dC.wipe lW,fun ρ S a w hn bM=>?_⟩;have qd:=bM.drawn (w.drawn+1);have hall:ops=ops.toList.toArray:=by simp
    have hmid:=jW.start hp qd.heap qd.defers qd.slots h0;have aeE:=Step.pad (n:=s1.H.length) (n0:=n0) qd.heap hn;have key:=aeF hD hc JB hp (n0:=n0) hn (Q:=fun e' a' w'=>e'=Ex.normal.ng/\n0<=s1.H.length/\∃ρ' S',Sat cx ρ' S' a' w' ⟨js s1.tm wr,s1.H,s1.ok⟩/\Step cx.D n0 ρ S st.H w ρ' S' s1.H w') ops.size (Array.replicate ops.toList.length false) _ _ S a {w with drawn:=w.drawn+1} hmid (by have:=O9 ops.toList.length;simpa using this) fun ρ' S' a' w' g1 g2 g3 g4=>by
     have g5:=aeE.trans g4;exact⟨rfl,lU hn hp.len0,ρ',S',⟨g1,g2.wipe _ _,g3⟩,g5.drew⟩
    rw[<-hall]at key;simpa using key
   ·cases h
  ·cases h
theorem wG{cx:Cx K}(hD:bR cx.D)(hc:aP cx)(hm:cx.P.follows .mixedOrders=true){n0:Nat}{id:Nat}{ops:Array Oper}{draw:Bool}{st st':St K}(h:iO cx ops.toList draw st=some st'):
 (st'.ok=true->st.ok=true)/\(st'.ok=true->dC st.tm->dC st'.tm/\Tr cx n0 (.region id ops draw) st .normal st'):=by
 unfold iO at h;split at h
 ·rename_i hdr;subst hdr;rcases Pg h with h|⟨π,hp,h⟩
  ·obtain⟨h1,h2⟩:=Ph (n0:=n0) hD hc h;refine⟨h1,fun hok h0=>⟨(h2 hok h0).1,fun ρ S a w hn bM=>wp_region_any hm ((h2 hok h0).2 ρ S a w hn bM)⟩⟩
  ·have hp':=Pj hp;have e:ops.toList.toArray=ops:=by simp
   rw[e]at hp';have h':ox cx ((permuted π ops.toList).toArray).toList st=some st':=h;obtain⟨h1,h2⟩:=Ph (n0:=n0) hD hc h';refine⟨h1,fun hok h0=>⟨(h2 hok h0).1,fun ρ S a w hn bM=>wp_region_any hm ?_⟩⟩;have:=(h2 hok h0).2 ρ S a w hn bM;rw[hp'.len']at this;exact aeG hp' _ _ _ _ _ ⟨by simp,by simp,fun j i hj=>by
    obtain⟨o,ho,ho'⟩:=hp'.ops j i hj;have hi:=(kE.1 ho).1;have hj':=(kE.1 ho').1;rw[hp'.len']at hj';rw[Dp,Dp,aY hi,aY hj']⟩ this
 ·rename_i hdr;split at h
  ·rename_i s1 wr hr;simp only[av]at h;subst h;refine⟨fun hok=>JD _ _ _ _ _ hr hok,fun hok h0=>?_⟩;refine⟨dC.wipe (Pe _ _ _ _ _ hr h0.in),fun ρ S a w hn bM=>?_⟩;have hdr':draw=false:=by simpa using hdr
   subst hdr';refine wp_region_list ?_;have key:=Pl (n0:=n0) hD hc ops.toList st s1 [] wr ρ S a w hr hok bM h0.in hn (Q:=fun e' a' w'=>e'=Ex.normal.ng/\n0<=s1.H.length/\∃ρ' S',Sat cx ρ' S' a' w' ⟨js s1.tm wr,s1.H,s1.ok⟩/\Step cx.D n0 ρ S st.H w ρ' S' s1.H w') fun ρ' S' a' w' g1 g2 g3=>
    ⟨rfl,g3.grow bM.heap g1.heap hn,ρ',S',⟨g1.heap,g1.slots.wipe _ _,g1.defers⟩,g3⟩
   exact key
  ·cases h
theorem JE:∀(wr:List Nat)(tm:List (AV K))(t:Nat),t∉wr->(js tm wr)[t]?=tm[t]?
 |[],tm,t,h=>rfl
 |d::r,tm,t,h=>by
  simp only[jm,not_or]at h;simp only[js];split
  ·rw[JE r _ t h.2,List.getElem?_set_ne (ot h.1)]
  ·exact JE r tm t h.2
theorem JF:∀(wr:List Nat)(tm:List (AV K)),(js tm wr).length=tm.length
 |[],tm=>rfl
 |d::r,tm=>by
  simp only[js];split
  ·rw[JF r];simp
  ·exact JF r tm
theorem aeH{q:Bool}{cx:Cx K}{ops:List Oper}{tm:List (AV K)}{wr:List Nat}{o:Oper}{v:AV K}{c:Bool}(hs:ja cx o.op=true)(h:iM q cx ops tm H wr o=some (v,H',c)):H'=H:=by
 unfold iM at h;split at h
 ·cases h
 ·split at h
  ·rename_i hy;split at h
   ·cases h
   ·simp only[av,aZ]at h;obtain⟨-,rfl,-⟩:=h;exact Pm hs hy
  ·cases h
 ·split at h
  ·split at h
   ·split at h
    ·split at h
     ·rename_i hy;split at h
      ·cases h
      ·simp only[av,aZ]at h;obtain⟨-,rfl,-⟩:=h;exact Pm hs hy
     ·cases h
    ·simp only[av,aZ]at h;exact h.2.1.symm
   ·cases h
  split at h
  ·cases h
  ·split at h
   ·split at h
    ·simp only[av,aZ]at h;exact h.2.1.symm
    ·cases h
   ·cases h
structure Quiet (st st':St K) (wr:List Nat):Prop where
 H:st'.H=st.H
 len:st'.tm.length=st.tm.length
 rest:∀t,t∉wr->st'.tm[t]?=st.tm[t]?
theorem Pn{st st':St K}{wr wr' ds:List Nat}{dst:Option Nat}{v:AV K}{ok:Bool}(h:uj st wr dst v st.H ok=some (st',wr'))(hd:∀d,dst=some d->d∈ds)(hw:∀d∈wr,d∈ds):Quiet st st' ds/\∀d∈wr',d∈ds:=by
 obtain⟨p1,p2,p3⟩:=qc h;rcases p3 with⟨e1,e2,e3⟩|⟨d,e1,e2,e3,e4,e5⟩
 ·exact⟨⟨p1,by rw[e2],fun t _=>by rw[e2]⟩,by rw[e3];exact hw⟩
 ·refine⟨⟨p1,by rw[e4];simp,fun t ht=>?_⟩,fun d' hd'=>?_⟩
  ·rw[e4,List.getElem?_set_ne fun e=>ht (by rw[<-e];exact hd d e1)]
  ·rw[e5]at hd';rcases jm.1 hd' with rfl|h'
   ·exact hd _ e1
   ·exact hw _ h'
theorem Quiet.trans{st st1 st2:St K}{wr:List Nat}(a:Quiet st st1 wr)(b:Quiet st1 st2 wr):Quiet st st2 wr:=
 ⟨b.H.trans a.H,b.len.trans a.len,fun t ht=>(b.rest t ht).trans (a.rest t ht)⟩
theorem Quiet.more{st st1:St K}{wr wr':List Nat}(a:Quiet st st1 wr)(h:∀d∈wr,d∈wr'):Quiet st st1 wr':=⟨a.H,a.len,fun t ht=>a.rest t fun h'=>ht (h t h')⟩
theorem Po{cx:Cx K}{ops:List Oper}{ds:List Nat}:∀(l:List Oper)(st st':St K)(wr wr':List Nat),aeO cx ops l st wr=some (st',wr')->(∀o∈l,ja cx o.op=true)->(∀o∈l,∀d,o.dst=some d->d∈ds)->(∀d∈wr,d∈ds)->Quiet st st' ds/\∀d∈wr',d∈ds
 |[],st,st',wr,wr',h,_,_,hw=>by simp only[aeO,av,aZ]at h;obtain⟨rfl,rfl⟩:=h;exact⟨⟨rfl,rfl,fun _ _=>rfl⟩,hw⟩
 |o::r,st,st',wr,wr',h,hs,hd,hw=>by
  simp only[aeO]at h;split at h
  ·rename_i st1 iG h1;unfold uk at h1;split at h1
   ·rename_i v H1 c hsv;have hH:=aeH (hs o (by simp)) hsv;subst hH;obtain⟨q1,q2⟩:=Pn h1 (fun d e=>hd o (by simp) d e) hw;obtain⟨q3,q4⟩:=Po r st1 st' iG wr' h (fun o ho=>hs o (by simp[ho])) (fun o ho=>hd o (by simp[ho])) q2;exact⟨q1.trans q3,q4⟩
   ·cases h1
  ·cases h
theorem Pq{cx:Cx K}{L:List Oper}{bs ds:List Nat}:∀(l:List Oper)(i:Nat)(st st':St K)(wr wr':List Nat),mo cx L bs l i st wr=some (st',wr')->(∀o∈l,∀d,o.dst=some d->d∈ds)->(∀d∈wr,d∈ds)->Quiet st st' ds/\∀d∈wr',d∈ds
 |[],i,st,st',wr,wr',h,_,hw=>by simp only[mo,av,aZ]at h;obtain⟨rfl,rfl⟩:=h;exact⟨⟨rfl,rfl,fun _ _=>rfl⟩,hw⟩
 |o::r,i,st,st',wr,wr',h,hd,hw=>by
  simp only[mo]at h;split at h
  ·split at h
   ·rename_i st1 iG h1;obtain⟨q1,q2⟩:=Pn h1 (fun d e=>hd o (by simp) d e) hw;obtain⟨q3,q4⟩:=Pq r _ st1 st' iG wr' h (fun o ho=>hd o (by simp[ho])) q2;exact⟨q1.trans q3,q4⟩
   ·cases h
  ·cases h
theorem Quiet.wipe{st st1:St K}{wr ds:List Nat}(a:Quiet st st1 ds)(h:∀d∈wr,d∈ds):Quiet st ⟨js st1.tm wr,st1.H,st1.ok⟩ ds:=
 ⟨a.H,by simp[JF,a.len],fun t ht=>by dsimp only;rw[JE wr _ t fun h'=>ht (h t h')];exact a.rest t ht⟩
theorem DN{cx:Cx K}{ops:List Oper}{draw:Bool}{st:St K}{b:Bool}{s1 s2:St K}:∀(l:List Nat),y8 cx ops draw st l=some (b,s1,s2)->
 ∃t,iO {cx with gs:=[(t,true)]} ops draw st=some s1/\iO {cx with gs:=[(t,false)]} ops draw st=some s2
 |[],h=>by cases h
 |t::r,h=>by
  unfold y8 at h;split at h
  ·rename_i a1 a2 h1 h2;split at h
   ·simp only[av,aZ]at h;obtain⟨-,rfl,rfl⟩:=h;exact⟨t,h1,h2⟩
   ·exact DN r h
  ·exact DN r h
theorem Sat.gs{cx:Cx K}{g:List (Nat×Bool)}{a:Act}{st:St K}(h:Sat cx ρ S a w st):Sat {cx with gs:=g} ρ S a w st:=⟨h.heap,h.slots,h.defers⟩
theorem Sat.aeI{cx:Cx K}{g:List (Nat×Bool)}{a:Act}{st:St K}(h:Sat {cx with gs:=g} ρ S a w st):Sat cx ρ S a w st:=⟨h.heap,h.slots,h.defers⟩
theorem Tr.gs{cx:Cx K}{g:List (Nat×Bool)}{n0:Nat}{c:Code}{st st':St K}{e:Ex}(h:Tr {cx with gs:=g} n0 c st e st'):Tr cx n0 c st e st':=fun ρ S a w hn hs=>
 wp_mono (h ρ S a w hn hs.gs) fun e' a' w' ⟨h1,h2,ρ',S',h3,h4⟩=>⟨h1,h2,ρ',S',h3.aeI,h4⟩
def ir.All(Q:St K->Prop):ir K->Prop
 |.no=>True
 |.leaf s=>Q s
 |.node _ x y=>x.All Q/\y.All Q
 |.two x y=>Q x/\Q y
theorem ir.JG{cx:Cx K}{Q:St K->Prop}(hor:∀{R:Type}(a b:Option R)(r:R),cx.yD a b=some r->a=some r\/b=some r):∀(T:ir K),T.All Q->∀{R:Type}{k:St K->Option R}{r:R},T.go cx k=some r->∃s,Q s/\k s=some r
 |.no,_,R,k,r,h=>by cases h
 |.leaf s,hq,R,k,r,h=>⟨s,hq,h⟩
 |.node b x y,hq,R,k,r,h=>by
   cases b with
   |true=>exact ir.JG hor x hq.1 h
   |false=>exact ir.JG hor y hq.2 h
 |.two x y,hq,R,k,r,h=>by
   rcases hor _ _ _ h with h|h
   ·exact⟨x,hq.1,h⟩
   ·exact⟨y,hq.2,h⟩
theorem JH{cx:Cx K}{ops:List Oper}{draw:Bool}{st:St K}{Q:St K->Prop}(h0:∀gs s,iO {cx with gs:=gs} ops draw st=some s->Q s)
 (h1:∀x gs s,iO {cx with call:=cx.alt x,mode:=cx.pX x,gs:=gs} ops draw st=some s->Q s):∀(n:Nat)(gs:List (Nat×Bool))(T:ir K),y9 cx ops draw st n gs=some T->T.All Q
 |0,gs,T,h=>by cases h
 |n+1,gs,T,h=>by
  unfold y9 at h;split at h
  ·rename_i s hs;cases h;exact h0 gs s hs
  ·split at h
   ·rename_i s1 s2 e1 e2;cases h;exact⟨h1 true gs s1 e1,h1 false gs s2 e2⟩
   ·split at h
    ·split at h
     ·rename_i x y ex ey;cases h;exact⟨JH h0 h1 n _ x ex,JH h0 h1 n _ y ey⟩
     ·cases h
    ·split at h
     ·cases h;trivial
     ·cases h
theorem ir.DO{Q:St K->Prop}:∀(T:ir K),T.All Q->∀{R:Type}{k:St K->Option R}{r:R},T.DI k=some r->∃s,Q s/\k s=some r
 |.no,_,R,k,r,h=>by cases h
 |.leaf s,hq,R,k,r,h=>⟨s,hq,h⟩
 |.node b x y,hq,R,k,r,h=>by
   cases b with
   |true=>exact ir.DO x hq.1 h
   |false=>exact ir.DO y hq.2 h
 |.two x y,hq,R,k,r,h=>by cases h
theorem DR{cx:Cx K}{ops:List Oper}{draw:Bool}{st:St K}{Q:St K->Prop}(h0:∀gs s,iO {cx with gs:=gs} ops draw st=some s->Q s):
 ∀(n:Nat)(gs:List (Nat×Bool))(T:ir K),za cx ops draw st n gs=some T->T.All Q
 |0,gs,T,h=>by cases h
 |n+1,gs,T,h=>by
  unfold za at h;split at h
  ·rename_i s hs;cases h;exact h0 gs s hs
  ·split at h
   ·split at h
    ·rename_i x y ex ey;cases h;exact⟨DR h0 n _ x ex,DR h0 n _ y ey⟩
    ·cases h
   ·split at h
    ·cases h;trivial
    ·cases h
theorem Sat.call{cx:Cx K}{g:FuncId->List (AV K)->List (Ob K)->Option (AV K×List (Ob K)×Bool)}{m:FuncId->Mode}{a:Act}{st:St K}(h:Sat cx ρ S a w st):Sat {cx with call:=g,mode:=m} ρ S a w st:=⟨h.heap,h.slots,h.defers⟩
theorem Sat.aeJ{cx:Cx K}{g:FuncId->List (AV K)->List (Ob K)->Option (AV K×List (Ob K)×Bool)}{m:FuncId->Mode}{a:Act}{st:St K}(h:Sat {cx with call:=g,mode:=m} ρ S a w st):Sat cx ρ S a w st:=⟨h.heap,h.slots,h.defers⟩
theorem Tr.call{cx:Cx K}{g:FuncId->List (AV K)->List (Ob K)->Option (AV K×List (Ob K)×Bool)}{m:FuncId->Mode}{n0:Nat}{c:Code}{st st':St K}{e:Ex}(h:Tr {cx with call:=g,mode:=m} n0 c st e st'):Tr cx n0 c st e st':=fun ρ S a w hn hs=>
 wp_mono (h ρ S a w hn hs.call) fun e' a' w' ⟨h1,h2,ρ',S',h3,h4⟩=>⟨h1,h2,ρ',S',h3.aeJ,h4⟩
theorem JI{cx:Cx K}{g:List (Nat×Bool)}:∀(o:Op),ja {cx with gs:=g} o=ja cx o:=fun o=>by
 unfold ja;rfl
theorem DT{cx:Cx K}{id:Nat}{ops:Array Oper}{draw:Bool}{st st':St K}(hs:∀o∈ops.toList,ja cx o.op=true)(hr:iO cx ops.toList draw st=some st'):Quiet st st' (writes (.region id ops draw)):=by
 have hd:∀o∈ops.toList,∀d,o.dst=some d->d∈writes (.region id ops draw):=fun o ho d hd=>by
  simp only[writes,List.mem_filterMap];exact⟨o,ho,hd⟩
 have dq:∀(L:List Oper),(∀o∈L,ja cx o.op=true)->(∀o∈L,∀d,o.dst=some d->d∈writes (.region id ops draw))->ox cx L st=some st'->Quiet st st' (writes (.region id ops draw)):=fun L hs hd hr=>by
  unfold ox at hr;split at hr
  ·split at hr
   ·rename_i s1 wr h1;simp only[av]at hr;subst hr;obtain⟨q1,q2⟩:=Pq _ _ _ _ _ _ h1 hd (by simp);exact q1.wipe q2
   ·cases hr
  ·rename_i hnq;split at hr
   ·rename_i JB;exact absurd (by rw[cG];exact⟨fN.2 fun o ho=>aeC (hs o ho),JB⟩) hnq
   ·cases hr
 unfold iO at hr;split at hr
 ·rcases Pg hr with hr|⟨π,hp,hr⟩
  ·exact dq _ hs hd hr
  ·have hp':=Pj hp;have src:∀o∈permuted π ops.toList,∃o1∈ops.toList,o=um π ops.toList.length o1:=fun o ho=>by
    obtain⟨j,hj,e⟩:=vY ho;have hjn:j<π.length:=by simpa [permuted]using hj
    obtain⟨o1,h1,h2⟩:=hp'.ops j _ (cH hjn);have h3:(permuted π ops.toList)[j]?=some o:=by rw[cH hj,e]
    have h4:=h3.symm.trans (by simpa using h2);exact⟨o1,eN (by simpa using h1),by simpa using fA h4⟩
   refine dq _ (fun o ho=>?_) (fun o ho d hod=>?_) hr
   ·obtain⟨o1,h1,rfl⟩:=src o ho;exact hs o1 h1
   ·obtain⟨o1,h1,rfl⟩:=src o ho;exact hd o1 h1 d hod
 ·split at hr
  ·rename_i s1 wr h1;simp only[av]at hr;subst hr;obtain⟨q1,q2⟩:=Po _ _ _ _ _ h1 hs hd (by simp);exact q1.wipe q2
  ·cases hr
theorem wH{cx:Cx K}:∀(c:Code),simple cx c=true->∀{R:Type}(st:St K)(k:Ex->St K->Option R)(r:R),gi cx c st k=some r->∃st',k .normal st'=some r/\Quiet st st' (writes c)
 |.skip,_,R,st,k,r,h=>⟨st,h,rfl,rfl,fun _ _=>rfl⟩
 |.region id ops draw,hs,R,st,k,r,h=>by
   simp only[gi]at h;have hs':∀o∈ops.toList,ja cx o.op=true:=by simpa only[simple,fN]using hs
   split at h
   ·rename_i st' hr;exact⟨st',h,DT hs' hr⟩
   ·split at h
    ·rename_i b s1 s2 hsp;obtain⟨t,h1,h2⟩:=DN _ hsp;cases b with
     |true=>exact⟨s1,h,DT (cx:={cx with gs:=[(t,true)]}) (fun o ho=>by rw[JI];exact hs' o ho) h1⟩
     |false=>exact⟨s2,h,DT (cx:={cx with gs:=[(t,false)]}) (fun o ho=>by rw[JI];exact hs' o ho) h2⟩
    ·rw[aY (fN.2 hs')]at h;split at h
     ·rename_i T hT;obtain⟨s,hq,hk⟩:=ir.DO _ (DR (Q:=fun s'=>Quiet st s' (writes (.region id ops draw))) (fun gs s' hr=>DT (cx:={cx with gs:=gs}) (fun o ho=>by rw[JI];exact hs' o ho) hr) 4 [] T hT) h;exact⟨s,hk,hq⟩
     ·cases h
 |.seq a b,hs,R,st,k,r,h=>by
   simp only[simple,cG]at hs;simp only[gi]at h;obtain⟨s1,h1,q1⟩:=wH a hs.1 st _ r h;obtain⟨s2,h2,q2⟩:=wH b hs.2 s1 k r h1;exact⟨s2,h2,(q1.more fun d hd=>by simp[writes,hd]).trans (q2.more fun d hd=>by simp[writes,hd])⟩
 |.cond c a b,hs,R,st,k,r,h=>by
   have hs':=hs;simp only[simple,cG]at hs;simp only[gi]at h;split at h
   ·rename_i t ht;rw[aY (by simp[hs.1,hs.2])]at h;split at h
    ·rename_i sa sb ha hb;refine⟨_,h,?_⟩;obtain⟨s1,g1,q1⟩:=wH a hs.1 st _ sa ha;obtain⟨s2,g2,q2⟩:=wH b hs.2 st _ sb hb;simp only[wC,av]at g1 g2;subst g1;subst g2;have hlen:∀(wr:List Nat)(l s t':List (AV K))(n:Nat),s.length=l.length->t'.length=l.length->(jt t wr n l s t').length=l.length:=fun wr l=>by
      induction l with
      |nil=>intro s t' n h1 h2;simp at h1 h2;subst h1;subst h2;rfl
      |cons x l ih=>
       intro s t' n h1 h2;cases s with
       |nil=>simp at h1
       |cons y s=>
        cases t' with
        |nil=>simp at h2
        |cons z t'=>
         simp only[jt,ak];rw[ih s t' (n+1) (by simpa using h1) (by simpa using h2)]
     have hget:∀(wr:List Nat)(l s t':List (AV K))(n i:Nat),s.length=l.length->t'.length=l.length->n+i∉wr->(jt t wr n l s t')[i]?=l[i]?:=fun wr l=>by
      induction l with
      |nil=>intro s t' n i h1 h2 _;simp at h1 h2;subst h1;subst h2;rfl
      |cons x l ih=>
       intro s t' n i h1 h2 hni;cases s with
       |nil=>simp at h1
       |cons y s=>
        cases t' with
        |nil=>simp at h2
        |cons z t'=>
         simp only[jt];cases i with
         |zero=>simp only[Nat.add_zero]at hni;simp[hni]
         |succ i=>
          simp only[List.getElem?_cons_succ];exact ih s t' (n+1) i (by simpa using h1) (by simpa using h2) (by rw[oh,wu 1 i];exact hni)
     refine⟨rfl,hlen _ _ _ _ _ q1.len q2.len,fun i hi=>?_⟩;exact hget _ _ _ _ 0 i q1.len q2.len (by rw[jq];simpa [writes]using hi)
    ·cases h
   ·cases h
 |.block ..,hs,R,st,k,r,h=>by simp[simple]at hs
 |.loop ..,hs,R,st,k,r,h=>by simp[simple]at hs
 |.exit ..,hs,R,st,k,r,h=>by simp[simple]at hs
 |.ret,hs,R,st,k,r,h=>by simp[simple]at hs
 |.scope ..,hs,R,st,k,r,h=>by simp[simple]at hs
 |.rangeFunc ..,hs,R,st,k,r,h=>by simp[simple]at hs
 |.goto ..,hs,R,st,k,r,h=>by simp[simple]at hs
 |.label ..,hs,R,st,k,r,h=>by simp[simple]at hs
end Go.V
namespace Go.V
open Go
variable {K :dh}{ρ ρ':List Value}{S S':Nat->Prop}{w w':World}{H H':List (Ob K)}
def bF(cx:Cx K)(c:Code)(L:bE K):Prop:=
 ∀(vals:List (AV K))(Hi:List (Ob K))(R:Type)(k:Ex->List (AV K)->List (Ob K)->Option R)(r:R),L.run vals Hi k=some r->
  ∃e vs Ho,k e vs Ho=some r/\Tr cx Hi.length (.loop c) ⟨ek (List.replicate L.n .any) L.ins vals,Hi,true⟩ e ⟨ek (List.replicate L.n .any) L.outs vs,Ho,true⟩
def ju(cx:Cx K):Code->Prop
 |.loop c=>∀L,cx.loop (keyOf c)=some L->bF cx c L
 |.seq a b=>ju cx a/\ju cx b
 |.cond _ a b=>ju cx a/\ju cx b
 |.block _ c=>ju cx c
 |_=>True
theorem aeK:∀(b:Bool)(x y:AV K),(merge b x y).jr=false:=by
 intro b x y;cases x<;>cases y<;>simp only[merge]<;>(try split)<;>rfl
theorem JJ{t:Bool}{wr:List Nat}:∀(l s s':List (AV K))(n i:Nat)(v:AV K),(jt t wr n l s s')[i]?=some v->
 (n+i∉wr/\l[i]?=some v)\/∃x y,s[i]?=some x/\s'[i]?=some y/\v=merge t x y
 |[],s,s',n,i,v,h=>by simp[jt]at h
 |x::l,[],s',n,i,v,h=>by simp[jt]at h
 |x::l,y::s,[],n,i,v,h=>by simp[jt]at h
 |x::l,y::s,z::s',n,0,v,h=>by
  simp only[jt,List.getElem?_cons_zero,av]at h;subst h;by_cases hc:n∈wr
  ·exact .inr ⟨y,z,rfl,rfl,by simp[hc]⟩
  ·exact .inl ⟨hc,by simp[hc]⟩
 |x::l,y::s,z::s',n,i+1,v,h=>by
  simp only[jt,List.getElem?_cons_succ]at h;rcases JJ l s s' (n+1) i v h with⟨h1,h2⟩|⟨a,b,h1,h2,h3⟩
  ·exact .inl ⟨by rw[wu i 1,<-oh];exact h1,by simpa using h2⟩
  ·exact .inr ⟨a,b,by simpa using h1,by simpa using h2,h3⟩
theorem Pv{t:Bool}{wr:List Nat}:∀(l s s':List (AV K))(n:Nat),s.length=l.length->s'.length=l.length->(jt t wr n l s s').length=l.length
 |[],s,s',n,h1,h2=>by cases s<;>cases s'<;>simp[jt]
 |x::l,[],s',n,h1,h2=>by simp at h1
 |x::l,y::s,[],n,h1,h2=>by simp at h2
 |x::l,y::s,z::s',n,h1,h2=>by
  simp only[jt,ak];rw[Pv l s s' (n+1) (by simpa using h1) (by simpa using h2)]
theorem fb.rep{D:bH K}{tm:List (AV K)}{tmps:Array Value}(h:fb D ρ S w tm tmps)(h0:dC tm){t:Nat}{v:AV K}{x:Value}(hv:tm[t]?=some v)(hx:tmps[t]?=some x):Rep D ρ S w v x:=by
 have:=h.ok t v x hv hx;cases v with
 |opt g b y=>exact absurd hv (h0 t g b y)
 |_=>exact this
theorem aeL{D:bH K}{t:Bool}{wr:List Nat}{l sa sb:List (AV K)}{tmps:Array Value}(hab:dC (cond t sa sb))(la:sa.length=l.length)(lb:sb.length=l.length)(ra:∀t,t∉wr->sa[t]?=l[t]?)(rb:∀t,t∉wr->sb[t]?=l[t]?)
 (h:fb D ρ S w (cond t sa sb) tmps):fb D ρ S w (jt t wr 0 l sa sb) tmps:=by
 refine⟨by rw[Pv _ _ _ _ la lb,<-h.len];cases t<;>simp[la,lb],fun i v x hv hx=>?_⟩;rcases JJ l sa sb 0 i v hv with⟨h1,h2⟩|⟨a,b,h1,h2,rfl⟩
 ·rw[jq]at h1;refine .jR ?_;cases t
  ·exact h.rep hab (by rw[aR,rb i h1];exact h2) hx
  ·exact h.rep hab (by rw[ae,ra i h1];exact h2) hx
 ·refine .jR (Oc (fun e=>?_) fun e=>?_)
  ·subst e;exact h.rep hab h1 hx
  ·subst e;exact h.rep hab h2 hx
theorem aeM{t:Bool}{wr:List Nat}{l sa sb:List (AV K)}(h0:dC l):dC (jt t wr 0 l sa sb):=fun i g b v e=>by
 rcases JJ l sa sb 0 i _ e with⟨-,h2⟩|⟨x,y,-,-,h3⟩
 ·exact h0 i g b v h2
 ·have:=aeK t x y;rw[<-h3]at this;simp[AV.jr]at this
theorem uz:∀(ds:List Nat)(vs tm:List (AV K)),(ek tm ds vs).length=tm.length
 |[],vs,tm=>by simp[ek]
 |d::r,[],tm=>by simp[ek]
 |d::r,v::vs,tm=>by simp only[ek];rw[uz r vs];simp
theorem wI:∀(ds:List Nat)(vs tm:List (AV K))(t:Nat)(v:AV K),(ek tm ds vs)[t]?=some v->tm[t]?=some v\/∃i:Nat,ds[i]?=some t/\vs[i]?=some v
 |[],vs,tm,t,v,h=>.inl (by simpa [ek]using h)
 |d::r,[],tm,t,v,h=>.inl (by simpa [ek]using h)
 |d::r,x::vs,tm,t,v,h=>by
  simp only[ek]at h;rcases wI r vs _ t v h with h1|⟨i,h1,h2⟩
  ·rcases fj h1 with⟨rfl,rfl,-⟩|⟨-,h1⟩
   ·exact .inr ⟨0,rfl,rfl⟩
   ·exact .inl h1
  ·exact .inr ⟨i+1,by simpa using h1,by simpa using h2⟩
theorem Px{p:AV K->AV K->Prop}:∀(ds:List Nat)(vs vs' tm tm':List (AV K)),vs.length=vs'.length->tm.length=tm'.length->(∀(i:Nat) v v',vs[i]?=some v->vs'[i]?=some v'->p v v')->(∀(t:Nat) v v',tm[t]?=some v->tm'[t]?=some v'->p v v')->
 ∀(t:Nat) v v',(ek tm ds vs)[t]?=some v->(ek tm' ds vs')[t]?=some v'->p v v'
 |[],vs,vs',tm,tm',h1,h2,h3,h4,t,v,v',g1,g2=>h4 t v v' (by simpa [ek]using g1) (by simpa [ek]using g2)
 |d::r,[],[],tm,tm',h1,h2,h3,h4,t,v,v',g1,g2=>h4 t v v' (by simpa [ek]using g1) (by simpa [ek]using g2)
 |d::r,[],_::_,tm,tm',h1,h2,h3,h4,t,v,v',g1,g2=>by simp at h1
 |d::r,_::_,[],tm,tm',h1,h2,h3,h4,t,v,v',g1,g2=>by simp at h1
 |d::r,x::vs,x'::vs',tm,tm',h1,h2,h3,h4,t,v,v',g1,g2=>by
  simp only[ek]at g1 g2;refine Px r vs vs' _ _ (by simpa using h1) (by simpa using h2) (fun i a b ha hb=>h3 (i+1) a b (by simpa using ha) (by simpa using hb)) (fun k a b ha hb=>?_) t v v' g1 g2;rcases fj ha with⟨rfl,rfl,-⟩|⟨hne,ha⟩
  ·rcases fj hb with⟨-,rfl,-⟩|⟨hne,-⟩
   ·exact h3 0 _ _ rfl rfl
   ·exact absurd rfl hne
  ·rcases fj hb with⟨rfl,-⟩|⟨-,hb⟩
   ·exact absurd rfl hne
   ·exact h4 k a b ha hb
theorem uA{f:Nat->Option Nat}:∀(l l':List (AV K)),jk f l=some l'->l'.length=l.length/\∀(i:Nat) v',l'[i]?=some v'->∃v,l[i]?=some v/\fH f v=some v'
 |[],l',h=>by simp[jk]at h;subst h;simp
 |x::l,l',h=>by
  simp only[jk]at h;split at h
  ·rename_i y m h1 h2;simp only[av]at h;subst h;obtain⟨g1,g2⟩:=uA l m h2;refine⟨by simp[g1],fun i v' hi=>?_⟩;cases i with
   |zero=>simp at hi;subst hi;exact⟨x,rfl,h1⟩
   |succ i=>simp at hi;obtain⟨v,q1,q2⟩:=g2 i v' hi;exact⟨v,by simpa using q1,q2⟩
  ·cases h
theorem aeN{f:Nat->Option Nat}{v v':AV K}(h:fH f v=some v'):v'.jr=false:=by
 cases v<;>simp only[fH,dy,av]at h<;>first
  |(subst h;rfl)
  |(obtain⟨a,-,rfl⟩:=h;rfl)
  |cases h
theorem Py{n:Nat}{ds:List Nat}{l l':List (AV K)}{f:Nat->Option Nat}(h:jk f l=some l'):dC (ek (List.replicate n .any) ds l'):=fun t g b v e=>by
 rcases wI ds l' _ t _ e with h1|⟨i,-,h2⟩
 ·rw[m8]at h1;split at h1<;>cases h1
 ·obtain⟨v0,-,q⟩:=(uA l l' h).2 i _ h2;have:=aeN q;simp[AV.jr]at this
theorem JK{D:bH K}{n:Nat}{ds:List Nat}{vs:List (AV K)}{tmps:Array Value}(hn:tmps.size=n)(h:∀(i t:Nat) v x,ds[i]?=some t->vs[i]?=some v->tmps[t]?=some x->Rep D ρ S w v x):fb D ρ S w (ek (List.replicate n .any) ds vs) tmps:=
 ⟨by rw[uz];simp[hn],fun t v x hv hx=>.jR (by
   rcases wI ds vs _ t v hv with h1|⟨i,h1,h2⟩
   ·rw[m8]at h1;split at h1
    ·simp at h1;subst h1;exact .any x
    ·cases h1
   ·exact h i t v x h1 h2 hx)⟩
theorem Pz{cx:Cx K}(hD:bR cx.D){c:Code}{L:bE K}{n0:Nat}{st st':St K}{m:List Nat}{vals vs:List (AV K)}{Hi Ho:List (Ob K)}{e:Ex}(hn:st.tm.length=L.n)(h0:dC st.tm)
 (hin:inLoop st.H (L.ins.map fun t=>st.tm.getD t .any)=some (m,vals,Hi)) (hout:DF L m st vs Ho=some st')
 (htr:Tr cx Hi.length (.loop c) ⟨ek (List.replicate L.n .any) L.ins vals,Hi,true⟩ e ⟨ek (List.replicate L.n .any) L.outs vs,Ho,true⟩):dC st'.tm/\Tr cx n0 (.loop c) st e st':=by
 unfold inLoop at hin;split at hin
 ·rename_i hp;split at hin
  ·rename_i kG Hi' hv hH;simp only[av,aZ]at hin;obtain⟨rfl,rfl,rfl⟩:=hin;unfold DF at hout;split at hout
   ·rename_i vs' ij hvs IB;split at hout
    ·rename_i hle;simp only[av]at hout;subst hout;refine⟨Py hvs,fun ρ S a w hn0 bM=>?_⟩;obtain⟨s1,s2,s3,s4⟩:=N1 hD bM.heap hp hH;have hrs:=Iw (ρ:=ρ) (m:=reach st.H 64 (cr (L.ins.map fun t=>st.tm.getD t .any)) []) (fun i h hi=>by rw[bM.heap.len];exact(yA _ hp).1 i h hi);have hsize:a.tmps.size=L.n:=by rw[<-hn,bM.slots.len]
     have fC:Sat cx (rk ρ (reach st.H 64 (cr (L.ins.map fun t=>st.tm.getD t .any)) [])) S a w ⟨ek (List.replicate L.n .any) L.ins kG,Hi',true⟩:=⟨s1,JK hsize fun i t v x g1 g2 g3=>by
      obtain⟨v0,q1,q2⟩:=(uA _ _ hv).2 i v g2;simp only[ik,g1,iC,av]at q1;subst q1;refine rl hD s4 _ v x q2 ?_;rw[gn];cases hg:st.tm[t]? with
      |none=>exact .any x
      |some v1=>exact bM.slots.rep h0 hg g3,bM.defers⟩
     refine wp_mono (htr _ S a w (fh _) fC) fun e' a' w'=>?_
     rintro ⟨he,aeP,ρo,So,hso,hst⟩
     obtain⟨j1,j2,j3⟩:=join hD bM.heap hp hrs s2 s3 s1 hso.heap hst aeP IB;refine⟨he,?_,_,So,⟨j1,?_,hso.defers⟩,j2.weaken hn0⟩
     ·have:=j2.grow bM.heap j1 (fh _);dsimp only at this⊢;omega
     ·refine⟨by rw[uz];have:=hso.slots.len;rw[uz]at this;exact this,fun t v x hv' hx=>?_⟩;have hlt:t<(ek (List.replicate L.n .any) L.outs vs).length:=by
       have:=(bD.1 hv').1;rw[uz]at this⊢;exact this
      have hg:=cH hlt;have hrep:eM cx.D ρo So w' a'.tmps _ x:=hso.slots.ok t _ x hg hx;have hrel:=Px (p:=fun v v'=>v'=.any\/fH (fun h=>(gZ (reach st.H 64 (cr (L.ins.map fun t=>st.tm.getD t .any)) []) st.H.length Ho.length)[h]?) v=some v') L.outs vs vs' (List.replicate L.n .any) (List.replicate L.n .any)
       (uA _ _ hvs).1.symm rfl (fun i v v' h1 h2=>by
         obtain⟨v0,q1,q2⟩:=(uA _ _ hvs).2 i v' h2;rw[h1]at q1;simp at q1;subst q1;exact .inr q2) (fun t v v' h1 h2=>by
         rw[m8]at h2;split at h2
         ·simp at h2;exact .inl h2.symm
         ·cases h2) t _ v hg hv'
      rcases hrel with rfl|hrel
      ·exact .jR (.any x)
      ·refine .jR (rl hD j3 _ v x hrel ?_);generalize (ek (List.replicate L.n .any) L.outs vs)[t]=y at hrep hrel;cases y with
       |opt=>simp[fH]at hrel
       |_=>exact hrep
    ·cases hout
   ·cases hout
  ·cases hin
 ·cases hin
theorem oy{cx:Cx K}(hD:bR cx.D)(hc:aP cx)(hm:cx.P.follows .mixedOrders=true):∀(c:Code),ju cx c->∀{R:Type}(st:St K)(k:Ex->St K->Option R)(r:R),gi cx c st k=some r->
 ∃e st',k e st'=some r/\(st'.ok=true->st.ok=true)/\(st'.ok=true->dC st.tm->dC st'.tm/\∀n0,Tr cx n0 c st e st')
 |.skip,_,R,st,k,r,h=>⟨.normal,st,h,id,fun _ h0=>⟨h0,fun n0 ρ S a w hn bM=>wp_skip ⟨rfl,hn,ρ,S,bM,Step.refl⟩⟩⟩
 |.exit id,_,R,st,k,r,h=>⟨.exit id,st,h,fun h=>h,fun _ h0=>⟨h0,fun n0 ρ S a w hn bM=>wp_exit ⟨rfl,hn,ρ,S,bM,Step.refl⟩⟩⟩
 |.ret,_,R,st,k,r,h=>⟨.ret,st,h,fun h=>h,fun _ h0=>⟨h0,fun n0 ρ S a w hn bM=>wp_ret ⟨rfl,hn,ρ,S,bM,Step.refl⟩⟩⟩
 |.region id ops draw,_,R,st,k,r,h=>by
   simp only[gi]at h;split at h
   ·rename_i st' hr;have:=fun n0=>wG (id:=id) (n0:=n0) hD hc hm hr
    exact⟨.normal,st',h,(this 0).1,fun hok h0=>⟨((this 0).2 hok h0).1,fun n0=>((this n0).2 hok h0).2⟩⟩
   ·split at h
    ·rename_i b s1 s2 hsp;obtain⟨t,h1,h2⟩:=DN _ hsp;have key:∀(x:Bool)(s':St K),iO {cx with gs:=[(t,x)]} ops.toList draw st=some s'->k .normal s'=some r->
      ∃e st',k e st'=some r/\(st'.ok=true->st.ok=true)/\(st'.ok=true->dC st.tm->dC st'.tm/\∀n0,Tr cx n0 (.region id ops draw) st e st'):=fun x s' hr hk=>by
      have:=fun n0=>wG (cx:={cx with gs:=[(t,x)]}) (id:=id) (n0:=n0) hD hc hm hr
      exact⟨.normal,s',hk,(this 0).1,fun hok h0=>⟨((this 0).2 hok h0).1,fun n0=>(((this n0).2 hok h0).2).gs⟩⟩
     cases b with
     |true=>exact key true s1 h1 h
     |false=>exact key false s2 h2 h
    ·split at h
     ·split at h
      ·rename_i T hT;obtain⟨s,⟨hq1,hq2⟩,hk⟩:=ir.DO (Q:=fun s'=>(s'.ok=true->st.ok=true)/\(s'.ok=true->dC st.tm->dC s'.tm/\∀n0,Tr cx n0 (.region id ops draw) st .normal s')) _ (DR (fun gs s' hr=>by
        have:=fun n0=>wG (cx:={cx with gs:=gs}) (id:=id) (n0:=n0) hD hc hm hr
        exact⟨(this 0).1,fun hok h0=>⟨((this 0).2 hok h0).1,fun n0=>(((this n0).2 hok h0).2).gs⟩⟩) 4 [] T hT) h
       exact⟨.normal,s,hk,hq1,hq2⟩
      ·cases h
     ·split at h
      ·rename_i s1 s2 h1 h2;have key:∀(x:Bool)(s':St K),iO {cx with call:=cx.alt x,mode:=cx.pX x} ops.toList draw st=some s'->k .normal s'=some r->
        ∃e st',k e st'=some r/\(st'.ok=true->st.ok=true)/\(st'.ok=true->dC st.tm->dC st'.tm/\∀n0,Tr cx n0 (.region id ops draw) st e st'):=fun x s' hr hk=>by
        have:=fun n0=>wG (cx:={cx with call:=cx.alt x,mode:=cx.pX x}) (id:=id) (n0:=n0) hD ⟨hc.2.1 x,hc.2⟩ hm hr
        exact⟨.normal,s',hk,(this 0).1,fun hok h0=>⟨((this 0).2 hok h0).1,fun n0=>(((this n0).2 hok h0).2).call⟩⟩
       rcases hc.2.2 _ _ _ _ h with h|h
       ·exact key true s1 h1 h
       ·exact key false s2 h2 h
      ·split at h
       ·rename_i T hT;obtain⟨s,⟨hq1,hq2⟩,hk⟩:=ir.JG (cx:=cx) (Q:=fun s'=>(s'.ok=true->st.ok=true)/\(s'.ok=true->dC st.tm->dC s'.tm/\∀n0,Tr cx n0 (.region id ops draw) st .normal s')) (fun a b r h=>hc.2.2 _ _ _ _ h) _ (JH (fun gs s' hr=>by
         have:=fun n0=>wG (cx:={cx with gs:=gs}) (id:=id) (n0:=n0) hD hc hm hr
         exact⟨(this 0).1,fun hok h0=>⟨((this 0).2 hok h0).1,fun n0=>(((this n0).2 hok h0).2).gs⟩⟩) (fun x gs s' hr=>by
         have:=fun n0=>wG (cx:={cx with call:=cx.alt x,mode:=cx.pX x,gs:=gs}) (id:=id) (n0:=n0) hD ⟨hc.2.1 x,hc.2⟩ hm hr
         exact⟨(this 0).1,fun hok h0=>⟨((this 0).2 hok h0).1,fun n0=>Tr.call (Tr.gs (cx:={cx with call:=cx.alt x,mode:=cx.pX x}) (((this n0).2 hok h0).2))⟩⟩) 4 [] T hT) h
        exact⟨.normal,s,hk,hq1,hq2⟩
       ·cases h
 |.seq a b,hl,R,st,k,r,h=>by
   simp only[gi]at h;obtain⟨e1,s1,h1,ok1,t1⟩:=oy hD hc hm a hl.1 st _ r h;cases e1 with
   |normal=>
    obtain⟨e2,s2,h2,ok2,t2⟩:=oy hD hc hm b hl.2 s1 k r h1;refine⟨e2,s2,h2,fun hk=>ok1 (ok2 hk),fun hk h0=>?_⟩;obtain⟨n1,q1⟩:=t1 (ok2 hk) h0;obtain⟨n2,q2⟩:=t2 hk n1;refine⟨n2,fun n0 ρ S a' w hn bM=>wp_seq (wp_mono (q1 n0 ρ S a' w hn bM) ?_)⟩
    rintro e a2 w2 ⟨rfl,hn1,ρ1,S1,fC,hst1⟩
    refine wp_mono (q2 n0 ρ1 S1 a2 w2 hn1 fC) ?_
    rintro e a3 w3 ⟨rfl,hn2,ρ2,S2,zf,hst2⟩
    exact⟨rfl,hn2,ρ2,S2,zf,hst1.trans hst2⟩
   |exit id=>
    refine⟨.exit id,s1,h1,ok1,fun hk h0=>⟨(t1 hk h0).1,fun n0 ρ S a' w hn bM=>wp_seq (wp_mono ((t1 hk h0).2 n0 ρ S a' w hn bM) ?_)⟩⟩
    rintro e a2 w2 ⟨rfl,q⟩
    exact⟨rfl,q⟩
   |ret=>
    refine⟨.ret,s1,h1,ok1,fun hk h0=>⟨(t1 hk h0).1,fun n0 ρ S a' w hn bM=>wp_seq (wp_mono ((t1 hk h0).2 n0 ρ S a' w hn bM) ?_)⟩⟩
    rintro e a2 w2 ⟨rfl,q⟩
    exact⟨rfl,q⟩
 |.cond c a b,hl,R,st,k,r,h=>by
   simp only[gi]at h;split at h
   ·rename_i t ht;have hev:∀{ρ S a' w},Sat cx ρ S a' w st->a'.eval c=.bool t:=fun{ρ S a' w} bM=>by
     have:=CZ bM.slots (gs:=[]) (fun p hp=>by simp at hp) c;rw[ht]at this;generalize a'.eval c=y at this;cases this;rfl
    split at h
    ·rename_i hs;simp only[cG]at hs;split at h
     ·rename_i sa sb ha hb;obtain⟨s1,g1,q1⟩:=wH a hs.1 st _ sa ha;obtain⟨s2,g2,q2⟩:=wH b hs.2 st _ sb hb;simp only[wC,av]at g1 g2;subst g1;subst g2;obtain⟨e1,s1',c1,ok1,t1⟩:=oy hD hc hm a hl.1 st _ s1 ha;obtain⟨e2,s2',c2,ok2,t2⟩:=oy hD hc hm b hl.2 st _ s2 hb;cases e1<;>simp only[wC,av]at c1<;>try cases c1
      cases e2<;>simp only[wC,av]at c2<;>try cases c2
      have hks:∀{x y:Bool},((x|| !t)&&(y||t))=true->(t=true->x=true)/\(t=false->y=true):=fun{x y} hk=>by
       cases t<;>simpa using hk
      refine⟨.normal,_,h,fun hk=>?_,fun hk h0=>⟨aeM h0,fun n0 ρ S a' w hn bM=>wp_cond (hev bM) ?_⟩⟩
      ·cases ht':t
       ·exact ok2 ((hks hk).2 ht')
       ·exact ok1 ((hks hk).1 ht')
      ·have fin:∀e' a' w',(e'=Ex.normal.ng/\n0<=(cond t s1 s2).H.length/\∃ρ' S',Sat cx ρ' S' a' w' (cond t s1 s2)/\Step cx.D n0 ρ S st.H w ρ' S' (cond t s1 s2).H w')->dC (cond t s1.tm s2.tm)->
        (e'=Ex.normal.ng/\n0<=st.H.length/\∃ρ' S',Sat cx ρ' S' a' w' ⟨jt t (writes a++writes b) 0 st.tm s1.tm s2.tm,st.H,(s1.ok|| !t)&&(s2.ok||t)⟩/\Step cx.D n0 ρ S st.H w ρ' S' st.H w'):=by
        rintro e' a2 w2 ⟨he,hn1,ρ1,S1,fC,hst1⟩ hno
        have hH:(cond t s1 s2).H=st.H:=by cases t;exact q2.H;exact q1.H
        rw[hH]at hn1 hst1;refine⟨he,hn1,ρ1,S1,⟨by have:=fC.heap;rw[hH]at this;exact this,?_,fC.defers⟩,hst1⟩;exact aeL hno q1.len q2.len (fun i hi=>q1.rest i fun h'=>hi (by simp[h'])) (fun i hi=>q2.rest i fun h'=>hi (by simp[h'])) (by have:=fC.slots;cases t<;>exact this)
       cases ht':t<;>rw[ht']at fin
       ·obtain⟨n2,r2⟩:=t2 ((hks hk).2 ht') h0;exact wp_mono (r2 n0 ρ S a' w hn bM) fun e' a2 w2 q=>fin e' a2 w2 q n2
       ·obtain⟨n1,r1⟩:=t1 ((hks hk).1 ht') h0;exact wp_mono (r1 n0 ρ S a' w hn bM) fun e' a2 w2 q=>fin e' a2 w2 q n1
     ·cases h
    ·cases t
     ·obtain⟨e,s,h1,ok1,t1⟩:=oy hD hc hm b hl.2 st k r h;exact⟨e,s,h1,ok1,fun hk h0=>⟨(t1 hk h0).1,fun n0 ρ S a' w hn bM=>wp_cond (hev bM) ((t1 hk h0).2 n0 ρ S a' w hn bM)⟩⟩
     ·obtain⟨e,s,h1,ok1,t1⟩:=oy hD hc hm a hl.1 st k r h;exact⟨e,s,h1,ok1,fun hk h0=>⟨(t1 hk h0).1,fun n0 ρ S a' w hn bM=>wp_cond (hev bM) ((t1 hk h0).2 n0 ρ S a' w hn bM)⟩⟩
   ·cases h
 |.block id c,hl,R,st,k,r,h=>by
   simp only[gi]at h;obtain⟨e1,s1,h1,ok1,t1⟩:=oy hD hc hm c hl st _ r h;cases e1 with
   |normal=>
    refine⟨.normal,s1,h1,ok1,fun hk h0=>⟨(t1 hk h0).1,fun n0 ρ S a' w hn bM=>wp_block (wp_mono ((t1 hk h0).2 n0 ρ S a' w hn bM) ?_)⟩⟩
    rintro e a2 w2 ⟨rfl,q⟩
    exact⟨rfl,q⟩
   |ret=>
    refine⟨.ret,s1,h1,ok1,fun hk h0=>⟨(t1 hk h0).1,fun n0 ρ S a' w hn bM=>wp_block (wp_mono ((t1 hk h0).2 n0 ρ S a' w hn bM) ?_)⟩⟩
    rintro e a2 w2 ⟨rfl,q⟩
    exact⟨rfl,q⟩
   |exit i=>
    dsimp only at h1;split at h1
    ·rename_i hid;refine⟨.normal,s1,h1,ok1,fun hk h0=>⟨(t1 hk h0).1,fun n0 ρ S a' w hn bM=>wp_block (wp_mono ((t1 hk h0).2 n0 ρ S a' w hn bM) ?_)⟩⟩
     rintro e a2 w2 ⟨rfl,q⟩
     subst hid;show(if i=i then _ else _)
     rw[aY rfl];exact⟨rfl,q⟩
    ·rename_i hid;refine⟨.exit i,s1,h1,ok1,fun hk h0=>⟨(t1 hk h0).1,fun n0 ρ S a' w hn bM=>wp_block (wp_mono ((t1 hk h0).2 n0 ρ S a' w hn bM) ?_)⟩⟩
     rintro e a2 w2 ⟨rfl,q⟩
     show(if i=id then _ else _)
     rw[aT hid];exact⟨rfl,q⟩
 |.loop c,hl,R,st,k,r,h=>by
   simp only[gi]at h;split at h
   ·rename_i L hL;split at h
    ·rename_i hn;split at h
     ·rename_i m vals Hi hin;obtain⟨e,vs,Ho,h1,htr⟩:=hl L hL vals Hi R _ r h;split at h1
      ·rename_i st' hout;refine⟨e,st',h1,?_,fun hk h0=>?_⟩
       ·unfold DF at hout;split at hout
        ·split at hout
         ·simp only[av]at hout;subst hout;exact id
         ·cases hout
        ·cases hout
       ·exact⟨(Pz (n0:=0) hD hn h0 hin hout htr).1,fun n0=>(Pz (n0:=n0) hD hn h0 hin hout htr).2⟩
      ·cases h1
     ·cases h
    ·cases h
   ·cases h
 |.scope ..,_,R,st,k,r,h=>by simp[gi]at h
 |.rangeFunc ..,_,R,st,k,r,h=>by simp[gi]at h
 |.goto ..,_,R,st,k,r,h=>by simp[gi]at h
 |.label ..,_,R,st,k,r,h=>by simp[gi]at h
 |.refuse ..,_,R,st,k,r,h=>by simp[gi]at h
end Go.V
