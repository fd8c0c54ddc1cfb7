/-
  CODE: what 'execC' yields is what the machine does.
-/
import Derived.Test.YtalddlopgnfpaaaGreatDoorXWperm
set_option linter.unusedVariables false
namespace Go.V
open Go
variable {K :cE}{ρ ρ':List Value}{S S':Nat->Prop}{w w':World}{H H':List (Ob K)}
def Tr(cx:Cx K)(n0:Nat)(c:Code)(st:St K)(e:Ex)(st':St K):Prop:=
 ∀(ρ:List Value)(S:Nat->Prop)(a:Act)(w:World),n0<=st.H.length->Sat cx ρ S a w st->
  c.wp cx.P (fun e' a' w'=>e'=e.nk/\n0<=st'.H.length/\∃ρ' S',Sat cx ρ' S' a' w' st'/\Step cx.D n0 ρ S st.H w ρ' S' st'.H w') a w
theorem Step.drew{D:bc K}{n0 n:Nat}{ρ ρ':List Value}{S S':Nat->Prop}{w w':World}{H H':List (Ob K)}(h:Step D n0 ρ S H {w with drawn:=n} ρ' S' H' w'):Step D n0 ρ S H w ρ' S' H' w':=
 have g:∀b,Own D {w with drawn:=n} ρ H b->Own D w ρ H b:=fun b h=>h.old fun _ _=>rfl
 ⟨h.os,h.tape,h.output,h.size,fun b hb hn=>h.old b hb fun hO=>hn (g b hO),fun b hb=>(h.own b hb).imp (g b) id,h.s1,fun b hb=>(h.s2 b hb).imp id (Or.imp (g b) id),h.pre⟩
theorem Sat.drawn{cx:Cx K}{a:Act}{st:St K}(h:Sat cx ρ S a w st)(n:Nat):Sat cx ρ S a {w with drawn:=n} st:=
 ⟨h.heap.world (bg _) (fun _ _=>rfl) (fun _ _=>rfl),ef.mono (w:=w) (w':={w with drawn:=n}) (fun _ h=>h) (fun _ _=>rfl) (fun _ _ h=>h) h.slots,h.defers⟩
theorem aah{cx:Cx K}{ops:List Oper}:∀(l:List Oper)(st st':St K)(wr wr':List Nat),kZ cx ops l st wr=some (st',wr')->k9 st.tm wr->k9 st'.tm wr'
 |[],st,st',wr,wr',h,ho=>by simp only[kZ,ar,aH]at h;obtain⟨rfl,rfl⟩:=h;exact ho
 |o::r,st,st',wr,wr',h,ho=>by
  simp only[kZ]at h;split at h
  ·rename_i st1 hZ h1;refine aah r st1 st' hZ wr' h ?_;unfold vO at h1;split at h1
   ·rename_i v H1 c hsv;obtain⟨-,-,p3⟩:=qT h1;rcases p3 with⟨e1,e2,e3⟩|⟨d,e1,e2,e3,e4,e5⟩
    ·rw[e2,e3];exact ho
    ·rw[e4,e5];exact ho.put (vU hsv)
   ·cases h1
  ·cases h
theorem anR{cx:Cx K}{op:Op}(h:iL cx op=true):nq cx op=true:=by
 unfold nq;split
 ·rfl
 ·simp only[iL]at h;simp[h]
 ·simp only[iL,aZ]at h;simp[h.1]
 ·exact h
theorem M3{cx:Cx K}{ops:List Oper}{π:List Nat}{st st':St K}(h:BK cx ops π st=some st'):BJ π ops.length=true/\pt cx (permuted π ops) st=some st':=by
 unfold BK at h;split at h
 ·rename_i hp;exact⟨hp,h⟩
 ·cases h
theorem aai{cx:Cx K}{ops:List Oper}{st st':St K}(h:MN cx ops st=some st'):pt cx ops st=some st'\/∃π,BJ π ops.length=true/\pt cx (permuted π ops) st=some st':=by
 unfold MN at h;split at h
 ·split at h
  ·rename_i r hr;simp only[ar]at h;subst h;exact .inl hr
  ·exact .inr ⟨_,M3 h⟩
 ·split at h
  ·rename_i r hr;simp only[ar]at h;subst h;exact .inr ⟨_,M3 hr⟩
  ·exact .inr ⟨_,M3 h⟩
theorem aaj{cx:Cx K}(hD:bk cx.D)(hc:aD cx){n0:Nat}{ops:Array Oper}{st st':St K}(h:pt cx ops.toList st=some st'):
 (st'.ok=true->st.ok=true)/\(st'.ok=true->cV st.tm->cV st'.tm/\∀(ρ:List Value)(S:Nat->Prop)(a:Act)(w:World),n0<=st.H.length->Sat cx ρ S a w st->
   wpAny cx.P .any ops (fun e' a' w'=>e'=Ex.normal.nk/\n0<=st'.H.length/\∃ρ' S',Sat cx ρ' S' a' w' st'/\Step cx.D n0 ρ S st.H w ρ' S' st'.H w') ops.size (Array.replicate ops.size false) a {w with drawn:=w.drawn+1}):=by
 unfold pt at h;split at h
 ·rename_i hsm;simp only[aZ]at hsm;split at h
  ·rename_i s1 wr hr;simp only[ar]at h;subst h;have hk:=MV _ _ _ _ _ _ hr;refine⟨fun hok=>(hk hok).1,fun hok h0=>?_⟩;obtain⟨vals,hd,hwr⟩:=anP hr hok;have hH:=(hk hok).2;have MZ:∀(i:Nat) o,ops.toList[i]?=some o->nq cx o.op=true:=fun i o ho=>
    eP.1 hsm.1 o (hQ ho)
   have lU:k9 s1.tm wr:=fun t g b v e=>by
    rcases zl ops.toList t with hn|⟨k,o,hk1,hk2⟩
    ·rw[hd.rest t hn]at e;exact absurd e (h0 t g b v)
    ·rw[hd.fin k o t hk1 hk2]at e;refine⟨(hwr t).2 ⟨k,o,hk1,hk2⟩,?_⟩;obtain⟨cF,du,H1,q1,q2,q3,q4,q5⟩:=hd.slot k o hk1;simp only[ar]at e;rw[e]at q1;obtain⟨k',o',-,c2,c3⟩:=q5 g (vU q1 g b v rfl);exact(hwr g).2 ⟨k',o',c2,c3⟩
   refine⟨cV.wipe lU,fun ρ S a w hn bf=>?_⟩;have qU:=bf.drawn (w.drawn+1);have hall:ops=ops.toList.toArray:=by simp
   have hmid:Mid cx ops.toList st.tm vals st.H ρ S (Array.replicate ops.size false) a {w with drawn:=w.drawn+1}:=by
    have hf:∀(k:Nat),(Array.replicate ops.size false)[k]?≠some true:=fun k e=>by
     rw[Ge]at e;split at e<;>simp at e
    refine⟨qU.heap,qU.defers,qU.slots.len.symm,by simp,fun t v x hn1 h1 h2=>?_,fun k o d x h1 h2=>absurd h2 (hf k),fun k g b y h1=>absurd h1 (hf k),fun k o h1 h2=>absurd h2 (hf k)⟩;have:=qU.slots.ok t v x h1 h2;cases v with
    |opt g b y=>exact absurd h1 (h0 t g b y)
    |_=>exact this
   rw[hH];have key:=anQ hD hc MZ hsm.2 hd h0 (n0:=n0) hn (Q:=fun e' a' w'=>e'=Ex.normal.nk/\n0<=st.H.length/\∃ρ' S',Sat cx ρ' S' a' w' ⟨ji s1.tm wr,st.H,s1.ok⟩/\Step cx.D n0 ρ S st.H w ρ' S' st.H w') ops.size (Array.replicate ops.size false) ρ S a {w with drawn:=w.drawn+1} hmid (aag _) fun ρ' S' a' w' g1 g2 g3 g4=>by
    exact⟨rfl,hn,ρ',S',⟨g1,g2.wipe _ _,g3⟩,g4.drew⟩
   rw[<-hall]at key;exact key
  ·cases h
 ·split at h
  ·rename_i M4;split at h
   ·rename_i s1 wr hr;simp only[ar]at h;subst h;refine⟨fun hok=>M5 _ _ _ _ _ _ _ _ hr hok,fun hok h0=>?_⟩;obtain⟨F,ms,ws,hp⟩:=anS hr hok;have lU:k9 s1.tm wr:=fun t g b v e=>by
     rcases zl ops.toList t with hn|⟨k,o,hk1,hk2⟩
     ·rw[hp.rest t fun k o _ h=>hn k o h]at e;exact absurd e (h0 t g b v)
     ·have mz:=(bo.1 hk1).1;rw[hp.fin k o t mz hk1 hk2]at e;refine⟨(hp.my t).2 ⟨k,o,mz,hk1,hk2⟩,?_⟩;obtain⟨cF,du,fs⟩:=hp.slot k o mz hk1;simp only[ar]at e;have q1:=fs.slot;rw[e]at q1;have hg:g∈du:=by
       unfold zi at q1;split at q1
       ·exact vU q1 g b v rfl
       ·split at q1
        ·exact vU q1 g b v rfl
        ·cases q1
      obtain⟨k',o',c1,c2,c3⟩:=fs.du g hg;exact(hp.my g).2 ⟨k',o',by omega,c2,c3⟩
    refine⟨cV.wipe lU,fun ρ S a w hn bf=>?_⟩;have qU:=bf.drawn (w.drawn+1);have hall:ops=ops.toList.toArray:=by simp
    have hmid:=jT.start hp qU.heap qU.defers qU.slots h0;have anT:=Step.pad (n:=s1.H.length) (n0:=n0) qU.heap hn;have key:=anU hD hc M4 hp (n0:=n0) hn (Q:=fun e' a' w'=>e'=Ex.normal.nk/\n0<=s1.H.length/\∃ρ' S',Sat cx ρ' S' a' w' ⟨ji s1.tm wr,s1.H,s1.ok⟩/\Step cx.D n0 ρ S st.H w ρ' S' s1.H w') ops.size (Array.replicate ops.toList.length false) _ _ S a {w with drawn:=w.drawn+1} hmid (by have:=aag ops.toList.length;simpa using this) fun ρ' S' a' w' g1 g2 g3 g4=>by
     have g5:=anT.trans g4;exact⟨rfl,eS hn hp.len0,ρ',S',⟨g1,g2.wipe _ _,g3⟩,g5.drew⟩
    rw[<-hall]at key;simpa using key
   ·cases h
  ·cases h
theorem BR{cx:Cx K}(hD:bk cx.D)(hc:aD cx)(hm:cx.P.follows .mixedOrders=true){n0:Nat}{id:Nat}{ops:Array Oper}{draw:Bool}{st st':St K}(h:jk cx ops.toList draw st=some st'):
 (st'.ok=true->st.ok=true)/\(st'.ok=true->cV st.tm->cV st'.tm/\Tr cx n0 (.region id ops draw) st .normal st'):=by
 unfold jk at h;split at h
 ·rename_i hdr;subst hdr;rcases aai h with h|⟨π,hp,h⟩
  ·obtain⟨h1,h2⟩:=aaj (n0:=n0) hD hc h;refine⟨h1,fun hok h0=>⟨(h2 hok h0).1,fun ρ S a w hn bf=>wp_region_any hm ((h2 hok h0).2 ρ S a w hn bf)⟩⟩
  ·have hp':=aak hp;have e:ops.toList.toArray=ops:=by simp
   rw[e]at hp';have h':pt cx ((permuted π ops.toList).toArray).toList st=some st':=h;obtain⟨h1,h2⟩:=aaj (n0:=n0) hD hc h';refine⟨h1,fun hok h0=>⟨(h2 hok h0).1,fun ρ S a w hn bf=>wp_region_any hm ?_⟩⟩;have:=(h2 hok h0).2 ρ S a w hn bf;rw[hp'.len']at this;exact anV hp' _ _ _ _ _ ⟨by simp,by simp,fun j i hj=>by
    obtain⟨o,ho,ho'⟩:=hp'.ops j i hj;have hi:=(iH.1 ho).1;have hj':=(iH.1 ho').1;rw[hp'.len']at hj';rw[Ge,Ge,av hi,av hj']⟩ this
 ·rename_i hdr;split at h
  ·rename_i s1 wr hr;simp only[ar]at h;subst h;refine⟨fun hok=>M6 _ _ _ _ _ hr hok,fun hok h0=>?_⟩;refine⟨cV.wipe (aah _ _ _ _ _ hr h0.in),fun ρ S a w hn bf=>?_⟩;have hdr':draw=false:=by simpa using hdr
   subst hdr';refine wp_region_list ?_;have key:=aal (n0:=n0) hD hc ops.toList st s1 [] wr ρ S a w hr hok bf h0.in hn (Q:=fun e' a' w'=>e'=Ex.normal.nk/\n0<=s1.H.length/\∃ρ' S',Sat cx ρ' S' a' w' ⟨ji s1.tm wr,s1.H,s1.ok⟩/\Step cx.D n0 ρ S st.H w ρ' S' s1.H w') fun ρ' S' a' w' g1 g2 g3=>
    ⟨rfl,g3.grow bf.heap g1.heap hn,ρ',S',⟨g1.heap,g1.slots.wipe _ _,g1.defers⟩,g3⟩
   exact key
  ·cases h
theorem M7:∀(wr:List Nat)(tm:List (AV K))(t:Nat),t∉wr->(ji tm wr)[t]?=tm[t]?
 |[],tm,t,h=>rfl
 |d::r,tm,t,h=>by
  simp only[dY,qD]at h;simp only[ji];split
  ·rw[M7 r _ t h.2,List.getElem?_set_ne (pj h.1)]
  ·exact M7 r tm t h.2
theorem M8:∀(wr:List Nat)(tm:List (AV K)),(ji tm wr).length=tm.length
 |[],tm=>rfl
 |d::r,tm=>by
  simp only[ji];split
  ·rw[M8 r];simp
  ·exact M8 r tm
theorem anW{q:Bool}{cx:Cx K}{ops:List Oper}{tm:List (AV K)}{wr:List Nat}{o:Oper}{v:AV K}{c:Bool}(hs:iL cx o.op=true)(h:iz q cx ops tm H wr o=some (v,H',c)):H'=H:=by
 unfold iz at h;split at h
 ·cases h
 ·split at h
  ·rename_i hy;split at h
   ·cases h
   ·simp only[ar,aH]at h;obtain⟨-,rfl,-⟩:=h;exact aam hs hy
  ·cases h
 ·split at h
  ·split at h
   ·split at h
    ·split at h
     ·rename_i hy;split at h
      ·cases h
      ·simp only[ar,aH]at h;obtain⟨-,rfl,-⟩:=h;exact aam hs hy
     ·cases h
    ·simp only[ar,aH]at h;exact h.2.1.symm
   ·cases h
  split at h
  ·cases h
  ·split at h
   ·split at h
    ·simp only[ar,aH]at h;exact h.2.1.symm
    ·cases h
   ·cases h
structure Quiet (st st':St K) (wr:List Nat):Prop where
 H:st'.H=st.H
 len:st'.tm.length=st.tm.length
 rest:∀t,t∉wr->st'.tm[t]?=st.tm[t]?
theorem aan{st st':St K}{wr wr' ds:List Nat}{dst:Option Nat}{v:AV K}{ok:Bool}(h:vN st wr dst v st.H ok=some (st',wr'))(hd:∀d,dst=some d->d∈ds)(hw:∀d∈wr,d∈ds):Quiet st st' ds/\∀d∈wr',d∈ds:=by
 obtain⟨p1,p2,p3⟩:=qT h;rcases p3 with⟨e1,e2,e3⟩|⟨d,e1,e2,e3,e4,e5⟩
 ·exact⟨⟨p1,by rw[e2],fun t _=>by rw[e2]⟩,by rw[e3];exact hw⟩
 ·refine⟨⟨p1,by rw[e4];simp,fun t ht=>?_⟩,fun d' hd'=>?_⟩
  ·rw[e4,List.getElem?_set_ne fun e=>ht (by rw[<-e];exact hd d e1)]
  ·rw[e5]at hd';rcases dY.1 hd' with rfl|h'
   ·exact hd _ e1
   ·exact hw _ h'
theorem Quiet.trans{st st1 st2:St K}{wr:List Nat}(a:Quiet st st1 wr)(b:Quiet st1 st2 wr):Quiet st st2 wr:=
 ⟨b.H.trans a.H,b.len.trans a.len,fun t ht=>(b.rest t ht).trans (a.rest t ht)⟩
theorem Quiet.more{st st1:St K}{wr wr':List Nat}(a:Quiet st st1 wr)(h:∀d∈wr,d∈wr'):Quiet st st1 wr':=⟨a.H,a.len,fun t ht=>a.rest t fun h'=>ht (h t h')⟩
theorem aao{cx:Cx K}{ops:List Oper}{ds:List Nat}:∀(l:List Oper)(st st':St K)(wr wr':List Nat),kZ cx ops l st wr=some (st',wr')->(∀o∈l,iL cx o.op=true)->(∀o∈l,∀d,o.dst=some d->d∈ds)->(∀d∈wr,d∈ds)->Quiet st st' ds/\∀d∈wr',d∈ds
 |[],st,st',wr,wr',h,_,_,hw=>by simp only[kZ,ar,aH]at h;obtain⟨rfl,rfl⟩:=h;exact⟨⟨rfl,rfl,fun _ _=>rfl⟩,hw⟩
 |o::r,st,st',wr,wr',h,hs,hd,hw=>by
  simp only[kZ]at h;split at h
  ·rename_i st1 hZ h1;unfold vO at h1;split at h1
   ·rename_i v H1 c hsv;have hH:=anW (hs o (by simp)) hsv;subst hH;obtain⟨q1,q2⟩:=aan h1 (fun d e=>hd o (by simp) d e) hw;obtain⟨q3,q4⟩:=aao r st1 st' hZ wr' h (fun o ho=>hs o (by simp[ho])) (fun o ho=>hd o (by simp[ho])) q2;exact⟨q1.trans q3,q4⟩
   ·cases h1
  ·cases h
theorem aap{cx:Cx K}{L:List Oper}{bs ds:List Nat}:∀(l:List Oper)(i:Nat)(st st':St K)(wr wr':List Nat),mr cx L bs l i st wr=some (st',wr')->(∀o∈l,∀d,o.dst=some d->d∈ds)->(∀d∈wr,d∈ds)->Quiet st st' ds/\∀d∈wr',d∈ds
 |[],i,st,st',wr,wr',h,_,hw=>by simp only[mr,ar,aH]at h;obtain⟨rfl,rfl⟩:=h;exact⟨⟨rfl,rfl,fun _ _=>rfl⟩,hw⟩
 |o::r,i,st,st',wr,wr',h,hd,hw=>by
  simp only[mr]at h;split at h
  ·split at h
   ·rename_i st1 hZ h1;obtain⟨q1,q2⟩:=aan h1 (fun d e=>hd o (by simp) d e) hw;obtain⟨q3,q4⟩:=aap r _ st1 st' hZ wr' h (fun o ho=>hd o (by simp[ho])) q2;exact⟨q1.trans q3,q4⟩
   ·cases h
  ·cases h
theorem Quiet.wipe{st st1:St K}{wr ds:List Nat}(a:Quiet st st1 ds)(h:∀d∈wr,d∈ds):Quiet st ⟨ji st1.tm wr,st1.H,st1.ok⟩ ds:=
 ⟨a.H,by simp[M8,a.len],fun t ht=>by dsimp only;rw[M7 wr _ t fun h'=>ht (h t h')];exact a.rest t ht⟩
theorem Gp{cx:Cx K}{ops:List Oper}{draw:Bool}{st:St K}{b:Bool}{s1 s2:St K}:∀(l:List Nat),BL cx ops draw st l=some (b,s1,s2)->
 ∃t,jk {cx with gs:=[(t,true)]} ops draw st=some s1/\jk {cx with gs:=[(t,false)]} ops draw st=some s2
 |[],h=>by cases h
 |t::r,h=>by
  unfold BL at h;split at h
  ·rename_i a1 a2 h1 h2;split at h
   ·simp only[ar,aH]at h;obtain⟨-,rfl,rfl⟩:=h;exact⟨t,h1,h2⟩
   ·exact Gp r h
  ·exact Gp r h
theorem Sat.gs{cx:Cx K}{g:List (Nat×Bool)}{a:Act}{st:St K}(h:Sat cx ρ S a w st):Sat {cx with gs:=g} ρ S a w st:=⟨h.heap,h.slots,h.defers⟩
theorem Sat.anX{cx:Cx K}{g:List (Nat×Bool)}{a:Act}{st:St K}(h:Sat {cx with gs:=g} ρ S a w st):Sat cx ρ S a w st:=⟨h.heap,h.slots,h.defers⟩
theorem Tr.gs{cx:Cx K}{g:List (Nat×Bool)}{n0:Nat}{c:Code}{st st':St K}{e:Ex}(h:Tr {cx with gs:=g} n0 c st e st'):Tr cx n0 c st e st':=fun ρ S a w hn hs=>
 wp_mono (h ρ S a w hn hs.gs) fun e' a' w' ⟨h1,h2,ρ',S',h3,h4⟩=>⟨h1,h2,ρ',S',h3.anX,h4⟩
def mw.All(Q:St K->Prop):mw K->Prop
 |.no=>True
 |.leaf s=>Q s
 |.node _ x y=>x.All Q/\y.All Q
 |.two x y=>Q x/\Q y
theorem mw.M9{cx:Cx K}{Q:St K->Prop}(hor:∀{R:Type}(a b:Option R)(r:R),cx.yM a b=some r->a=some r\/b=some r):∀(T:mw K),T.All Q->∀{R:Type}{k:St K->Option R}{r:R},T.go cx k=some r->∃s,Q s/\k s=some r
 |.no,_,R,k,r,h=>by cases h
 |.leaf s,hq,R,k,r,h=>⟨s,hq,h⟩
 |.node b x y,hq,R,k,r,h=>by
   cases b with
   |true=>exact mw.M9 hor x hq.1 h
   |false=>exact mw.M9 hor y hq.2 h
 |.two x y,hq,R,k,r,h=>by
   rcases hor _ _ _ h with h|h
   ·exact⟨x,hq.1,h⟩
   ·exact⟨y,hq.2,h⟩
theorem Na{cx:Cx K}{ops:List Oper}{draw:Bool}{st:St K}{Q:St K->Prop}(h0:∀gs s,jk {cx with gs:=gs} ops draw st=some s->Q s)
 (h1:∀x gs s,jk {cx with call:=cx.alt x,mode:=cx.qP x,gs:=gs} ops draw st=some s->Q s):∀(n:Nat)(gs:List (Nat×Bool))(T:mw K),BM cx ops draw st n gs=some T->T.All Q
 |0,gs,T,h=>by cases h
 |n+1,gs,T,h=>by
  unfold BM at h;split at h
  ·rename_i s hs;cases h;exact h0 gs s hs
  ·split at h
   ·rename_i s1 s2 e1 e2;cases h;exact⟨h1 true gs s1 e1,h1 false gs s2 e2⟩
   ·split at h
    ·split at h
     ·rename_i x y ex ey;cases h;exact⟨Na h0 h1 n _ x ex,Na h0 h1 n _ y ey⟩
     ·cases h
    ·split at h
     ·cases h;trivial
     ·cases h
theorem Sat.call{cx:Cx K}{g:FuncId->List (AV K)->List (Ob K)->Option (AV K×List (Ob K)×Bool)}{m:FuncId->Mode}{a:Act}{st:St K}(h:Sat cx ρ S a w st):Sat {cx with call:=g,mode:=m} ρ S a w st:=⟨h.heap,h.slots,h.defers⟩
theorem Sat.anY{cx:Cx K}{g:FuncId->List (AV K)->List (Ob K)->Option (AV K×List (Ob K)×Bool)}{m:FuncId->Mode}{a:Act}{st:St K}(h:Sat {cx with call:=g,mode:=m} ρ S a w st):Sat cx ρ S a w st:=⟨h.heap,h.slots,h.defers⟩
theorem Tr.call{cx:Cx K}{g:FuncId->List (AV K)->List (Ob K)->Option (AV K×List (Ob K)×Bool)}{m:FuncId->Mode}{n0:Nat}{c:Code}{st st':St K}{e:Ex}(h:Tr {cx with call:=g,mode:=m} n0 c st e st'):Tr cx n0 c st e st':=fun ρ S a w hn hs=>
 wp_mono (h ρ S a w hn hs.call) fun e' a' w' ⟨h1,h2,ρ',S',h3,h4⟩=>⟨h1,h2,ρ',S',h3.anY,h4⟩
theorem aaq{cx:Cx K}{g:List (Nat×Bool)}:∀(o:Op),iL {cx with gs:=g} o=iL cx o:=fun o=>by
 unfold iL;rfl
theorem Nb{cx:Cx K}{id:Nat}{ops:Array Oper}{draw:Bool}{st st':St K}(hs:∀o∈ops.toList,iL cx o.op=true)(hr:jk cx ops.toList draw st=some st'):Quiet st st' (writes (.region id ops draw)):=by
 have hd:∀o∈ops.toList,∀d,o.dst=some d->d∈writes (.region id ops draw):=fun o ho d hd=>by
  simp only[writes,List.mem_filterMap];exact⟨o,ho,hd⟩
 have dq:∀(L:List Oper),(∀o∈L,iL cx o.op=true)->(∀o∈L,∀d,o.dst=some d->d∈writes (.region id ops draw))->pt cx L st=some st'->Quiet st st' (writes (.region id ops draw)):=fun L hs hd hr=>by
  unfold pt at hr;split at hr
  ·split at hr
   ·rename_i s1 wr h1;simp only[ar]at hr;subst hr;obtain⟨q1,q2⟩:=aap _ _ _ _ _ _ h1 hd (by simp);exact q1.wipe q2
   ·cases hr
  ·rename_i hnq;split at hr
   ·rename_i M4;exact absurd (by rw[aZ];exact⟨eP.2 fun o ho=>anR (hs o ho),M4⟩) hnq
   ·cases hr
 unfold jk at hr;split at hr
 ·rcases aai hr with hr|⟨π,hp,hr⟩
  ·exact dq _ hs hd hr
  ·have hp':=aak hp;have src:∀o∈permuted π ops.toList,∃o1∈ops.toList,o=vP π ops.toList.length o1:=fun o ho=>by
    obtain⟨j,hj,e⟩:=oQ ho;have hjn:j<π.length:=by simpa [permuted]using hj
    obtain⟨o1,h1,h2⟩:=hp'.ops j _ (bZ hjn);have h3:(permuted π ops.toList)[j]?=some o:=by rw[bZ hj,e]
    have h4:=h3.symm.trans (by simpa using h2);exact⟨o1,hQ (by simpa using h1),by simpa using ft h4⟩
   refine dq _ (fun o ho=>?_) (fun o ho d hod=>?_) hr
   ·obtain⟨o1,h1,rfl⟩:=src o ho;exact hs o1 h1
   ·obtain⟨o1,h1,rfl⟩:=src o ho;exact hd o1 h1 d hod
 ·split at hr
  ·rename_i s1 wr h1;simp only[ar]at hr;subst hr;obtain⟨q1,q2⟩:=aao _ _ _ _ _ h1 hs hd (by simp);exact q1.wipe q2
  ·cases hr
theorem zn{cx:Cx K}:∀(c:Code),simple cx c=true->∀{R:Type}(st:St K)(k:Ex->St K->Option R)(r:R),fD cx c st k=some r->∃st',k .normal st'=some r/\Quiet st st' (writes c)
 |.skip,_,R,st,k,r,h=>⟨st,h,rfl,rfl,fun _ _=>rfl⟩
 |.region id ops draw,hs,R,st,k,r,h=>by
   simp only[fD]at h;have hs':∀o∈ops.toList,iL cx o.op=true:=by simpa only[simple,eP]using hs
   split at h
   ·rename_i st' hr;exact⟨st',h,Nb hs' hr⟩
   ·split at h
    ·rename_i b s1 s2 hsp;obtain⟨t,h1,h2⟩:=Gp _ hsp;cases b with
     |true=>exact⟨s1,h,Nb (cx:={cx with gs:=[(t,true)]}) (fun o ho=>by rw[aaq];exact hs' o ho) h1⟩
     |false=>exact⟨s2,h,Nb (cx:={cx with gs:=[(t,false)]}) (fun o ho=>by rw[aaq];exact hs' o ho) h2⟩
    ·rw[av (eP.2 hs')]at h;cases h
 |.seq a b,hs,R,st,k,r,h=>by
   simp only[simple,aZ]at hs;simp only[fD]at h;obtain⟨s1,h1,q1⟩:=zn a hs.1 st _ r h;obtain⟨s2,h2,q2⟩:=zn b hs.2 s1 k r h1;exact⟨s2,h2,(q1.more fun d hd=>by simp[writes,hd]).trans (q2.more fun d hd=>by simp[writes,hd])⟩
 |.cond c a b,hs,R,st,k,r,h=>by
   have hs':=hs;simp only[simple,aZ]at hs;simp only[fD]at h;split at h
   ·rename_i t ht;rw[av (by simp[hs.1,hs.2])]at h;split at h
    ·rename_i sa sb ha hb;refine⟨_,h,?_⟩;obtain⟨s1,g1,q1⟩:=zn a hs.1 st _ sa ha;obtain⟨s2,g2,q2⟩:=zn b hs.2 st _ sb hb;simp only[zk,ar]at g1 g2;subst g1;subst g2;have hlen:∀(wr:List Nat)(l s t':List (AV K))(n:Nat),s.length=l.length->t'.length=l.length->(jl t wr n l s t').length=l.length:=fun wr l=>by
      induction l with
      |nil=>intro s t' n h1 h2;simp at h1 h2;subst h1;subst h2;rfl
      |cons x l ih=>
       intro s t' n h1 h2;cases s with
       |nil=>simp at h1
       |cons y s=>
        cases t' with
        |nil=>simp at h2
        |cons z t'=>
         simp only[jl,bX];rw[ih s t' (n+1) (by simpa using h1) (by simpa using h2)]
     have hget:∀(wr:List Nat)(l s t':List (AV K))(n i:Nat),s.length=l.length->t'.length=l.length->n+i∉wr->(jl t wr n l s t')[i]?=l[i]?:=fun wr l=>by
      induction l with
      |nil=>intro s t' n i h1 h2 _;simp at h1 h2;subst h1;subst h2;rfl
      |cons x l ih=>
       intro s t' n i h1 h2 hni;cases s with
       |nil=>simp at h1
       |cons y s=>
        cases t' with
        |nil=>simp at h2
        |cons z t'=>
         simp only[jl];cases i with
         |zero=>simp only[Nat.add_zero]at hni;simp[hni]
         |succ i=>
          simp only[List.getElem?_cons_succ];exact ih s t' (n+1) i (by simpa using h1) (by simpa using h2) (by rw[gX,u6 1 i];exact hni)
     refine⟨rfl,hlen _ _ _ _ _ q1.len q2.len,fun i hi=>?_⟩;exact hget _ _ _ _ 0 i q1.len q2.len (by rw[dD];simpa [writes]using hi)
    ·cases h
   ·cases h
 |.block ..,hs,R,st,k,r,h=>by simp[simple]at hs
 |.loop ..,hs,R,st,k,r,h=>by simp[simple]at hs
 |.exit ..,hs,R,st,k,r,h=>by simp[simple]at hs
 |.ret,hs,R,st,k,r,h=>by simp[simple]at hs
 |.scope ..,hs,R,st,k,r,h=>by simp[simple]at hs
 |.rangeFunc ..,hs,R,st,k,r,h=>by simp[simple]at hs
 |.goto ..,hs,R,st,k,r,h=>by simp[simple]at hs
 |.label ..,hs,R,st,k,r,h=>by simp[simple]at hs
end Go.V
namespace Go.V
open Go
variable {K :cE}{ρ ρ':List Value}{S S':Nat->Prop}{w w':World}{H H':List (Ob K)}
def bC(cx:Cx K)(c:Code)(L:bA K):Prop:=
 ∀(vals:List (AV K))(Hi:List (Ob K))(R:Type)(k:Ex->List (AV K)->List (Ob K)->Option R)(r:R),L.run vals Hi k=some r->
  ∃e vs Ho,k e vs Ho=some r/\Tr cx Hi.length (.loop c) ⟨dI (List.replicate L.n .any) L.ins vals,Hi,true⟩ e ⟨dI (List.replicate L.n .any) L.outs vs,Ho,true⟩
def jy(cx:Cx K):Code->Prop
 |.loop c=>∀L,cx.loop (keyOf c)=some L->bC cx c L
 |.seq a b=>jy cx a/\jy cx b
 |.cond _ a b=>jy cx a/\jy cx b
 |.block _ c=>jy cx c
 |_=>True
theorem anZ:∀(b:Bool)(x y:AV K),(merge b x y).jh=false:=by
 intro b x y;cases x<;>cases y<;>simp only[merge]<;>(try split)<;>rfl
theorem Nc{t:Bool}{wr:List Nat}:∀(l s s':List (AV K))(n i:Nat)(v:AV K),(jl t wr n l s s')[i]?=some v->
 (n+i∉wr/\l[i]?=some v)\/∃x y,s[i]?=some x/\s'[i]?=some y/\v=merge t x y
 |[],s,s',n,i,v,h=>by simp[jl]at h
 |x::l,[],s',n,i,v,h=>by simp[jl]at h
 |x::l,y::s,[],n,i,v,h=>by simp[jl]at h
 |x::l,y::s,z::s',n,0,v,h=>by
  simp only[jl,List.getElem?_cons_zero,ar]at h;subst h;by_cases hc:n∈wr
  ·exact .inr ⟨y,z,rfl,rfl,by simp[hc]⟩
  ·exact .inl ⟨hc,by simp[hc]⟩
 |x::l,y::s,z::s',n,i+1,v,h=>by
  simp only[jl,List.getElem?_cons_succ]at h;rcases Nc l s s' (n+1) i v h with⟨h1,h2⟩|⟨a,b,h1,h2,h3⟩
  ·exact .inl ⟨by rw[u6 i 1,<-gX];exact h1,by simpa using h2⟩
  ·exact .inr ⟨a,b,by simpa using h1,by simpa using h2,h3⟩
theorem aar{t:Bool}{wr:List Nat}:∀(l s s':List (AV K))(n:Nat),s.length=l.length->s'.length=l.length->(jl t wr n l s s').length=l.length
 |[],s,s',n,h1,h2=>by cases s<;>cases s'<;>simp[jl]
 |x::l,[],s',n,h1,h2=>by simp at h1
 |x::l,y::s,[],n,h1,h2=>by simp at h2
 |x::l,y::s,z::s',n,h1,h2=>by
  simp only[jl,bX];rw[aar l s s' (n+1) (by simpa using h1) (by simpa using h2)]
theorem ef.rep{D:bc K}{tm:List (AV K)}{tmps:Array Value}(h:ef D ρ S w tm tmps)(h0:cV tm){t:Nat}{v:AV K}{x:Value}(hv:tm[t]?=some v)(hx:tmps[t]?=some x):Rep D ρ S w v x:=by
 have:=h.ok t v x hv hx;cases v with
 |opt g b y=>exact absurd hv (h0 t g b y)
 |_=>exact this
theorem an0{D:bc K}{t:Bool}{wr:List Nat}{l sa sb:List (AV K)}{tmps:Array Value}(hab:cV (cond t sa sb))(la:sa.length=l.length)(lb:sb.length=l.length)(ra:∀t,t∉wr->sa[t]?=l[t]?)(rb:∀t,t∉wr->sb[t]?=l[t]?)
 (h:ef D ρ S w (cond t sa sb) tmps):ef D ρ S w (jl t wr 0 l sa sb) tmps:=by
 refine⟨by rw[aar _ _ _ _ la lb,<-h.len];cases t<;>simp[la,lb],fun i v x hv hx=>?_⟩;rcases Nc l sa sb 0 i v hv with⟨h1,h2⟩|⟨a,b,h1,h2,rfl⟩
 ·rw[dD]at h1;refine .jO ?_;cases t
  ·exact h.rep hab (by rw[aT,rb i h1];exact h2) hx
  ·exact h.rep hab (by rw[aA,ra i h1];exact h2) hx
 ·refine .jO (Zp (fun e=>?_) fun e=>?_)
  ·subst e;exact h.rep hab h1 hx
  ·subst e;exact h.rep hab h2 hx
theorem an1{t:Bool}{wr:List Nat}{l sa sb:List (AV K)}(h0:cV l):cV (jl t wr 0 l sa sb):=fun i g b v e=>by
 rcases Nc l sa sb 0 i _ e with⟨-,h2⟩|⟨x,y,-,-,h3⟩
 ·exact h0 i g b v h2
 ·have:=anZ t x y;rw[<-h3]at this;simp[AV.jh]at this
theorem vV:∀(ds:List Nat)(vs tm:List (AV K)),(dI tm ds vs).length=tm.length
 |[],vs,tm=>by simp[dI]
 |d::r,[],tm=>by simp[dI]
 |d::r,v::vs,tm=>by simp only[dI];rw[vV r vs];simp
theorem zo:∀(ds:List Nat)(vs tm:List (AV K))(t:Nat)(v:AV K),(dI tm ds vs)[t]?=some v->tm[t]?=some v\/∃i:Nat,ds[i]?=some t/\vs[i]?=some v
 |[],vs,tm,t,v,h=>.inl (by simpa [dI]using h)
 |d::r,[],tm,t,v,h=>.inl (by simpa [dI]using h)
 |d::r,x::vs,tm,t,v,h=>by
  simp only[dI]at h;rcases zo r vs _ t v h with h1|⟨i,h1,h2⟩
  ·rcases dV h1 with⟨rfl,rfl,-⟩|⟨-,h1⟩
   ·exact .inr ⟨0,rfl,rfl⟩
   ·exact .inl h1
  ·exact .inr ⟨i+1,by simpa using h1,by simpa using h2⟩
theorem aas{p:AV K->AV K->Prop}:∀(ds:List Nat)(vs vs' tm tm':List (AV K)),vs.length=vs'.length->tm.length=tm'.length->(∀(i:Nat) v v',vs[i]?=some v->vs'[i]?=some v'->p v v')->(∀(t:Nat) v v',tm[t]?=some v->tm'[t]?=some v'->p v v')->
 ∀(t:Nat) v v',(dI tm ds vs)[t]?=some v->(dI tm' ds vs')[t]?=some v'->p v v'
 |[],vs,vs',tm,tm',h1,h2,h3,h4,t,v,v',g1,g2=>h4 t v v' (by simpa [dI]using g1) (by simpa [dI]using g2)
 |d::r,[],[],tm,tm',h1,h2,h3,h4,t,v,v',g1,g2=>h4 t v v' (by simpa [dI]using g1) (by simpa [dI]using g2)
 |d::r,[],_::_,tm,tm',h1,h2,h3,h4,t,v,v',g1,g2=>by simp at h1
 |d::r,_::_,[],tm,tm',h1,h2,h3,h4,t,v,v',g1,g2=>by simp at h1
 |d::r,x::vs,x'::vs',tm,tm',h1,h2,h3,h4,t,v,v',g1,g2=>by
  simp only[dI]at g1 g2;refine aas r vs vs' _ _ (by simpa using h1) (by simpa using h2) (fun i a b ha hb=>h3 (i+1) a b (by simpa using ha) (by simpa using hb)) (fun k a b ha hb=>?_) t v v' g1 g2;rcases dV ha with⟨rfl,rfl,-⟩|⟨hne,ha⟩
  ·rcases dV hb with⟨-,rfl,-⟩|⟨hne,-⟩
   ·exact h3 0 _ _ rfl rfl
   ·exact absurd rfl hne
  ·rcases dV hb with⟨rfl,-⟩|⟨-,hb⟩
   ·exact absurd rfl hne
   ·exact h4 k a b ha hb
theorem vW{f:Nat->Option Nat}:∀(l l':List (AV K)),jf f l=some l'->l'.length=l.length/\∀(i:Nat) v',l'[i]?=some v'->∃v,l[i]?=some v/\eH f v=some v'
 |[],l',h=>by simp[jf]at h;subst h;simp
 |x::l,l',h=>by
  simp only[jf]at h;split at h
  ·rename_i y m h1 h2;simp only[ar]at h;subst h;obtain⟨g1,g2⟩:=vW l m h2;refine⟨by simp[g1],fun i v' hi=>?_⟩;cases i with
   |zero=>simp at hi;subst hi;exact⟨x,rfl,h1⟩
   |succ i=>simp at hi;obtain⟨v,q1,q2⟩:=g2 i v' hi;exact⟨v,by simpa using q1,q2⟩
  ·cases h
theorem an2{f:Nat->Option Nat}{v v':AV K}(h:eH f v=some v'):v'.jh=false:=by
 cases v<;>simp only[eH,dS,ar]at h<;>first
  |(subst h;rfl)
  |(obtain⟨a,-,rfl⟩:=h;rfl)
  |cases h
theorem aat{n:Nat}{ds:List Nat}{l l':List (AV K)}{f:Nat->Option Nat}(h:jf f l=some l'):cV (dI (List.replicate n .any) ds l'):=fun t g b v e=>by
 rcases zo ds l' _ t _ e with h1|⟨i,-,h2⟩
 ·rw[il]at h1;split at h1<;>cases h1
 ·obtain⟨v0,-,q⟩:=(vW l l' h).2 i _ h2;have:=an2 q;simp[AV.jh]at this
theorem Nh{D:bc K}{n:Nat}{ds:List Nat}{vs:List (AV K)}{tmps:Array Value}(hn:tmps.size=n)(h:∀(i t:Nat) v x,ds[i]?=some t->vs[i]?=some v->tmps[t]?=some x->Rep D ρ S w v x):ef D ρ S w (dI (List.replicate n .any) ds vs) tmps:=
 ⟨by rw[vV];simp[hn],fun t v x hv hx=>.jO (by
   rcases zo ds vs _ t v hv with h1|⟨i,h1,h2⟩
   ·rw[il]at h1;split at h1
    ·simp at h1;subst h1;exact .any x
    ·cases h1
   ·exact h i t v x h1 h2 hx)⟩
theorem aau{cx:Cx K}(hD:bk cx.D){c:Code}{L:bA K}{n0:Nat}{st st':St K}{m:List Nat}{vals vs:List (AV K)}{Hi Ho:List (Ob K)}{e:Ex}(hn:st.tm.length=L.n)(h0:cV st.tm)
 (hin:inLoop st.H (L.ins.map fun t=>st.tm.getD t .any)=some (m,vals,Hi)) (hout:Gj L m st vs Ho=some st')
 (htr:Tr cx Hi.length (.loop c) ⟨dI (List.replicate L.n .any) L.ins vals,Hi,true⟩ e ⟨dI (List.replicate L.n .any) L.outs vs,Ho,true⟩):cV st'.tm/\Tr cx n0 (.loop c) st e st':=by
 unfold inLoop at hin;split at hin
 ·rename_i hp;split at hin
  ·rename_i ku Hi' hv hH;simp only[ar,aH]at hin;obtain⟨rfl,rfl,rfl⟩:=hin;unfold Gj at hout;split at hout
   ·rename_i vs' gP hvs LK;split at hout
    ·rename_i hle;simp only[ar]at hout;subst hout;refine⟨aat hvs,fun ρ S a w hn0 bf=>?_⟩;obtain⟨s1,s2,s3,s4⟩:=Zt hD bf.heap hp hH;have hrs:=LG (ρ:=ρ) (m:=reach st.H 64 (bp (L.ins.map fun t=>st.tm.getD t .any)) []) (fun i h hi=>by rw[bf.heap.len];exact(Bm _ hp).1 i h hi);have hsize:a.tmps.size=L.n:=by rw[<-hn,bf.slots.len]
     have eD:Sat cx (tc ρ (reach st.H 64 (bp (L.ins.map fun t=>st.tm.getD t .any)) [])) S a w ⟨dI (List.replicate L.n .any) L.ins ku,Hi',true⟩:=⟨s1,Nh hsize fun i t v x g1 g2 g3=>by
      obtain⟨v0,q1,q2⟩:=(vW _ _ hv).2 i v g2;simp only[gq,g1,lG,ar]at q1;subst q1;refine s9 hD s4 _ v x q2 ?_;rw[g9];cases hg:st.tm[t]? with
      |none=>exact .any x
      |some v1=>exact bf.slots.rep h0 hg g3,bf.defers⟩
     refine wp_mono (htr _ S a w (bg _) eD) fun e' a' w'=>?_
     rintro ⟨he,an4,ρo,So,hso,hst⟩
     obtain⟨j1,j2,j3⟩:=join hD bf.heap hp hrs s2 s3 s1 hso.heap hst an4 LK;refine⟨he,?_,_,So,⟨j1,?_,hso.defers⟩,j2.weaken hn0⟩
     ·have:=j2.grow bf.heap j1 (bg _);dsimp only at this⊢;omega
     ·refine⟨by rw[vV];have:=hso.slots.len;rw[vV]at this;exact this,fun t v x hv' hx=>?_⟩;have hlt:t<(dI (List.replicate L.n .any) L.outs vs).length:=by
       have:=(bo.1 hv').1;rw[vV]at this⊢;exact this
      have hg:=bZ hlt;have hrep:dP cx.D ρo So w' a'.tmps _ x:=hso.slots.ok t _ x hg hx;have hrel:=aas (p:=fun v v'=>v'=.any\/eH (fun h=>(ga (reach st.H 64 (bp (L.ins.map fun t=>st.tm.getD t .any)) []) st.H.length Ho.length)[h]?) v=some v') L.outs vs vs' (List.replicate L.n .any) (List.replicate L.n .any)
       (vW _ _ hvs).1.symm rfl (fun i v v' h1 h2=>by
         obtain⟨v0,q1,q2⟩:=(vW _ _ hvs).2 i v' h2;rw[h1]at q1;simp at q1;subst q1;exact .inr q2) (fun t v v' h1 h2=>by
         rw[il]at h2;split at h2
         ·simp at h2;exact .inl h2.symm
         ·cases h2) t _ v hg hv'
      rcases hrel with rfl|hrel
      ·exact .jO (.any x)
      ·refine .jO (s9 hD j3 _ v x hrel ?_);generalize (dI (List.replicate L.n .any) L.outs vs)[t]=y at hrep hrel;cases y with
       |opt=>simp[eH]at hrel
       |_=>exact hrep
    ·cases hout
   ·cases hout
  ·cases hin
 ·cases hin
theorem pv{cx:Cx K}(hD:bk cx.D)(hc:aD cx)(hm:cx.P.follows .mixedOrders=true):∀(c:Code),jy cx c->∀{R:Type}(st:St K)(k:Ex->St K->Option R)(r:R),fD cx c st k=some r->
 ∃e st',k e st'=some r/\(st'.ok=true->st.ok=true)/\(st'.ok=true->cV st.tm->cV st'.tm/\∀n0,Tr cx n0 c st e st')
 |.skip,_,R,st,k,r,h=>⟨.normal,st,h,id,fun _ h0=>⟨h0,fun n0 ρ S a w hn bf=>wp_skip ⟨rfl,hn,ρ,S,bf,Step.refl⟩⟩⟩
 |.exit id,_,R,st,k,r,h=>⟨.exit id,st,h,fun h=>h,fun _ h0=>⟨h0,fun n0 ρ S a w hn bf=>wp_exit ⟨rfl,hn,ρ,S,bf,Step.refl⟩⟩⟩
 |.ret,_,R,st,k,r,h=>⟨.ret,st,h,fun h=>h,fun _ h0=>⟨h0,fun n0 ρ S a w hn bf=>wp_ret ⟨rfl,hn,ρ,S,bf,Step.refl⟩⟩⟩
 |.region id ops draw,_,R,st,k,r,h=>by
   simp only[fD]at h;split at h
   ·rename_i st' hr;have:=fun n0=>BR (id:=id) (n0:=n0) hD hc hm hr
    exact⟨.normal,st',h,(this 0).1,fun hok h0=>⟨((this 0).2 hok h0).1,fun n0=>((this n0).2 hok h0).2⟩⟩
   ·split at h
    ·rename_i b s1 s2 hsp;obtain⟨t,h1,h2⟩:=Gp _ hsp;have key:∀(x:Bool)(s':St K),jk {cx with gs:=[(t,x)]} ops.toList draw st=some s'->k .normal s'=some r->
      ∃e st',k e st'=some r/\(st'.ok=true->st.ok=true)/\(st'.ok=true->cV st.tm->cV st'.tm/\∀n0,Tr cx n0 (.region id ops draw) st e st'):=fun x s' hr hk=>by
      have:=fun n0=>BR (cx:={cx with gs:=[(t,x)]}) (id:=id) (n0:=n0) hD hc hm hr
      exact⟨.normal,s',hk,(this 0).1,fun hok h0=>⟨((this 0).2 hok h0).1,fun n0=>(((this n0).2 hok h0).2).gs⟩⟩
     cases b with
     |true=>exact key true s1 h1 h
     |false=>exact key false s2 h2 h
    ·split at h
     ·cases h
     ·split at h
      ·rename_i s1 s2 h1 h2;have key:∀(x:Bool)(s':St K),jk {cx with call:=cx.alt x,mode:=cx.qP x} ops.toList draw st=some s'->k .normal s'=some r->
        ∃e st',k e st'=some r/\(st'.ok=true->st.ok=true)/\(st'.ok=true->cV st.tm->cV st'.tm/\∀n0,Tr cx n0 (.region id ops draw) st e st'):=fun x s' hr hk=>by
        have:=fun n0=>BR (cx:={cx with call:=cx.alt x,mode:=cx.qP x}) (id:=id) (n0:=n0) hD ⟨hc.2.1 x,hc.2⟩ hm hr
        exact⟨.normal,s',hk,(this 0).1,fun hok h0=>⟨((this 0).2 hok h0).1,fun n0=>(((this n0).2 hok h0).2).call⟩⟩
       rcases hc.2.2 _ _ _ _ h with h|h
       ·exact key true s1 h1 h
       ·exact key false s2 h2 h
      ·split at h
       ·rename_i T hT;obtain⟨s,⟨hq1,hq2⟩,hk⟩:=mw.M9 (cx:=cx) (Q:=fun s'=>(s'.ok=true->st.ok=true)/\(s'.ok=true->cV st.tm->cV s'.tm/\∀n0,Tr cx n0 (.region id ops draw) st .normal s')) (fun a b r h=>hc.2.2 _ _ _ _ h) _ (Na (fun gs s' hr=>by
         have:=fun n0=>BR (cx:={cx with gs:=gs}) (id:=id) (n0:=n0) hD hc hm hr
         exact⟨(this 0).1,fun hok h0=>⟨((this 0).2 hok h0).1,fun n0=>(((this n0).2 hok h0).2).gs⟩⟩) (fun x gs s' hr=>by
         have:=fun n0=>BR (cx:={cx with call:=cx.alt x,mode:=cx.qP x,gs:=gs}) (id:=id) (n0:=n0) hD ⟨hc.2.1 x,hc.2⟩ hm hr
         exact⟨(this 0).1,fun hok h0=>⟨((this 0).2 hok h0).1,fun n0=>Tr.call (Tr.gs (cx:={cx with call:=cx.alt x,mode:=cx.qP x}) (((this n0).2 hok h0).2))⟩⟩) 4 [] T hT) h
        exact⟨.normal,s,hk,hq1,hq2⟩
       ·cases h
 |.seq a b,hl,R,st,k,r,h=>by
   simp only[fD]at h;obtain⟨e1,s1,h1,ok1,t1⟩:=pv hD hc hm a hl.1 st _ r h;cases e1 with
   |normal=>
    obtain⟨e2,s2,h2,ok2,t2⟩:=pv hD hc hm b hl.2 s1 k r h1;refine⟨e2,s2,h2,fun hk=>ok1 (ok2 hk),fun hk h0=>?_⟩;obtain⟨n1,q1⟩:=t1 (ok2 hk) h0;obtain⟨n2,q2⟩:=t2 hk n1;refine⟨n2,fun n0 ρ S a' w hn bf=>wp_seq (wp_mono (q1 n0 ρ S a' w hn bf) ?_)⟩
    rintro e a2 w2 ⟨rfl,hn1,ρ1,S1,eD,hst1⟩
    refine wp_mono (q2 n0 ρ1 S1 a2 w2 hn1 eD) ?_
    rintro e a3 w3 ⟨rfl,hn2,ρ2,S2,BS,hst2⟩
    exact⟨rfl,hn2,ρ2,S2,BS,hst1.trans hst2⟩
   |exit id=>
    refine⟨.exit id,s1,h1,ok1,fun hk h0=>⟨(t1 hk h0).1,fun n0 ρ S a' w hn bf=>wp_seq (wp_mono ((t1 hk h0).2 n0 ρ S a' w hn bf) ?_)⟩⟩
    rintro e a2 w2 ⟨rfl,q⟩
    exact⟨rfl,q⟩
   |ret=>
    refine⟨.ret,s1,h1,ok1,fun hk h0=>⟨(t1 hk h0).1,fun n0 ρ S a' w hn bf=>wp_seq (wp_mono ((t1 hk h0).2 n0 ρ S a' w hn bf) ?_)⟩⟩
    rintro e a2 w2 ⟨rfl,q⟩
    exact⟨rfl,q⟩
 |.cond c a b,hl,R,st,k,r,h=>by
   simp only[fD]at h;split at h
   ·rename_i t ht;have hev:∀{ρ S a' w},Sat cx ρ S a' w st->a'.eval c=.bool t:=fun{ρ S a' w} bf=>by
     have:=FP bf.slots (gs:=[]) (fun p hp=>by simp at hp) c;rw[ht]at this;generalize a'.eval c=y at this;cases this;rfl
    split at h
    ·rename_i hs;simp only[aZ]at hs;split at h
     ·rename_i sa sb ha hb;obtain⟨s1,g1,q1⟩:=zn a hs.1 st _ sa ha;obtain⟨s2,g2,q2⟩:=zn b hs.2 st _ sb hb;simp only[zk,ar]at g1 g2;subst g1;subst g2;obtain⟨e1,s1',c1,ok1,t1⟩:=pv hD hc hm a hl.1 st _ s1 ha;obtain⟨e2,s2',c2,ok2,t2⟩:=pv hD hc hm b hl.2 st _ s2 hb;cases e1<;>simp only[zk,ar]at c1<;>try cases c1
      cases e2<;>simp only[zk,ar]at c2<;>try cases c2
      have hks:∀{x y:Bool},((x|| !t)&&(y||t))=true->(t=true->x=true)/\(t=false->y=true):=fun{x y} hk=>by
       cases t<;>simpa using hk
      refine⟨.normal,_,h,fun hk=>?_,fun hk h0=>⟨an1 h0,fun n0 ρ S a' w hn bf=>wp_cond (hev bf) ?_⟩⟩
      ·cases ht':t
       ·exact ok2 ((hks hk).2 ht')
       ·exact ok1 ((hks hk).1 ht')
      ·have fin:∀e' a' w',(e'=Ex.normal.nk/\n0<=(cond t s1 s2).H.length/\∃ρ' S',Sat cx ρ' S' a' w' (cond t s1 s2)/\Step cx.D n0 ρ S st.H w ρ' S' (cond t s1 s2).H w')->cV (cond t s1.tm s2.tm)->
        (e'=Ex.normal.nk/\n0<=st.H.length/\∃ρ' S',Sat cx ρ' S' a' w' ⟨jl t (writes a++writes b) 0 st.tm s1.tm s2.tm,st.H,(s1.ok|| !t)&&(s2.ok||t)⟩/\Step cx.D n0 ρ S st.H w ρ' S' st.H w'):=by
        rintro e' a2 w2 ⟨he,hn1,ρ1,S1,eD,hst1⟩ hno
        have hH:(cond t s1 s2).H=st.H:=by cases t;exact q2.H;exact q1.H
        rw[hH]at hn1 hst1;refine⟨he,hn1,ρ1,S1,⟨by have:=eD.heap;rw[hH]at this;exact this,?_,eD.defers⟩,hst1⟩;exact an0 hno q1.len q2.len (fun i hi=>q1.rest i fun h'=>hi (by simp[h'])) (fun i hi=>q2.rest i fun h'=>hi (by simp[h'])) (by have:=eD.slots;cases t<;>exact this)
       cases ht':t<;>rw[ht']at fin
       ·obtain⟨n2,r2⟩:=t2 ((hks hk).2 ht') h0;exact wp_mono (r2 n0 ρ S a' w hn bf) fun e' a2 w2 q=>fin e' a2 w2 q n2
       ·obtain⟨n1,r1⟩:=t1 ((hks hk).1 ht') h0;exact wp_mono (r1 n0 ρ S a' w hn bf) fun e' a2 w2 q=>fin e' a2 w2 q n1
     ·cases h
    ·cases t
     ·obtain⟨e,s,h1,ok1,t1⟩:=pv hD hc hm b hl.2 st k r h;exact⟨e,s,h1,ok1,fun hk h0=>⟨(t1 hk h0).1,fun n0 ρ S a' w hn bf=>wp_cond (hev bf) ((t1 hk h0).2 n0 ρ S a' w hn bf)⟩⟩
     ·obtain⟨e,s,h1,ok1,t1⟩:=pv hD hc hm a hl.1 st k r h;exact⟨e,s,h1,ok1,fun hk h0=>⟨(t1 hk h0).1,fun n0 ρ S a' w hn bf=>wp_cond (hev bf) ((t1 hk h0).2 n0 ρ S a' w hn bf)⟩⟩
   ·cases h
 |.block id c,hl,R,st,k,r,h=>by
   simp only[fD]at h;obtain⟨e1,s1,h1,ok1,t1⟩:=pv hD hc hm c hl st _ r h;cases e1 with
   |normal=>
    refine⟨.normal,s1,h1,ok1,fun hk h0=>⟨(t1 hk h0).1,fun n0 ρ S a' w hn bf=>wp_block (wp_mono ((t1 hk h0).2 n0 ρ S a' w hn bf) ?_)⟩⟩
    rintro e a2 w2 ⟨rfl,q⟩
    exact⟨rfl,q⟩
   |ret=>
    refine⟨.ret,s1,h1,ok1,fun hk h0=>⟨(t1 hk h0).1,fun n0 ρ S a' w hn bf=>wp_block (wp_mono ((t1 hk h0).2 n0 ρ S a' w hn bf) ?_)⟩⟩
    rintro e a2 w2 ⟨rfl,q⟩
    exact⟨rfl,q⟩
   |exit i=>
    dsimp only at h1;split at h1
    ·rename_i hid;refine⟨.normal,s1,h1,ok1,fun hk h0=>⟨(t1 hk h0).1,fun n0 ρ S a' w hn bf=>wp_block (wp_mono ((t1 hk h0).2 n0 ρ S a' w hn bf) ?_)⟩⟩
     rintro e a2 w2 ⟨rfl,q⟩
     subst hid;show(if i=i then _ else _)
     rw[av rfl];exact⟨rfl,q⟩
    ·rename_i hid;refine⟨.exit i,s1,h1,ok1,fun hk h0=>⟨(t1 hk h0).1,fun n0 ρ S a' w hn bf=>wp_block (wp_mono ((t1 hk h0).2 n0 ρ S a' w hn bf) ?_)⟩⟩
     rintro e a2 w2 ⟨rfl,q⟩
     show(if i=id then _ else _)
     rw[an hid];exact⟨rfl,q⟩
 |.loop c,hl,R,st,k,r,h=>by
   simp only[fD]at h;split at h
   ·rename_i L hL;split at h
    ·rename_i hn;split at h
     ·rename_i m vals Hi hin;obtain⟨e,vs,Ho,h1,htr⟩:=hl L hL vals Hi R _ r h;split at h1
      ·rename_i st' hout;refine⟨e,st',h1,?_,fun hk h0=>?_⟩
       ·unfold Gj at hout;split at hout
        ·split at hout
         ·simp only[ar]at hout;subst hout;exact id
         ·cases hout
        ·cases hout
       ·exact⟨(aau (n0:=0) hD hn h0 hin hout htr).1,fun n0=>(aau (n0:=n0) hD hn h0 hin hout htr).2⟩
      ·cases h1
     ·cases h
    ·cases h
   ·cases h
 |.scope ..,_,R,st,k,r,h=>by simp[fD]at h
 |.rangeFunc ..,_,R,st,k,r,h=>by simp[fD]at h
 |.goto ..,_,R,st,k,r,h=>by simp[fD]at h
 |.label ..,_,R,st,k,r,h=>by simp[fD]at h
 |.refuse ..,_,R,st,k,r,h=>by simp[fD]at h
end Go.V
