/-
  CODE: what 'execC' yields is what the machine does.
-/
import Derived.Test.YtalddlopgnfpaaaGreatDoorXWperm
set_option linter.unusedVariables false
namespace Go.V
open Go
variable {K :cy}{ρ ρ':List Value}{S S':Nat->Prop}{w w':World}{H H':List (Ob K)}
def Tr(cx:Cx K)(n0:Nat)(c:Code)(st:St K)(e:Ex)(st':St K):Prop:=
 ∀(ρ:List Value)(S:Nat->Prop)(a:Act)(w:World),n0<=st.H.length->Sat cx ρ S a w st->
  c.wp cx.P (fun e' a' w'=>e'=e.lS/\n0<=st'.H.length/\∃ρ' S',Sat cx ρ' S' a' w' st'/\Step cx.D n0 ρ S st.H w ρ' S' st'.H w') a w
theorem Step.drew{D:aY K}{n0 n:Nat}{ρ ρ':List Value}{S S':Nat->Prop}{w w':World}{H H':List (Ob K)}(h:Step D n0 ρ S H {w with drawn:=n} ρ' S' H' w'):Step D n0 ρ S H w ρ' S' H' w':=
 have g:∀b,Own D {w with drawn:=n} ρ H b->Own D w ρ H b:=fun b h=>h.old fun _ _=>rfl
 ⟨h.os,h.tape,h.output,h.size,fun b hb hn=>h.old b hb fun hO=>hn (g b hO),fun b hb=>(h.own b hb).imp (g b) id,h.s1,fun b hb=>(h.s2 b hb).imp id (Or.imp (g b) id),h.pre⟩
theorem Sat.drawn{cx:Cx K}{a:Act}{st:St K}(h:Sat cx ρ S a w st)(n:Nat):Sat cx ρ S a {w with drawn:=n} st:=
 ⟨h.heap.world (bn _) (fun _ _=>rfl) (fun _ _=>rfl),dI.mono (w:=w) (w':={w with drawn:=n}) (fun _ h=>h) (fun _ _=>rfl) (fun _ _ h=>h) h.slots,h.defers⟩
theorem Ul{cx:Cx K}{ops:List Oper}:∀(l:List Oper)(st st':St K)(wr wr':List Nat),jS cx ops l st wr=some (st',wr')->jU st.tm wr->jU st'.tm wr'
 |[],st,st',wr,wr',h,ho=>by simp only[jS,ak,aS]at h;obtain⟨rfl,rfl⟩:=h;exact ho
 |o::r,st,st',wr,wr',h,ho=>by
  simp only[jS]at h;split at h
  ·rename_i st1 f6 h1;refine Ul r st1 st' f6 wr' h ?_;unfold vY at h1;split at h1
   ·rename_i v H1 c hsv;obtain⟨-,-,p3⟩:=o8 h1;rcases p3 with⟨e1,e2,e3⟩|⟨d,e1,e2,e3,e4,e5⟩
    ·rw[e2,e3];exact ho
    ·rw[e4,e5];exact ho.put (s8 hsv)
   ·cases h1
  ·cases h
theorem agr{cx:Cx K}{op:Op}(h:gX cx op=true):lT cx op=true:=by
 unfold lT;split
 ·rfl
 ·simp only[gX]at h;simp[h]
 ·simp only[gX,aU]at h;simp[h.1]
 ·exact h
theorem Iw{cx:Cx K}{ops:List Oper}{π:List Nat}{st st':St K}(h:yz cx ops π st=some st'):yy π ops.length=true/\nA cx (permuted π ops) st=some st':=by
 unfold yz at h;split at h
 ·rename_i hp;exact⟨hp,h⟩
 ·cases h
theorem Um{cx:Cx K}{ops:List Oper}{st st':St K}(h:Ii cx ops st=some st'):nA cx ops st=some st'\/∃π,yy π ops.length=true/\nA cx (permuted π ops) st=some st':=by
 unfold Ii at h;split at h
 ·split at h
  ·rename_i r hr;simp only[ak]at h;subst h;exact .inl hr
  ·exact .inr ⟨_,Iw h⟩
 ·split at h
  ·rename_i r hr;simp only[ak]at h;subst h;exact .inr ⟨_,Iw hr⟩
  ·exact .inr ⟨_,Iw h⟩
theorem Un{cx:Cx K}(hD:bh cx.D)(hc:aF cx){n0:Nat}{ops:Array Oper}{st st':St K}(h:nA cx ops.toList st=some st'):
 (st'.ok=true->st.ok=true)/\(st'.ok=true->cK st.tm->cK st'.tm/\∀(ρ:List Value)(S:Nat->Prop)(a:Act)(w:World),n0<=st.H.length->Sat cx ρ S a w st->
   wpAny cx.P .any ops (fun e' a' w'=>e'=Ex.normal.lS/\n0<=st'.H.length/\∃ρ' S',Sat cx ρ' S' a' w' st'/\Step cx.D n0 ρ S st.H w ρ' S' st'.H w') ops.size (Array.replicate ops.size false) a {w with drawn:=w.drawn+1}):=by
 unfold nA at h;split at h
 ·rename_i hsm;simp only[aU]at hsm;split at h
  ·rename_i s1 wr hr;simp only[ak]at h;subst h;have hk:=Ip _ _ _ _ _ _ hr;refine⟨fun hok=>(hk hok).1,fun hok h0=>?_⟩;obtain⟨vals,hd,hwr⟩:=agp hr hok;have hH:=(hk hok).2;have It:∀(i:Nat) o,ops.toList[i]?=some o->lT cx o.op=true:=fun i o ho=>
    di.1 hsm.1 o (gd ho)
   have ko:jU s1.tm wr:=fun t g b v e=>by
    rcases wb ops.toList t with hn|⟨k,o,hk1,hk2⟩
    ·rw[hd.rest t hn]at e;exact absurd e (h0 t g b v)
    ·rw[hd.fin k o t hk1 hk2]at e;refine⟨(hwr t).2 ⟨k,o,hk1,hk2⟩,?_⟩;obtain⟨cr,da,H1,q1,q2,q3,q4,q5⟩:=hd.slot k o hk1;simp only[ak]at e;rw[e]at q1;obtain⟨k',o',-,c2,c3⟩:=q5 g (s8 q1 g b v rfl);exact(hwr g).2 ⟨k',o',c2,c3⟩
   refine⟨cK.wipe ko,fun ρ S a w hn ba=>?_⟩;have o9:=ba.drawn (w.drawn+1);have hall:ops=ops.toList.toArray:=by simp
   have hmid:Mid cx ops.toList st.tm vals st.H ρ S (Array.replicate ops.size false) a {w with drawn:=w.drawn+1}:=by
    have hf:∀(k:Nat),(Array.replicate ops.size false)[k]?≠some true:=fun k e=>by
     rw[BZ]at e;split at e<;>simp at e
    refine⟨o9.heap,o9.defers,o9.slots.len.symm,by simp,fun t v x hn1 h1 h2=>?_,fun k o d x h1 h2=>absurd h2 (hf k),fun k g b y h1=>absurd h1 (hf k),fun k o h1 h2=>absurd h2 (hf k)⟩;have:=o9.slots.ok t v x h1 h2;cases v with
    |opt g b y=>exact absurd h1 (h0 t g b y)
    |_=>exact this
   rw[hH];have key:=agq hD hc It hsm.2 hd h0 (n0:=n0) hn (Q:=fun e' a' w'=>e'=Ex.normal.lS/\n0<=st.H.length/\∃ρ' S',Sat cx ρ' S' a' w' ⟨im s1.tm wr,st.H,s1.ok⟩/\Step cx.D n0 ρ S st.H w ρ' S' st.H w') ops.size (Array.replicate ops.size false) ρ S a {w with drawn:=w.drawn+1} hmid (Uk _) fun ρ' S' a' w' g1 g2 g3 g4=>by
    exact⟨rfl,hn,ρ',S',⟨g1,g2.wipe _ _,g3⟩,g4.drew⟩
   rw[<-hall]at key;exact key
  ·cases h
 ·split at h
  ·rename_i Ix;split at h
   ·rename_i s1 wr hr;simp only[ak]at h;subst h;refine⟨fun hok=>Iy _ _ _ _ _ _ _ _ hr hok,fun hok h0=>?_⟩;obtain⟨F,ms,ws,hp⟩:=ags hr hok;have ko:jU s1.tm wr:=fun t g b v e=>by
     rcases wb ops.toList t with hn|⟨k,o,hk1,hk2⟩
     ·rw[hp.rest t fun k o _ h=>hn k o h]at e;exact absurd e (h0 t g b v)
     ·have kQ:=(bg.1 hk1).1;rw[hp.fin k o t kQ hk1 hk2]at e;refine⟨(hp.kP t).2 ⟨k,o,kQ,hk1,hk2⟩,?_⟩;obtain⟨cr,da,fs⟩:=hp.slot k o kQ hk1;simp only[ak]at e;have q1:=fs.slot;rw[e]at q1;have hg:g∈da:=by
       unfold v7 at q1;split at q1
       ·exact s8 q1 g b v rfl
       ·split at q1
        ·exact s8 q1 g b v rfl
        ·cases q1
      obtain⟨k',o',c1,c2,c3⟩:=fs.da g hg;exact(hp.kP g).2 ⟨k',o',by omega,c2,c3⟩
    refine⟨cK.wipe ko,fun ρ S a w hn ba=>?_⟩;have o9:=ba.drawn (w.drawn+1);have hall:ops=ops.toList.toArray:=by simp
    have hmid:=ja.start hp o9.heap o9.defers o9.slots h0;have agt:=Step.pad (n:=s1.H.length) (n0:=n0) o9.heap hn;have key:=agu hD hc Ix hp (n0:=n0) hn (Q:=fun e' a' w'=>e'=Ex.normal.lS/\n0<=s1.H.length/\∃ρ' S',Sat cx ρ' S' a' w' ⟨im s1.tm wr,s1.H,s1.ok⟩/\Step cx.D n0 ρ S st.H w ρ' S' s1.H w') ops.size (Array.replicate ops.toList.length false) _ _ S a {w with drawn:=w.drawn+1} hmid (by have:=Uk ops.toList.length;simpa using this) fun ρ' S' a' w' g1 g2 g3 g4=>by
     have g5:=agt.trans g4;exact⟨rfl,lG hn hp.len0,ρ',S',⟨g1,g2.wipe _ _,g3⟩,g5.drew⟩
    rw[<-hall]at key;simpa using key
   ·cases h
  ·cases h
theorem Iz{cx:Cx K}(hD:bh cx.D)(hc:aF cx)(hm:cx.P.follows .mixedOrders=true){n0:Nat}{id:Nat}{ops:Array Oper}{draw:Bool}{st st':St K}(h:kn cx ops.toList draw st=some st'):
 (st'.ok=true->st.ok=true)/\(st'.ok=true->cK st.tm->cK st'.tm/\Tr cx n0 (.region id ops draw) st .normal st'):=by
 unfold kn at h;split at h
 ·rename_i hdr;subst hdr;rcases Um h with h|⟨π,hp,h⟩
  ·obtain⟨h1,h2⟩:=Un (n0:=n0) hD hc h;refine⟨h1,fun hok h0=>⟨(h2 hok h0).1,fun ρ S a w hn ba=>wp_region_any hm ((h2 hok h0).2 ρ S a w hn ba)⟩⟩
  ·have hp':=Uo hp;have e:ops.toList.toArray=ops:=by simp
   rw[e]at hp';have h':nA cx ((permuted π ops.toList).toArray).toList st=some st':=h;obtain⟨h1,h2⟩:=Un (n0:=n0) hD hc h';refine⟨h1,fun hok h0=>⟨(h2 hok h0).1,fun ρ S a w hn ba=>wp_region_any hm ?_⟩⟩;have:=(h2 hok h0).2 ρ S a w hn ba;rw[hp'.len']at this;exact agv hp' _ _ _ _ _ ⟨by simp,by simp,fun j i hj=>by
    obtain⟨o,ho,ho'⟩:=hp'.ops j i hj;have hi:=(dW.1 ho).1;have hj':=(dW.1 ho').1;rw[hp'.len']at hj';rw[BZ,BZ,bG hi,bG hj']⟩ this
 ·rename_i hdr;split at h
  ·rename_i s1 wr hr;simp only[ak]at h;subst h;refine⟨fun hok=>IA _ _ _ _ _ hr hok,fun hok h0=>?_⟩;refine⟨cK.wipe (Ul _ _ _ _ _ hr h0.in),fun ρ S a w hn ba=>?_⟩;have hdr':draw=false:=by simpa using hdr
   subst hdr';refine wp_region_list ?_;have key:=Up (n0:=n0) hD hc ops.toList st s1 [] wr ρ S a w hr hok ba h0.in hn (Q:=fun e' a' w'=>e'=Ex.normal.lS/\n0<=s1.H.length/\∃ρ' S',Sat cx ρ' S' a' w' ⟨im s1.tm wr,s1.H,s1.ok⟩/\Step cx.D n0 ρ S st.H w ρ' S' s1.H w') fun ρ' S' a' w' g1 g2 g3=>
    ⟨rfl,g3.grow ba.heap g1.heap hn,ρ',S',⟨g1.heap,g1.slots.wipe _ _,g1.defers⟩,g3⟩
   exact key
  ·cases h
theorem IB:∀(wr:List Nat)(tm:List (AV K))(t:Nat),t∉wr->(im tm wr)[t]?=tm[t]?
 |[],tm,t,h=>rfl
 |d::r,tm,t,h=>by
  simp only[dP,oI]at h;simp only[im];split
  ·rw[IB r _ t h.2,List.getElem?_set_ne (nt h.1)]
  ·exact IB r tm t h.2
theorem IC:∀(wr:List Nat)(tm:List (AV K)),(im tm wr).length=tm.length
 |[],tm=>rfl
 |d::r,tm=>by
  simp only[im];split
  ·rw[IC r];simp
  ·exact IC r tm
theorem agw{q:Bool}{cx:Cx K}{ops:List Oper}{tm:List (AV K)}{wr:List Nat}{o:Oper}{v:AV K}{c:Bool}(hs:gX cx o.op=true)(h:gz q cx ops tm H wr o=some (v,H',c)):H'=H:=by
 unfold gz at h;split at h
 ·cases h
 ·split at h
  ·rename_i hy;split at h
   ·cases h
   ·simp only[ak,aS]at h;obtain⟨-,rfl,-⟩:=h;exact Ur hs hy
  ·cases h
 ·split at h
  ·split at h
   ·split at h
    ·split at h
     ·rename_i hy;split at h
      ·cases h
      ·simp only[ak,aS]at h;obtain⟨-,rfl,-⟩:=h;exact Ur hs hy
     ·cases h
    ·simp only[ak,aS]at h;exact h.2.1.symm
   ·cases h
  split at h
  ·cases h
  ·split at h
   ·split at h
    ·simp only[ak,aS]at h;exact h.2.1.symm
    ·cases h
   ·cases h
structure Quiet (st st':St K) (wr:List Nat):Prop where
 H:st'.H=st.H
 len:st'.tm.length=st.tm.length
 rest:∀t,t∉wr->st'.tm[t]?=st.tm[t]?
theorem Us{st st':St K}{wr wr' ds:List Nat}{dst:Option Nat}{v:AV K}{ok:Bool}(h:sW st wr dst v st.H ok=some (st',wr'))(hd:∀d,dst=some d->d∈ds)(hw:∀d∈wr,d∈ds):Quiet st st' ds/\∀d∈wr',d∈ds:=by
 obtain⟨p1,p2,p3⟩:=o8 h;rcases p3 with⟨e1,e2,e3⟩|⟨d,e1,e2,e3,e4,e5⟩
 ·exact⟨⟨p1,by rw[e2],fun t _=>by rw[e2]⟩,by rw[e3];exact hw⟩
 ·refine⟨⟨p1,by rw[e4];simp,fun t ht=>?_⟩,fun d' hd'=>?_⟩
  ·rw[e4,List.getElem?_set_ne fun e=>ht (by rw[<-e];exact hd d e1)]
  ·rw[e5]at hd';rcases dP.1 hd' with rfl|h'
   ·exact hd _ e1
   ·exact hw _ h'
theorem Quiet.trans{st st1 st2:St K}{wr:List Nat}(a:Quiet st st1 wr)(b:Quiet st1 st2 wr):Quiet st st2 wr:=
 ⟨b.H.trans a.H,b.len.trans a.len,fun t ht=>(b.rest t ht).trans (a.rest t ht)⟩
theorem Quiet.more{st st1:St K}{wr wr':List Nat}(a:Quiet st st1 wr)(h:∀d∈wr,d∈wr'):Quiet st st1 wr':=⟨a.H,a.len,fun t ht=>a.rest t fun h'=>ht (h t h')⟩
theorem Ut{cx:Cx K}{ops:List Oper}{ds:List Nat}:∀(l:List Oper)(st st':St K)(wr wr':List Nat),jS cx ops l st wr=some (st',wr')->(∀o∈l,gX cx o.op=true)->(∀o∈l,∀d,o.dst=some d->d∈ds)->(∀d∈wr,d∈ds)->Quiet st st' ds/\∀d∈wr',d∈ds
 |[],st,st',wr,wr',h,_,_,hw=>by simp only[jS,ak,aS]at h;obtain⟨rfl,rfl⟩:=h;exact⟨⟨rfl,rfl,fun _ _=>rfl⟩,hw⟩
 |o::r,st,st',wr,wr',h,hs,hd,hw=>by
  simp only[jS]at h;split at h
  ·rename_i st1 f6 h1;unfold vY at h1;split at h1
   ·rename_i v H1 c hsv;have hH:=agw (hs o (by simp)) hsv;subst hH;obtain⟨q1,q2⟩:=Us h1 (fun d e=>hd o (by simp) d e) hw;obtain⟨q3,q4⟩:=Ut r st1 st' f6 wr' h (fun o ho=>hs o (by simp[ho])) (fun o ho=>hd o (by simp[ho])) q2;exact⟨q1.trans q3,q4⟩
   ·cases h1
  ·cases h
theorem Uu{cx:Cx K}{L:List Oper}{bs ds:List Nat}:∀(l:List Oper)(i:Nat)(st st':St K)(wr wr':List Nat),kO cx L bs l i st wr=some (st',wr')->(∀o∈l,∀d,o.dst=some d->d∈ds)->(∀d∈wr,d∈ds)->Quiet st st' ds/\∀d∈wr',d∈ds
 |[],i,st,st',wr,wr',h,_,hw=>by simp only[kO,ak,aS]at h;obtain⟨rfl,rfl⟩:=h;exact⟨⟨rfl,rfl,fun _ _=>rfl⟩,hw⟩
 |o::r,i,st,st',wr,wr',h,hd,hw=>by
  simp only[kO]at h;split at h
  ·split at h
   ·rename_i st1 f6 h1;obtain⟨q1,q2⟩:=Us h1 (fun d e=>hd o (by simp) d e) hw;obtain⟨q3,q4⟩:=Uu r _ st1 st' f6 wr' h (fun o ho=>hd o (by simp[ho])) q2;exact⟨q1.trans q3,q4⟩
   ·cases h
  ·cases h
theorem Quiet.wipe{st st1:St K}{wr ds:List Nat}(a:Quiet st st1 ds)(h:∀d∈wr,d∈ds):Quiet st ⟨im st1.tm wr,st1.H,st1.ok⟩ ds:=
 ⟨a.H,by simp[IC,a.len],fun t ht=>by dsimp only;rw[IB wr _ t fun h'=>ht (h t h')];exact a.rest t ht⟩
theorem Ce{cx:Cx K}{ops:List Oper}{draw:Bool}{st:St K}{b:Bool}{s1 s2:St K}:∀(l:List Nat),yA cx ops draw st l=some (b,s1,s2)->
 ∃t,kn {cx with gs:=some (t,true)} ops draw st=some s1/\kn {cx with gs:=some (t,false)} ops draw st=some s2
 |[],h=>by cases h
 |t::r,h=>by
  unfold yA at h;split at h
  ·rename_i a1 a2 h1 h2;split at h
   ·simp only[ak,aS]at h;obtain⟨-,rfl,rfl⟩:=h;exact⟨t,h1,h2⟩
   ·exact Ce r h
  ·exact Ce r h
theorem Sat.gs{cx:Cx K}{g:Option (Nat×Bool)}{a:Act}{st:St K}(h:Sat cx ρ S a w st):Sat {cx with gs:=g} ρ S a w st:=⟨h.heap,h.slots,h.defers⟩
theorem Sat.agx{cx:Cx K}{g:Option (Nat×Bool)}{a:Act}{st:St K}(h:Sat {cx with gs:=g} ρ S a w st):Sat cx ρ S a w st:=⟨h.heap,h.slots,h.defers⟩
theorem Tr.gs{cx:Cx K}{g:Option (Nat×Bool)}{n0:Nat}{c:Code}{st st':St K}{e:Ex}(h:Tr {cx with gs:=g} n0 c st e st'):Tr cx n0 c st e st':=fun ρ S a w hn hs=>
 wp_mono (h ρ S a w hn hs.gs) fun e' a' w' ⟨h1,h2,ρ',S',h3,h4⟩=>⟨h1,h2,ρ',S',h3.agx,h4⟩
theorem Sat.call{cx:Cx K}{g:FuncId->List (AV K)->List (Ob K)->Option (AV K×List (Ob K)×Bool)}{m:FuncId->Mode}{a:Act}{st:St K}(h:Sat cx ρ S a w st):Sat {cx with call:=g,mode:=m} ρ S a w st:=⟨h.heap,h.slots,h.defers⟩
theorem Sat.agy{cx:Cx K}{g:FuncId->List (AV K)->List (Ob K)->Option (AV K×List (Ob K)×Bool)}{m:FuncId->Mode}{a:Act}{st:St K}(h:Sat {cx with call:=g,mode:=m} ρ S a w st):Sat cx ρ S a w st:=⟨h.heap,h.slots,h.defers⟩
theorem Tr.call{cx:Cx K}{g:FuncId->List (AV K)->List (Ob K)->Option (AV K×List (Ob K)×Bool)}{m:FuncId->Mode}{n0:Nat}{c:Code}{st st':St K}{e:Ex}(h:Tr {cx with call:=g,mode:=m} n0 c st e st'):Tr cx n0 c st e st':=fun ρ S a w hn hs=>
 wp_mono (h ρ S a w hn hs.call) fun e' a' w' ⟨h1,h2,ρ',S',h3,h4⟩=>⟨h1,h2,ρ',S',h3.agy,h4⟩
theorem Uw{cx:Cx K}{g:Option (Nat×Bool)}:∀(o:Op),gX {cx with gs:=g} o=gX cx o:=fun o=>by
 unfold gX;rfl
theorem ID{cx:Cx K}{id:Nat}{ops:Array Oper}{draw:Bool}{st st':St K}(hs:∀o∈ops.toList,gX cx o.op=true)(hr:kn cx ops.toList draw st=some st'):Quiet st st' (writes (.region id ops draw)):=by
 have hd:∀o∈ops.toList,∀d,o.dst=some d->d∈writes (.region id ops draw):=fun o ho d hd=>by
  simp only[writes,List.mem_filterMap];exact⟨o,ho,hd⟩
 have dq:∀(L:List Oper),(∀o∈L,gX cx o.op=true)->(∀o∈L,∀d,o.dst=some d->d∈writes (.region id ops draw))->nA cx L st=some st'->Quiet st st' (writes (.region id ops draw)):=fun L hs hd hr=>by
  unfold nA at hr;split at hr
  ·split at hr
   ·rename_i s1 wr h1;simp only[ak]at hr;subst hr;obtain⟨q1,q2⟩:=Uu _ _ _ _ _ _ h1 hd (by simp);exact q1.wipe q2
   ·cases hr
  ·rename_i hnq;split at hr
   ·rename_i Ix;exact absurd (by rw[aU];exact⟨di.2 fun o ho=>agr (hs o ho),Ix⟩) hnq
   ·cases hr
 unfold kn at hr;split at hr
 ·rcases Um hr with hr|⟨π,hp,hr⟩
  ·exact dq _ hs hd hr
  ·have hp':=Uo hp;have src:∀o∈permuted π ops.toList,∃o1∈ops.toList,o=sX π ops.toList.length o1:=fun o ho=>by
    obtain⟨j,hj,e⟩:=m7 ho;have hjn:j<π.length:=by simpa [permuted]using hj
    obtain⟨o1,h1,h2⟩:=hp'.ops j _ (bI hjn);have h3:(permuted π ops.toList)[j]?=some o:=by rw[bI hj,e]
    have h4:=h3.symm.trans (by simpa using h2);exact⟨o1,gd (by simpa using h1),by simpa using eE h4⟩
   refine dq _ (fun o ho=>?_) (fun o ho d hod=>?_) hr
   ·obtain⟨o1,h1,rfl⟩:=src o ho;exact hs o1 h1
   ·obtain⟨o1,h1,rfl⟩:=src o ho;exact hd o1 h1 d hod
 ·split at hr
  ·rename_i s1 wr h1;simp only[ak]at hr;subst hr;obtain⟨q1,q2⟩:=Ut _ _ _ _ _ h1 hs hd (by simp);exact q1.wipe q2
  ·cases hr
theorem we{cx:Cx K}:∀(c:Code),simple cx c=true->∀{R:Type}(st:St K)(k:Ex->St K->Option R)(r:R),eL cx c st k=some r->∃st',k .normal st'=some r/\Quiet st st' (writes c)
 |.skip,_,R,st,k,r,h=>⟨st,h,rfl,rfl,fun _ _=>rfl⟩
 |.region id ops draw,hs,R,st,k,r,h=>by
   simp only[eL]at h;have hs':∀o∈ops.toList,gX cx o.op=true:=by simpa only[simple,di]using hs
   split at h
   ·rename_i st' hr;exact⟨st',h,ID hs' hr⟩
   ·split at h
    ·rename_i b s1 s2 hsp;obtain⟨t,h1,h2⟩:=Ce _ hsp;cases b with
     |true=>exact⟨s1,h,ID (cx:={cx with gs:=some (t,true)}) (fun o ho=>by rw[Uw];exact hs' o ho) h1⟩
     |false=>exact⟨s2,h,ID (cx:={cx with gs:=some (t,false)}) (fun o ho=>by rw[Uw];exact hs' o ho) h2⟩
    ·rw[bG (di.2 hs')]at h;cases h
 |.seq a b,hs,R,st,k,r,h=>by
   simp only[simple,aU]at hs;simp only[eL]at h;obtain⟨s1,h1,q1⟩:=we a hs.1 st _ r h;obtain⟨s2,h2,q2⟩:=we b hs.2 s1 k r h1;exact⟨s2,h2,(q1.more fun d hd=>by simp[writes,hd]).trans (q2.more fun d hd=>by simp[writes,hd])⟩
 |.cond c a b,hs,R,st,k,r,h=>by
   have hs':=hs;simp only[simple,aU]at hs;simp only[eL]at h;split at h
   ·rename_i t ht;rw[bG (by simp[hs.1,hs.2])]at h;split at h
    ·rename_i sa sb ha hb;refine⟨_,h,?_⟩;obtain⟨s1,g1,q1⟩:=we a hs.1 st _ sa ha;obtain⟨s2,g2,q2⟩:=we b hs.2 st _ sb hb;simp only[wa,ak]at g1 g2;subst g1;subst g2;have hlen:∀(wr:List Nat)(l s t':List (AV K))(n:Nat),s.length=l.length->t'.length=l.length->(iq t wr n l s t').length=l.length:=fun wr l=>by
      induction l with
      |nil=>intro s t' n h1 h2;simp at h1 h2;subst h1;subst h2;rfl
      |cons x l ih=>
       intro s t' n h1 h2;cases s with
       |nil=>simp at h1
       |cons y s=>
        cases t' with
        |nil=>simp at h2
        |cons z t'=>
         simp only[iq,bY];rw[ih s t' (n+1) (by simpa using h1) (by simpa using h2)]
     have hget:∀(wr:List Nat)(l s t':List (AV K))(n i:Nat),s.length=l.length->t'.length=l.length->n+i∉wr->(iq t wr n l s t')[i]?=l[i]?:=fun wr l=>by
      induction l with
      |nil=>intro s t' n i h1 h2 _;simp at h1 h2;subst h1;subst h2;rfl
      |cons x l ih=>
       intro s t' n i h1 h2 hni;cases s with
       |nil=>simp at h1
       |cons y s=>
        cases t' with
        |nil=>simp at h2
        |cons z t'=>
         simp only[iq];cases i with
         |zero=>simp only[Nat.add_zero]at hni;simp[hni]
         |succ i=>
          simp only[List.getElem?_cons_succ];exact ih s t' (n+1) i (by simpa using h1) (by simpa using h2) (by rw[jG,vh 1 i];exact hni)
     refine⟨rfl,hlen _ _ _ _ _ q1.len q2.len,fun i hi=>?_⟩;exact hget _ _ _ _ 0 i q1.len q2.len (by rw[fZ];simpa [writes]using hi)
    ·cases h
   ·cases h
 |.block ..,hs,R,st,k,r,h=>by simp[simple]at hs
 |.loop ..,hs,R,st,k,r,h=>by simp[simple]at hs
 |.exit ..,hs,R,st,k,r,h=>by simp[simple]at hs
 |.ret,hs,R,st,k,r,h=>by simp[simple]at hs
 |.scope ..,hs,R,st,k,r,h=>by simp[simple]at hs
 |.rangeFunc ..,hs,R,st,k,r,h=>by simp[simple]at hs
 |.goto ..,hs,R,st,k,r,h=>by simp[simple]at hs
 |.label ..,hs,R,st,k,r,h=>by simp[simple]at hs
end Go.V
namespace Go.V
open Go
variable {K :cy}{ρ ρ':List Value}{S S':Nat->Prop}{w w':World}{H H':List (Ob K)}
def bR(cx:Cx K)(c:Code)(L:bQ K):Prop:=
 ∀(vals:List (AV K))(Hi:List (Ob K))(R:Type)(k:Ex->List (AV K)->List (Ob K)->Option R)(r:R),L.run vals Hi k=some r->
  ∃e vs Ho,k e vs Ho=some r/\Tr cx Hi.length (.loop c) ⟨dn (List.replicate L.n .any) L.ins vals,Hi,true⟩ e ⟨dn (List.replicate L.n .any) L.outs vs,Ho,true⟩
def iM(cx:Cx K):Code->Prop
 |.loop c=>∀L,cx.loop (keyOf c)=some L->bR cx c L
 |.seq a b=>iM cx a/\iM cx b
 |.cond _ a b=>iM cx a/\iM cx b
 |.block _ c=>iM cx c
 |_=>True
theorem agz:∀(b:Bool)(x y:AV K),(merge b x y).il=false:=by
 intro b x y;cases x<;>cases y<;>simp only[merge]<;>(try split)<;>rfl
theorem IE{t:Bool}{wr:List Nat}:∀(l s s':List (AV K))(n i:Nat)(v:AV K),(iq t wr n l s s')[i]?=some v->
 (n+i∉wr/\l[i]?=some v)\/∃x y,s[i]?=some x/\s'[i]?=some y/\v=merge t x y
 |[],s,s',n,i,v,h=>by simp[iq]at h
 |x::l,[],s',n,i,v,h=>by simp[iq]at h
 |x::l,y::s,[],n,i,v,h=>by simp[iq]at h
 |x::l,y::s,z::s',n,0,v,h=>by
  simp only[iq,List.getElem?_cons_zero,ak]at h;subst h;by_cases hc:n∈wr
  ·exact .inr ⟨y,z,rfl,rfl,by simp[hc]⟩
  ·exact .inl ⟨hc,by simp[hc]⟩
 |x::l,y::s,z::s',n,i+1,v,h=>by
  simp only[iq,List.getElem?_cons_succ]at h;rcases IE l s s' (n+1) i v h with⟨h1,h2⟩|⟨a,b,h1,h2,h3⟩
  ·exact .inl ⟨by rw[vh i 1,<-jG];exact h1,by simpa using h2⟩
  ·exact .inr ⟨a,b,by simpa using h1,by simpa using h2,h3⟩
theorem Ux{t:Bool}{wr:List Nat}:∀(l s s':List (AV K))(n:Nat),s.length=l.length->s'.length=l.length->(iq t wr n l s s').length=l.length
 |[],s,s',n,h1,h2=>by cases s<;>cases s'<;>simp[iq]
 |x::l,[],s',n,h1,h2=>by simp at h1
 |x::l,y::s,[],n,h1,h2=>by simp at h2
 |x::l,y::s,z::s',n,h1,h2=>by
  simp only[iq,bY];rw[Ux l s s' (n+1) (by simpa using h1) (by simpa using h2)]
theorem dI.rep{D:aY K}{tm:List (AV K)}{tmps:Array Value}(h:dI D ρ S w tm tmps)(h0:cK tm){t:Nat}{v:AV K}{x:Value}(hv:tm[t]?=some v)(hx:tmps[t]?=some x):Rep D ρ S w v x:=by
 have:=h.ok t v x hv hx;cases v with
 |opt g b y=>exact absurd hv (h0 t g b y)
 |_=>exact this
theorem agA{D:aY K}{t:Bool}{wr:List Nat}{l sa sb:List (AV K)}{tmps:Array Value}(hab:cK (cond t sa sb))(la:sa.length=l.length)(lb:sb.length=l.length)(ra:∀t,t∉wr->sa[t]?=l[t]?)(rb:∀t,t∉wr->sb[t]?=l[t]?)
 (h:dI D ρ S w (cond t sa sb) tmps):dI D ρ S w (iq t wr 0 l sa sb) tmps:=by
 refine⟨by rw[Ux _ _ _ _ la lb,<-h.len];cases t<;>simp[la,lb],fun i v x hv hx=>?_⟩;rcases IE l sa sb 0 i v hv with⟨h1,h2⟩|⟨a,b,h1,h2,rfl⟩
 ·rw[fZ]at h1;refine .i4 ?_;cases t
  ·exact h.rep hab (by rw[aW,rb i h1];exact h2) hx
  ·exact h.rep hab (by rw[cE,ra i h1];exact h2) hx
 ·refine .i4 (Ta (fun e=>?_) fun e=>?_)
  ·subst e;exact h.rep hab h1 hx
  ·subst e;exact h.rep hab h2 hx
theorem agB{t:Bool}{wr:List Nat}{l sa sb:List (AV K)}(h0:cK l):cK (iq t wr 0 l sa sb):=fun i g b v e=>by
 rcases IE l sa sb 0 i _ e with⟨-,h2⟩|⟨x,y,-,-,h3⟩
 ·exact h0 i g b v h2
 ·have:=agz t x y;rw[<-h3]at this;simp[AV.il]at this
theorem s9:∀(ds:List Nat)(vs tm:List (AV K)),(dn tm ds vs).length=tm.length
 |[],vs,tm=>by simp[dn]
 |d::r,[],tm=>by simp[dn]
 |d::r,v::vs,tm=>by simp only[dn];rw[s9 r vs];simp
theorem wh:∀(ds:List Nat)(vs tm:List (AV K))(t:Nat)(v:AV K),(dn tm ds vs)[t]?=some v->tm[t]?=some v\/∃i:Nat,ds[i]?=some t/\vs[i]?=some v
 |[],vs,tm,t,v,h=>.inl (by simpa [dn]using h)
 |d::r,[],tm,t,v,h=>.inl (by simpa [dn]using h)
 |d::r,x::vs,tm,t,v,h=>by
  simp only[dn]at h;rcases wh r vs _ t v h with h1|⟨i,h1,h2⟩
  ·rcases dD h1 with⟨rfl,rfl,-⟩|⟨-,h1⟩
   ·exact .inr ⟨0,rfl,rfl⟩
   ·exact .inl h1
  ·exact .inr ⟨i+1,by simpa using h1,by simpa using h2⟩
theorem Uy{p:AV K->AV K->Prop}:∀(ds:List Nat)(vs vs' tm tm':List (AV K)),vs.length=vs'.length->tm.length=tm'.length->(∀(i:Nat) v v',vs[i]?=some v->vs'[i]?=some v'->p v v')->(∀(t:Nat) v v',tm[t]?=some v->tm'[t]?=some v'->p v v')->
 ∀(t:Nat) v v',(dn tm ds vs)[t]?=some v->(dn tm' ds vs')[t]?=some v'->p v v'
 |[],vs,vs',tm,tm',h1,h2,h3,h4,t,v,v',g1,g2=>h4 t v v' (by simpa [dn]using g1) (by simpa [dn]using g2)
 |d::r,[],[],tm,tm',h1,h2,h3,h4,t,v,v',g1,g2=>h4 t v v' (by simpa [dn]using g1) (by simpa [dn]using g2)
 |d::r,[],_::_,tm,tm',h1,h2,h3,h4,t,v,v',g1,g2=>by simp at h1
 |d::r,_::_,[],tm,tm',h1,h2,h3,h4,t,v,v',g1,g2=>by simp at h1
 |d::r,x::vs,x'::vs',tm,tm',h1,h2,h3,h4,t,v,v',g1,g2=>by
  simp only[dn]at g1 g2;refine Uy r vs vs' _ _ (by simpa using h1) (by simpa using h2) (fun i a b ha hb=>h3 (i+1) a b (by simpa using ha) (by simpa using hb)) (fun k a b ha hb=>?_) t v v' g1 g2;rcases dD ha with⟨rfl,rfl,-⟩|⟨hne,ha⟩
  ·rcases dD hb with⟨-,rfl,-⟩|⟨hne,-⟩
   ·exact h3 0 _ _ rfl rfl
   ·exact absurd rfl hne
  ·rcases dD hb with⟨rfl,-⟩|⟨-,hb⟩
   ·exact absurd rfl hne
   ·exact h4 k a b ha hb
theorem ta{f:Nat->Option Nat}:∀(l l':List (AV K)),ij f l=some l'->l'.length=l.length/\∀(i:Nat) v',l'[i]?=some v'->∃v,l[i]?=some v/\dV f v=some v'
 |[],l',h=>by simp[ij]at h;subst h;simp
 |x::l,l',h=>by
  simp only[ij]at h;split at h
  ·rename_i y m h1 h2;simp only[ak]at h;subst h;obtain⟨g1,g2⟩:=ta l m h2;refine⟨by simp[g1],fun i v' hi=>?_⟩;cases i with
   |zero=>simp at hi;subst hi;exact⟨x,rfl,h1⟩
   |succ i=>simp at hi;obtain⟨v,q1,q2⟩:=g2 i v' hi;exact⟨v,by simpa using q1,q2⟩
  ·cases h
theorem agC{f:Nat->Option Nat}{v v':AV K}(h:dV f v=some v'):v'.il=false:=by
 cases v<;>simp only[dV,dB,ak]at h<;>first
  |(subst h;rfl)
  |(obtain⟨a,-,rfl⟩:=h;rfl)
  |cases h
theorem Uz{n:Nat}{ds:List Nat}{l l':List (AV K)}{f:Nat->Option Nat}(h:ij f l=some l'):cK (dn (List.replicate n .any) ds l'):=fun t g b v e=>by
 rcases wh ds l' _ t _ e with h1|⟨i,-,h2⟩
 ·rw[gh]at h1;split at h1<;>cases h1
 ·obtain⟨v0,-,q⟩:=(ta l l' h).2 i _ h2;have:=agC q;simp[AV.il]at this
theorem IF{D:aY K}{n:Nat}{ds:List Nat}{vs:List (AV K)}{tmps:Array Value}(hn:tmps.size=n)(h:∀(i t:Nat) v x,ds[i]?=some t->vs[i]?=some v->tmps[t]?=some x->Rep D ρ S w v x):dI D ρ S w (dn (List.replicate n .any) ds vs) tmps:=
 ⟨by rw[s9];simp[hn],fun t v x hv hx=>.i4 (by
   rcases wh ds vs _ t v hv with h1|⟨i,h1,h2⟩
   ·rw[gh]at h1;split at h1
    ·simp at h1;subst h1;exact .any x
    ·cases h1
   ·exact h i t v x h1 h2 hx)⟩
theorem UA{cx:Cx K}(hD:bh cx.D){c:Code}{L:bQ K}{n0:Nat}{st st':St K}{m:List Nat}{vals vs:List (AV K)}{Hi Ho:List (Ob K)}{e:Ex}(hn:st.tm.length=L.n)(h0:cK st.tm)
 (hin:inLoop st.H (L.ins.map fun t=>st.tm.getD t .any)=some (m,vals,Hi)) (hout:B9 L m st vs Ho=some st')
 (htr:Tr cx Hi.length (.loop c) ⟨dn (List.replicate L.n .any) L.ins vals,Hi,true⟩ e ⟨dn (List.replicate L.n .any) L.outs vs,Ho,true⟩):cK st'.tm/\Tr cx n0 (.loop c) st e st':=by
 unfold inLoop at hin;split at hin
 ·rename_i hp;split at hin
  ·rename_i jw Hi' hv hH;simp only[ak,aS]at hin;obtain⟨rfl,rfl,rfl⟩:=hin;unfold B9 at hout;split at hout
   ·rename_i vs' fH hvs Hy;split at hout
    ·rename_i hle;simp only[ak]at hout;subst hout;refine⟨Uz hvs,fun ρ S a w hn0 ba=>?_⟩;obtain⟨s1,s2,s3,s4⟩:=Ti hD ba.heap hp hH;have hrs:=Hq (ρ:=ρ) (m:=reach st.H 64 (bo (L.ins.map fun t=>st.tm.getD t .any)) []) (fun i h hi=>by rw[ba.heap.len];exact(ye _ hp).1 i h hi);have hsize:a.tmps.size=L.n:=by rw[<-hn,ba.slots.len]
     have dQ:Sat cx (qC ρ (reach st.H 64 (bo (L.ins.map fun t=>st.tm.getD t .any)) [])) S a w ⟨dn (List.replicate L.n .any) L.ins jw,Hi',true⟩:=⟨s1,IF hsize fun i t v x g1 g2 g3=>by
      obtain⟨v0,q1,q2⟩:=(ta _ _ hv).2 i v g2;simp only[fu,g1,ka,ak]at q1;subst q1;refine qA hD s4 _ v x q2 ?_;rw[fR];cases hg:st.tm[t]? with
      |none=>exact .any x
      |some v1=>exact ba.slots.rep h0 hg g3,ba.defers⟩
     refine wp_mono (htr _ S a w (bn _) dQ) fun e' a' w'=>?_
     rintro ⟨he,agE,ρo,So,hso,hst⟩
     obtain⟨j1,j2,j3⟩:=join hD ba.heap hp hrs s2 s3 s1 hso.heap hst agE Hy;refine⟨he,?_,_,So,⟨j1,?_,hso.defers⟩,j2.weaken hn0⟩
     ·have:=j2.grow ba.heap j1 (bn _);dsimp only at this⊢;omega
     ·refine⟨by rw[s9];have:=hso.slots.len;rw[s9]at this;exact this,fun t v x hv' hx=>?_⟩;have hlt:t<(dn (List.replicate L.n .any) L.outs vs).length:=by
       have:=(bg.1 hv').1;rw[s9]at this⊢;exact this
      have hg:=bI hlt;have hrep:dx cx.D ρo So w' a'.tmps _ x:=hso.slots.ok t _ x hg hx;have hrel:=Uy (p:=fun v v'=>v'=.any\/dV (fun h=>(fk (reach st.H 64 (bo (L.ins.map fun t=>st.tm.getD t .any)) []) st.H.length Ho.length)[h]?) v=some v') L.outs vs vs' (List.replicate L.n .any) (List.replicate L.n .any)
       (ta _ _ hvs).1.symm rfl (fun i v v' h1 h2=>by
         obtain⟨v0,q1,q2⟩:=(ta _ _ hvs).2 i v' h2;rw[h1]at q1;simp at q1;subst q1;exact .inr q2) (fun t v v' h1 h2=>by
         rw[gh]at h2;split at h2
         ·simp at h2;exact .inl h2.symm
         ·cases h2) t _ v hg hv'
      rcases hrel with rfl|hrel
      ·exact .i4 (.any x)
      ·refine .i4 (qA hD j3 _ v x hrel ?_);generalize (dn (List.replicate L.n .any) L.outs vs)[t]=y at hrep hrel;cases y with
       |opt=>simp[dV]at hrel
       |_=>exact hrep
    ·cases hout
   ·cases hout
  ·cases hin
 ·cases hin
theorem nB{cx:Cx K}(hD:bh cx.D)(hc:aF cx)(hm:cx.P.follows .mixedOrders=true):∀(c:Code),iM cx c->∀{R:Type}(st:St K)(k:Ex->St K->Option R)(r:R),eL cx c st k=some r->
 ∃e st',k e st'=some r/\(st'.ok=true->st.ok=true)/\(st'.ok=true->cK st.tm->cK st'.tm/\∀n0,Tr cx n0 c st e st')
 |.skip,_,R,st,k,r,h=>⟨.normal,st,h,id,fun _ h0=>⟨h0,fun n0 ρ S a w hn ba=>wp_skip ⟨rfl,hn,ρ,S,ba,Step.refl⟩⟩⟩
 |.exit id,_,R,st,k,r,h=>⟨.exit id,st,h,fun h=>h,fun _ h0=>⟨h0,fun n0 ρ S a w hn ba=>wp_exit ⟨rfl,hn,ρ,S,ba,Step.refl⟩⟩⟩
 |.ret,_,R,st,k,r,h=>⟨.ret,st,h,fun h=>h,fun _ h0=>⟨h0,fun n0 ρ S a w hn ba=>wp_ret ⟨rfl,hn,ρ,S,ba,Step.refl⟩⟩⟩
 |.region id ops draw,_,R,st,k,r,h=>by
   simp only[eL]at h;split at h
   ·rename_i st' hr;have:=fun n0=>Iz (id:=id) (n0:=n0) hD hc hm hr
    exact⟨.normal,st',h,(this 0).1,fun hok h0=>⟨((this 0).2 hok h0).1,fun n0=>((this n0).2 hok h0).2⟩⟩
   ·split at h
    ·rename_i b s1 s2 hsp;obtain⟨t,h1,h2⟩:=Ce _ hsp;have key:∀(x:Bool)(s':St K),kn {cx with gs:=some (t,x)} ops.toList draw st=some s'->k .normal s'=some r->
      ∃e st',k e st'=some r/\(st'.ok=true->st.ok=true)/\(st'.ok=true->cK st.tm->cK st'.tm/\∀n0,Tr cx n0 (.region id ops draw) st e st'):=fun x s' hr hk=>by
      have:=fun n0=>Iz (cx:={cx with gs:=some (t,x)}) (id:=id) (n0:=n0) hD hc hm hr
      exact⟨.normal,s',hk,(this 0).1,fun hok h0=>⟨((this 0).2 hok h0).1,fun n0=>(((this n0).2 hok h0).2).gs⟩⟩
     cases b with
     |true=>exact key true s1 h1 h
     |false=>exact key false s2 h2 h
    ·split at h
     ·cases h
     ·split at h
      ·rename_i s1 s2 h1 h2;have key:∀(x:Bool)(s':St K),kn {cx with call:=cx.alt x,mode:=cx.B0 x} ops.toList draw st=some s'->k .normal s'=some r->
        ∃e st',k e st'=some r/\(st'.ok=true->st.ok=true)/\(st'.ok=true->cK st.tm->cK st'.tm/\∀n0,Tr cx n0 (.region id ops draw) st e st'):=fun x s' hr hk=>by
        have:=fun n0=>Iz (cx:={cx with call:=cx.alt x,mode:=cx.B0 x}) (id:=id) (n0:=n0) hD ⟨hc.2.1 x,hc.2⟩ hm hr
        exact⟨.normal,s',hk,(this 0).1,fun hok h0=>⟨((this 0).2 hok h0).1,fun n0=>(((this n0).2 hok h0).2).call⟩⟩
       rcases hc.2.2 _ _ _ _ h with h|h
       ·exact key true s1 h1 h
       ·exact key false s2 h2 h
      ·cases h
 |.seq a b,hl,R,st,k,r,h=>by
   simp only[eL]at h;obtain⟨e1,s1,h1,ok1,t1⟩:=nB hD hc hm a hl.1 st _ r h;cases e1 with
   |normal=>
    obtain⟨e2,s2,h2,ok2,t2⟩:=nB hD hc hm b hl.2 s1 k r h1;refine⟨e2,s2,h2,fun hk=>ok1 (ok2 hk),fun hk h0=>?_⟩;obtain⟨n1,q1⟩:=t1 (ok2 hk) h0;obtain⟨n2,q2⟩:=t2 hk n1;refine⟨n2,fun n0 ρ S a' w hn ba=>wp_seq (wp_mono (q1 n0 ρ S a' w hn ba) ?_)⟩
    rintro e a2 w2 ⟨rfl,hn1,ρ1,S1,dQ,hst1⟩
    refine wp_mono (q2 n0 ρ1 S1 a2 w2 hn1 dQ) ?_
    rintro e a3 w3 ⟨rfl,hn2,ρ2,S2,yF,hst2⟩
    exact⟨rfl,hn2,ρ2,S2,yF,hst1.trans hst2⟩
   |exit id=>
    refine⟨.exit id,s1,h1,ok1,fun hk h0=>⟨(t1 hk h0).1,fun n0 ρ S a' w hn ba=>wp_seq (wp_mono ((t1 hk h0).2 n0 ρ S a' w hn ba) ?_)⟩⟩
    rintro e a2 w2 ⟨rfl,q⟩
    exact⟨rfl,q⟩
   |ret=>
    refine⟨.ret,s1,h1,ok1,fun hk h0=>⟨(t1 hk h0).1,fun n0 ρ S a' w hn ba=>wp_seq (wp_mono ((t1 hk h0).2 n0 ρ S a' w hn ba) ?_)⟩⟩
    rintro e a2 w2 ⟨rfl,q⟩
    exact⟨rfl,q⟩
 |.cond c a b,hl,R,st,k,r,h=>by
   simp only[eL]at h;split at h
   ·rename_i t ht;have hev:∀{ρ S a' w},Sat cx ρ S a' w st->a'.eval c=.bool t:=fun{ρ S a' w} ba=>by
     have:=BH ba.slots (gs:=[]) (fun p hp=>by simp at hp) c;rw[ht]at this;generalize a'.eval c=y at this;cases this;rfl
    split at h
    ·rename_i hs;simp only[aU]at hs;split at h
     ·rename_i sa sb ha hb;obtain⟨s1,g1,q1⟩:=we a hs.1 st _ sa ha;obtain⟨s2,g2,q2⟩:=we b hs.2 st _ sb hb;simp only[wa,ak]at g1 g2;subst g1;subst g2;obtain⟨e1,s1',c1,ok1,t1⟩:=nB hD hc hm a hl.1 st _ s1 ha;obtain⟨e2,s2',c2,ok2,t2⟩:=nB hD hc hm b hl.2 st _ s2 hb;cases e1<;>simp only[wa,ak]at c1<;>try cases c1
      cases e2<;>simp only[wa,ak]at c2<;>try cases c2
      have hks:∀{x y:Bool},((x|| !t)&&(y||t))=true->(t=true->x=true)/\(t=false->y=true):=fun{x y} hk=>by
       cases t<;>simpa using hk
      refine⟨.normal,_,h,fun hk=>?_,fun hk h0=>⟨agB h0,fun n0 ρ S a' w hn ba=>wp_cond (hev ba) ?_⟩⟩
      ·cases ht':t
       ·exact ok2 ((hks hk).2 ht')
       ·exact ok1 ((hks hk).1 ht')
      ·have fin:∀e' a' w',(e'=Ex.normal.lS/\n0<=(cond t s1 s2).H.length/\∃ρ' S',Sat cx ρ' S' a' w' (cond t s1 s2)/\Step cx.D n0 ρ S st.H w ρ' S' (cond t s1 s2).H w')->cK (cond t s1.tm s2.tm)->
        (e'=Ex.normal.lS/\n0<=st.H.length/\∃ρ' S',Sat cx ρ' S' a' w' ⟨iq t (writes a++writes b) 0 st.tm s1.tm s2.tm,st.H,(s1.ok|| !t)&&(s2.ok||t)⟩/\Step cx.D n0 ρ S st.H w ρ' S' st.H w'):=by
        rintro e' a2 w2 ⟨he,hn1,ρ1,S1,dQ,hst1⟩ hno
        have hH:(cond t s1 s2).H=st.H:=by cases t;exact q2.H;exact q1.H
        rw[hH]at hn1 hst1;refine⟨he,hn1,ρ1,S1,⟨by have:=dQ.heap;rw[hH]at this;exact this,?_,dQ.defers⟩,hst1⟩;exact agA hno q1.len q2.len (fun i hi=>q1.rest i fun h'=>hi (by simp[h'])) (fun i hi=>q2.rest i fun h'=>hi (by simp[h'])) (by have:=dQ.slots;cases t<;>exact this)
       cases ht':t<;>rw[ht']at fin
       ·obtain⟨n2,r2⟩:=t2 ((hks hk).2 ht') h0;exact wp_mono (r2 n0 ρ S a' w hn ba) fun e' a2 w2 q=>fin e' a2 w2 q n2
       ·obtain⟨n1,r1⟩:=t1 ((hks hk).1 ht') h0;exact wp_mono (r1 n0 ρ S a' w hn ba) fun e' a2 w2 q=>fin e' a2 w2 q n1
     ·cases h
    ·cases t
     ·obtain⟨e,s,h1,ok1,t1⟩:=nB hD hc hm b hl.2 st k r h;exact⟨e,s,h1,ok1,fun hk h0=>⟨(t1 hk h0).1,fun n0 ρ S a' w hn ba=>wp_cond (hev ba) ((t1 hk h0).2 n0 ρ S a' w hn ba)⟩⟩
     ·obtain⟨e,s,h1,ok1,t1⟩:=nB hD hc hm a hl.1 st k r h;exact⟨e,s,h1,ok1,fun hk h0=>⟨(t1 hk h0).1,fun n0 ρ S a' w hn ba=>wp_cond (hev ba) ((t1 hk h0).2 n0 ρ S a' w hn ba)⟩⟩
   ·cases h
 |.block id c,hl,R,st,k,r,h=>by
   simp only[eL]at h;obtain⟨e1,s1,h1,ok1,t1⟩:=nB hD hc hm c hl st _ r h;cases e1 with
   |normal=>
    refine⟨.normal,s1,h1,ok1,fun hk h0=>⟨(t1 hk h0).1,fun n0 ρ S a' w hn ba=>wp_block (wp_mono ((t1 hk h0).2 n0 ρ S a' w hn ba) ?_)⟩⟩
    rintro e a2 w2 ⟨rfl,q⟩
    exact⟨rfl,q⟩
   |ret=>
    refine⟨.ret,s1,h1,ok1,fun hk h0=>⟨(t1 hk h0).1,fun n0 ρ S a' w hn ba=>wp_block (wp_mono ((t1 hk h0).2 n0 ρ S a' w hn ba) ?_)⟩⟩
    rintro e a2 w2 ⟨rfl,q⟩
    exact⟨rfl,q⟩
   |exit i=>
    dsimp only at h1;split at h1
    ·rename_i hid;refine⟨.normal,s1,h1,ok1,fun hk h0=>⟨(t1 hk h0).1,fun n0 ρ S a' w hn ba=>wp_block (wp_mono ((t1 hk h0).2 n0 ρ S a' w hn ba) ?_)⟩⟩
     rintro e a2 w2 ⟨rfl,q⟩
     subst hid;show(if i=i then _ else _)
     rw[bG rfl];exact⟨rfl,q⟩
    ·rename_i hid;refine⟨.exit i,s1,h1,ok1,fun hk h0=>⟨(t1 hk h0).1,fun n0 ρ S a' w hn ba=>wp_block (wp_mono ((t1 hk h0).2 n0 ρ S a' w hn ba) ?_)⟩⟩
     rintro e a2 w2 ⟨rfl,q⟩
     show(if i=id then _ else _)
     rw[bH hid];exact⟨rfl,q⟩
 |.loop c,hl,R,st,k,r,h=>by
   simp only[eL]at h;split at h
   ·rename_i L hL;split at h
    ·rename_i hn;split at h
     ·rename_i m vals Hi hin;obtain⟨e,vs,Ho,h1,htr⟩:=hl L hL vals Hi R _ r h;split at h1
      ·rename_i st' hout;refine⟨e,st',h1,?_,fun hk h0=>?_⟩
       ·unfold B9 at hout;split at hout
        ·split at hout
         ·simp only[ak]at hout;subst hout;exact id
         ·cases hout
        ·cases hout
       ·exact⟨(UA (n0:=0) hD hn h0 hin hout htr).1,fun n0=>(UA (n0:=n0) hD hn h0 hin hout htr).2⟩
      ·cases h1
     ·cases h
    ·cases h
   ·cases h
 |.scope ..,_,R,st,k,r,h=>by simp[eL]at h
 |.rangeFunc ..,_,R,st,k,r,h=>by simp[eL]at h
 |.goto ..,_,R,st,k,r,h=>by simp[eL]at h
 |.label ..,_,R,st,k,r,h=>by simp[eL]at h
 |.refuse ..,_,R,st,k,r,h=>by simp[eL]at h
end Go.V
