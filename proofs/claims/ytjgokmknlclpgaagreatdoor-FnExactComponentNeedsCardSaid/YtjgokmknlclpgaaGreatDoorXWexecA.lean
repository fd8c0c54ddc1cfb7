/-
  CODE: what 'execC' yields is what the machine does.
-/
import Derived.Test.YtjgokmknlclpgaaGreatDoorXWperm
set_option linter.unusedVariables false
namespace Go.V
open Go
variable{K :Jc}{ρ ρ':List Value}{S S':Nat->Prop}{w w':World}{H H':List (Ob K)}
def Tr(cx:Cx K)(n0:Nat)(c:Code)(st:St K)(e:Ex)(st':St K):Prop:=
 ∀(ρ:List Value)(S:Nat->Prop)(a:Act)(w:World),n0<=st.H.length->Sat cx ρ S a w st->
  c.wp cx.P (fun e' a' w'=>e'=e.PW/\n0<=st'.H.length/\∃ρ' S',Sat cx ρ' S' a' w' st'/\Step cx.D n0 ρ S st.H w ρ' S' st'.H w') a w
theorem Step.drew{D:nz K}{n0 n:Nat}{ρ ρ':List Value}{S S':Nat->Prop}{w w':World}{H H':List (Ob K)}(h:Step D n0 ρ S H {w with drawn:=n} ρ' S' H' w'):Step D n0 ρ S H w ρ' S' H' w':=
 have g:∀b,Own D {w with drawn:=n} ρ H b->Own D w ρ H b:=fun b h=>h.old fun _ _=>rfl
 ⟨h.os,h.tape,h.output,h.size,fun b hb hn=>h.old b hb fun hO=>hn (g b hO),fun b hb=>(h.own b hb).imp (g b) id,h.s1,fun b hb=>(h.s2 b hb).imp id (Or.imp (g b) id),h.pre⟩
theorem Sat.drawn{cx:Cx K}{a:Act}{st:St K}(h:Sat cx ρ S a w st)(n:Nat):Sat cx ρ S a {w with drawn:=n} st:=
 ⟨h.heap.world (iM _) (fun _ _=>rfl) (fun _ _=>rfl),rW.mono (w:=w) (w':={w with drawn:=n}) (fun _ h=>h) (fun _ _=>rfl) (fun _ _ h=>h) h.slots,h.defers⟩
theorem aq6{cx:Cx K}{ops:List Oper}:∀(l:List Oper)(st st':St K)(wr wr':List Nat),G7 cx ops l st wr=some (st',wr')->RZ st.tm wr->RZ st'.tm wr'
 |[],st,st',wr,wr',h,ho=>by simp only[G7,dS,iQ]at h;obtain⟨rfl,rfl⟩:=h;exact ho
 |o::r,st,st',wr,wr',h,ho=>by
  simp only[G7]at h;split at h
  ·rename_i st1 wr1 h1;refine aq6 r st1 st' wr1 wr' h ?_;unfold atW at h1;split at h1
   ·rename_i v H1 c hsv;obtain⟨-,-,p3⟩:=CP h1;rcases p3 with⟨e1,e2,e3⟩|⟨d,e1,e2,e3,e4,e5⟩
    ·rw[e2,e3];exact ho
    ·rw[e4,e5];exact ho.put (Iw hsv)
   ·cases h1
  ·cases h
theorem avy{cx:Cx K}{op:Op}(h:nG cx op=true):G6 cx op=true:=by
 unfold G6;split
 ·rfl
 ·simp only[nG]at h;simp[h]
 ·simp only[nG,lS]at h;simp[h.1]
 ·exact h
theorem SQ{cx:Cx K}{ops:List Oper}{π:List Nat}{st st':St K}(h:ajr cx ops π st=some st'):axA π ops.length=true/\DK cx (permuted π ops) st=some st':=by
 unfold ajr at h;split at h
 ·rename_i hp;exact⟨hp,h⟩
 ·cases h
theorem aju{cx:Cx K}{ops:List Oper}{st st':St K}(h:ay8 cx ops st=some st'):DK cx ops st=some st'\/∃π,axA π ops.length=true/\DK cx (permuted π ops) st=some st':=by
 unfold ay8 at h;split at h
 ·split at h
  ·rename_i r hr;simp only[dS]at h;subst h;exact .inl hr
  ·exact .inr ⟨_,SQ h⟩
 ·split at h
  ·rename_i r hr;simp only[dS]at h;subst h;exact .inr ⟨_,SQ hr⟩
  ·exact .inr ⟨_,SQ h⟩
theorem atZ{cx:Cx K}(hD:dX cx.D)(hc:aJ cx){n0:Nat}{ops:Array Oper}{st st':St K}(h:DK cx ops.toList st=some st'):
 (st'.ok=true->st.ok=true)/\(st'.ok=true->kM st.tm->kM st'.tm/\∀(ρ:List Value)(S:Nat->Prop)(a:Act)(w:World),n0<=st.H.length->Sat cx ρ S a w st->
   wpAny cx.P .any ops (fun e' a' w'=>e'=Ex.normal.PW/\n0<=st'.H.length/\∃ρ' S',Sat cx ρ' S' a' w' st'/\Step cx.D n0 ρ S st.H w ρ' S' st'.H w') ops.size (Array.replicate ops.size false) a {w with drawn:=w.drawn+1}):=by
 unfold DK at h;split at h
 ·rename_i hsm;simp only[lS]at hsm;split at h
  ·rename_i s1 wr hr;simp only[dS]at h;subst h;have hk:=ag5 _ _ _ _ _ _ hr;refine⟨fun hok=>(hk hok).1,fun hok h0=>?_⟩;obtain⟨vals,hd,hwr⟩:=avv hr hok;have hH:=(hk hok).2;have avw:∀(i:Nat) o,ops.toList[i]?=some o->G6 cx o.op=true:=fun i o ho=>
    zG.1 hsm.1 o (PS ho)
   have alC:RZ s1.tm wr:=fun t g b v e=>by
    rcases alB ops.toList t with hn|⟨k,o,hk1,hk2⟩
    ·rw[hd.rest t hn]at e;exact absurd e (h0 t g b v)
    ·rw[hd.fin k o t hk1 hk2]at e;refine⟨(hwr t).2 ⟨k,o,hk1,hk2⟩,?_⟩;obtain⟨Ht,VR,H1,q1,q2,q3,q4,q5⟩:=hd.slot k o hk1;simp only[dS]at e;rw[e]at q1;obtain⟨k',o',-,c2,c3⟩:=q5 g (Iw q1 g b v rfl);exact(hwr g).2 ⟨k',o',c2,c3⟩
   refine⟨kM.wipe alC,fun ρ S a w hn gz=>?_⟩;have ajv:=gz.drawn (w.drawn+1);have hall:ops=ops.toList.toArray:=by simp
   have hmid:Mid cx ops.toList st.tm vals st.H ρ S (Array.replicate ops.size false) a {w with drawn:=w.drawn+1}:=by
    have hf:∀(k:Nat),(Array.replicate ops.size false)[k]?≠some true:=fun k e=>by
     rw[aAt]at e;split at e<;>simp at e
    refine⟨ajv.heap,ajv.defers,ajv.slots.len.symm,by simp,fun t v x hn1 h1 h2=>?_,fun k o d x h1 h2=>absurd h2 (hf k),fun k g b y h1=>absurd h1 (hf k),fun k o h1 h2=>absurd h2 (hf k)⟩;have:=ajv.slots.ok t v x h1 h2;cases v with
    |opt g b y=>exact absurd h1 (h0 t g b y)
    |_=>exact this
   rw[hH];have key:=aDG hD hc avw hsm.2 hd h0 (n0:=n0) hn (Q:=fun e' a' w'=>e'=Ex.normal.PW/\n0<=st.H.length/\∃ρ' S',Sat cx ρ' S' a' w' ⟨uC s1.tm wr,st.H,s1.ok⟩/\Step cx.D n0 ρ S st.H w ρ' S' st.H w') ops.size (Array.replicate ops.size false) ρ S a {w with drawn:=w.drawn+1} hmid (aq5 _) fun ρ' S' a' w' g1 g2 g3 g4=>by
    exact⟨rfl,hn,ρ',S',⟨g1,g2.wipe _ _,g3⟩,g4.drew⟩
   rw[<-hall]at key;exact key
  ·cases h
 ·split at h
  ·rename_i hed;split at h
   ·rename_i s1 wr hr;simp only[dS]at h;subst h;refine⟨fun hok=>ag6 _ _ _ _ _ _ _ _ hr hok,fun hok h0=>?_⟩;obtain⟨F,ms,ws,hp⟩:=avz hr hok;have alC:RZ s1.tm wr:=fun t g b v e=>by
     rcases alB ops.toList t with hn|⟨k,o,hk1,hk2⟩
     ·rw[hp.rest t fun k o _ h=>hn k o h]at e;exact absurd e (h0 t g b v)
     ·have hkL:=(wG.1 hk1).1;rw[hp.fin k o t hkL hk1 hk2]at e;refine⟨(hp.wrs t).2 ⟨k,o,hkL,hk1,hk2⟩,?_⟩;obtain⟨Ht,VR,fs⟩:=hp.slot k o hkL hk1;simp only[dS]at e;have q1:=fs.slot;rw[e]at q1;have hg:g∈VR:=by
       unfold atX at q1;split at q1
       ·exact Iw q1 g b v rfl
       ·split at q1
        ·exact Iw q1 g b v rfl
        ·cases q1
      obtain⟨k',o',c1,c2,c3⟩:=fs.VR g hg;exact(hp.wrs g).2 ⟨k',o',by omega,c2,c3⟩
    refine⟨kM.wipe alC,fun ρ S a w hn gz=>?_⟩;have ajv:=gz.drawn (w.drawn+1);have hall:ops=ops.toList.toArray:=by simp
    have hmid:=adY.start hp ajv.heap ajv.defers ajv.slots h0;have aKu:=Step.pad (n:=s1.H.length) (n0:=n0) ajv.heap hn;have key:=aDH hD hc hed hp (n0:=n0) hn (Q:=fun e' a' w'=>e'=Ex.normal.PW/\n0<=s1.H.length/\∃ρ' S',Sat cx ρ' S' a' w' ⟨uC s1.tm wr,s1.H,s1.ok⟩/\Step cx.D n0 ρ S st.H w ρ' S' s1.H w') ops.size (Array.replicate ops.toList.length false) _ _ S a {w with drawn:=w.drawn+1} hmid (by have:=aq5 ops.toList.length;simpa using this) fun ρ' S' a' w' g1 g2 g3 g4=>by
     have g5:=aKu.trans g4;exact⟨rfl,lH hn hp.len0,ρ',S',⟨g1,g2.wipe _ _,g3⟩,g5.drew⟩
    rw[<-hall]at key;simpa using key
   ·cases h
  ·cases h
theorem alD{cx:Cx K}(hD:dX cx.D)(hc:aJ cx)(hm:cx.P.follows .mixedOrders=true){n0:Nat}{id:Nat}{ops:Array Oper}{draw:Bool}{st st':St K}(h:sN cx ops.toList draw st=some st'):
 (st'.ok=true->st.ok=true)/\(st'.ok=true->kM st.tm->kM st'.tm/\Tr cx n0 (.region id ops draw) st .normal st'):=by
 unfold sN at h;split at h
 ·rename_i hdr;subst hdr;rcases aju h with h|⟨π,hp,h⟩
  ·obtain⟨h1,h2⟩:=atZ (n0:=n0) hD hc h;refine⟨h1,fun hok h0=>⟨(h2 hok h0).1,fun ρ S a w hn gz=>wp_region_any hm ((h2 hok h0).2 ρ S a w hn gz)⟩⟩
  ·have hp':=amX hp;have e:ops.toList.toArray=ops:=by simp
   rw[e]at hp';have h':DK cx ((permuted π ops.toList).toArray).toList st=some st':=h;obtain⟨h1,h2⟩:=atZ (n0:=n0) hD hc h';refine⟨h1,fun hok h0=>⟨(h2 hok h0).1,fun ρ S a w hn gz=>wp_region_any hm ?_⟩⟩;have:=(h2 hok h0).2 ρ S a w hn gz;rw[hp'.len']at this;exact azc hp' _ _ _ _ _ ⟨by simp,by simp,fun j i hj=>by
    obtain⟨o,ho,ho'⟩:=hp'.ops j i hj;have hi:=(adV.1 ho).1;have hj':=(adV.1 ho').1;rw[hp'.len']at hj';rw[aAt,aAt,bI hi,bI hj']⟩ this
 ·rename_i hdr;split at h
  ·rename_i s1 wr hr;simp only[dS]at h;subst h;refine⟨fun hok=>alE _ _ _ _ _ hr hok,fun hok h0=>?_⟩;refine⟨kM.wipe (aq6 _ _ _ _ _ hr h0.in),fun ρ S a w hn gz=>?_⟩;have hdr':draw=false:=by simpa using hdr
   subst hdr';refine wp_region_list ?_;have key:=at1 (n0:=n0) hD hc ops.toList st s1 [] wr ρ S a w hr hok gz h0.in hn (Q:=fun e' a' w'=>e'=Ex.normal.PW/\n0<=s1.H.length/\∃ρ' S',Sat cx ρ' S' a' w' ⟨uC s1.tm wr,s1.H,s1.ok⟩/\Step cx.D n0 ρ S st.H w ρ' S' s1.H w') fun ρ' S' a' w' g1 g2 g3=>
    ⟨rfl,g3.grow gz.heap g1.heap hn,ρ',S',⟨g1.heap,g1.slots.wipe _ _,g1.defers⟩,g3⟩
   exact key
  ·cases h
theorem WR:∀(wr:List Nat)(tm:List (AV K))(t:Nat),t∉wr->(uC tm wr)[t]?=tm[t]?
 |[],tm,t,h=>rfl
 |d::r,tm,t,h=>by
  simp only[AB,not_or]at h;simp only[uC];split
  ·rw[WR r _ t h.2,List.getElem?_set_ne (acg h.1)]
  ·exact WR r tm t h.2
theorem PY:∀(wr:List Nat)(tm:List (AV K)),(uC tm wr).length=tm.length
 |[],tm=>rfl
 |d::r,tm=>by
  simp only[uC];split
  ·rw[PY r];simp
  ·exact PY r tm
theorem avA{q:Bool}{cx:Cx K}{ops:List Oper}{tm:List (AV K)}{wr:List Nat}{o:Oper}{v:AV K}{c:Bool}(hs:nG cx o.op=true)(h:ET q cx ops tm H wr o=some (v,H',c)):H'=H:=by
 unfold ET at h;split at h
 ·cases h
 ·split at h
  ·rename_i hy;split at h
   ·cases h
   ·simp only[dS,iQ]at h;obtain⟨-,rfl,-⟩:=h;exact axF hs hy
  ·cases h
 ·split at h
  ·split at h
   ·split at h
    ·split at h
     ·rename_i hy;split at h
      ·cases h
      ·simp only[dS,iQ]at h;obtain⟨-,rfl,-⟩:=h;exact axF hs hy
     ·cases h
    ·simp only[dS,iQ]at h;exact h.2.1.symm
   ·cases h
  split at h
  ·cases h
  ·split at h
   ·split at h
    ·simp only[dS,iQ]at h;exact h.2.1.symm
    ·cases h
   ·cases h
structure Quiet (st st':St K) (wr:List Nat):Prop where
 H:st'.H=st.H
 len:st'.tm.length=st.tm.length
 rest:∀t,t∉wr->st'.tm[t]?=st.tm[t]?
theorem aq7{st st':St K}{wr wr' ds:List Nat}{dst:Option Nat}{v:AV K}{ok:Bool}(h:ay6 st wr dst v st.H ok=some (st',wr'))(hd:∀d,dst=some d->d∈ds)(hw:∀d∈wr,d∈ds):Quiet st st' ds/\∀d∈wr',d∈ds:=by
 obtain⟨p1,p2,p3⟩:=CP h;rcases p3 with⟨e1,e2,e3⟩|⟨d,e1,e2,e3,e4,e5⟩
 ·exact⟨⟨p1,by rw[e2],fun t _=>by rw[e2]⟩,by rw[e3];exact hw⟩
 ·refine⟨⟨p1,by rw[e4];simp,fun t ht=>?_⟩,fun d' hd'=>?_⟩
  ·rw[e4,List.getElem?_set_ne fun e=>ht (by rw[<-e];exact hd d e1)]
  ·rw[e5]at hd';rcases AB.1 hd' with rfl|h'
   ·exact hd _ e1
   ·exact hw _ h'
theorem Quiet.trans{st st1 st2:St K}{wr:List Nat}(a:Quiet st st1 wr)(b:Quiet st1 st2 wr):Quiet st st2 wr:=
 ⟨b.H.trans a.H,b.len.trans a.len,fun t ht=>(b.rest t ht).trans (a.rest t ht)⟩
theorem Quiet.more{st st1:St K}{wr wr':List Nat}(a:Quiet st st1 wr)(h:∀d∈wr,d∈wr'):Quiet st st1 wr':=⟨a.H,a.len,fun t ht=>a.rest t fun h'=>ht (h t h')⟩
theorem ajw{cx:Cx K}{ops:List Oper}{ds:List Nat}:∀(l:List Oper)(st st':St K)(wr wr':List Nat),G7 cx ops l st wr=some (st',wr')->(∀o∈l,nG cx o.op=true)->(∀o∈l,∀d,o.dst=some d->d∈ds)->(∀d∈wr,d∈ds)->Quiet st st' ds/\∀d∈wr',d∈ds
 |[],st,st',wr,wr',h,_,_,hw=>by simp only[G7,dS,iQ]at h;obtain⟨rfl,rfl⟩:=h;exact⟨⟨rfl,rfl,fun _ _=>rfl⟩,hw⟩
 |o::r,st,st',wr,wr',h,hs,hd,hw=>by
  simp only[G7]at h;split at h
  ·rename_i st1 wr1 h1;unfold atW at h1;split at h1
   ·rename_i v H1 c hsv;have hH:=avA (hs o (by simp)) hsv;subst hH;obtain⟨q1,q2⟩:=aq7 h1 (fun d e=>hd o (by simp) d e) hw;obtain⟨q3,q4⟩:=ajw r st1 st' wr1 wr' h (fun o ho=>hs o (by simp[ho])) (fun o ho=>hd o (by simp[ho])) q2;exact⟨q1.trans q3,q4⟩
   ·cases h1
  ·cases h
theorem afC{cx:Cx K}{L:List Oper}{bs ds:List Nat}:∀(l:List Oper)(i:Nat)(st st':St K)(wr wr':List Nat),D9 cx L bs l i st wr=some (st',wr')->(∀o∈l,∀d,o.dst=some d->d∈ds)->(∀d∈wr,d∈ds)->Quiet st st' ds/\∀d∈wr',d∈ds
 |[],i,st,st',wr,wr',h,_,hw=>by simp only[D9,dS,iQ]at h;obtain⟨rfl,rfl⟩:=h;exact⟨⟨rfl,rfl,fun _ _=>rfl⟩,hw⟩
 |o::r,i,st,st',wr,wr',h,hd,hw=>by
  simp only[D9]at h;split at h
  ·split at h
   ·rename_i st1 wr1 h1;obtain⟨q1,q2⟩:=aq7 h1 (fun d e=>hd o (by simp) d e) hw;obtain⟨q3,q4⟩:=afC r _ st1 st' wr1 wr' h (fun o ho=>hd o (by simp[ho])) q2;exact⟨q1.trans q3,q4⟩
   ·cases h
  ·cases h
theorem Quiet.wipe{st st1:St K}{wr ds:List Nat}(a:Quiet st st1 ds)(h:∀d∈wr,d∈ds):Quiet st ⟨uC st1.tm wr,st1.H,st1.ok⟩ ds:=
 ⟨a.H,by simp[PY,a.len],fun t ht=>by dsimp only;rw[WR wr _ t fun h'=>ht (h t h')];exact a.rest t ht⟩
theorem Ji{cx:Cx K}{ops:List Oper}{draw:Bool}{st:St K}{b:Bool}{s1 s2:St K}:∀(l:List Nat),acA cx ops draw st l=some (b,s1,s2)->
 ∃t,sN {cx with gs:=some (t,true)} ops draw st=some s1/\sN {cx with gs:=some (t,false)} ops draw st=some s2
 |[],h=>by cases h
 |t::r,h=>by
  unfold acA at h;split at h
  ·rename_i a1 a2 h1 h2;split at h
   ·simp only[dS,iQ]at h;obtain⟨-,rfl,rfl⟩:=h;exact⟨t,h1,h2⟩
   ·exact Ji r h
  ·exact Ji r h
theorem Sat.gs{cx:Cx K}{g:Option (Nat×Bool)}{a:Act}{st:St K}(h:Sat cx ρ S a w st):Sat {cx with gs:=g} ρ S a w st:=⟨h.heap,h.slots,h.defers⟩
theorem Sat.aKv{cx:Cx K}{g:Option (Nat×Bool)}{a:Act}{st:St K}(h:Sat {cx with gs:=g} ρ S a w st):Sat cx ρ S a w st:=⟨h.heap,h.slots,h.defers⟩
theorem Tr.gs{cx:Cx K}{g:Option (Nat×Bool)}{n0:Nat}{c:Code}{st st':St K}{e:Ex}(h:Tr {cx with gs:=g} n0 c st e st'):Tr cx n0 c st e st':=fun ρ S a w hn hs=>
 wp_mono (h ρ S a w hn hs.gs) fun e' a' w' ⟨h1,h2,ρ',S',h3,h4⟩=>⟨h1,h2,ρ',S',h3.aKv,h4⟩
theorem Sat.call{cx:Cx K}{g:FuncId->List (AV K)->List (Ob K)->Option (AV K×List (Ob K)×Bool)}{m:FuncId->Mode}{a:Act}{st:St K}(h:Sat cx ρ S a w st):Sat {cx with call:=g,mode:=m} ρ S a w st:=⟨h.heap,h.slots,h.defers⟩
theorem Sat.aIn{cx:Cx K}{g:FuncId->List (AV K)->List (Ob K)->Option (AV K×List (Ob K)×Bool)}{m:FuncId->Mode}{a:Act}{st:St K}(h:Sat {cx with call:=g,mode:=m} ρ S a w st):Sat cx ρ S a w st:=⟨h.heap,h.slots,h.defers⟩
theorem Tr.call{cx:Cx K}{g:FuncId->List (AV K)->List (Ob K)->Option (AV K×List (Ob K)×Bool)}{m:FuncId->Mode}{n0:Nat}{c:Code}{st st':St K}{e:Ex}(h:Tr {cx with call:=g,mode:=m} n0 c st e st'):Tr cx n0 c st e st':=fun ρ S a w hn hs=>
 wp_mono (h ρ S a w hn hs.call) fun e' a' w' ⟨h1,h2,ρ',S',h3,h4⟩=>⟨h1,h2,ρ',S',h3.aIn,h4⟩
theorem at6{cx:Cx K}{g:Option (Nat×Bool)}:∀(o:Op),nG {cx with gs:=g} o=nG cx o:=fun o=>by
 unfold nG;rfl
theorem WS{cx:Cx K}{id:Nat}{ops:Array Oper}{draw:Bool}{st st':St K}(hs:∀o∈ops.toList,nG cx o.op=true)(hr:sN cx ops.toList draw st=some st'):Quiet st st' (writes (.region id ops draw)):=by
 have hd:∀o∈ops.toList,∀d,o.dst=some d->d∈writes (.region id ops draw):=fun o ho d hd=>by
  simp only[writes,List.mem_filterMap];exact⟨o,ho,hd⟩
 have dq:∀(L:List Oper),(∀o∈L,nG cx o.op=true)->(∀o∈L,∀d,o.dst=some d->d∈writes (.region id ops draw))->DK cx L st=some st'->Quiet st st' (writes (.region id ops draw)):=fun L hs hd hr=>by
  unfold DK at hr;split at hr
  ·split at hr
   ·rename_i s1 wr h1;simp only[dS]at hr;subst hr;obtain⟨q1,q2⟩:=afC _ _ _ _ _ _ h1 hd (by simp);exact q1.wipe q2
   ·cases hr
  ·rename_i hnq;split at hr
   ·rename_i hed;exact absurd (by rw[lS];exact⟨zG.2 fun o ho=>avy (hs o ho),hed⟩) hnq
   ·cases hr
 unfold sN at hr;split at hr
 ·rcases aju hr with hr|⟨π,hp,hr⟩
  ·exact dq _ hs hd hr
  ·have hp':=amX hp;have src:∀o∈permuted π ops.toList,∃o1∈ops.toList,o=ay7 π ops.toList.length o1:=fun o ho=>by
    obtain⟨j,hj,e⟩:=asX ho;have hjn:j<π.length:=by simpa [permuted]using hj
    obtain⟨o1,h1,h2⟩:=hp'.ops j _ (wH hjn);have h3:(permuted π ops.toList)[j]?=some o:=by rw[wH hj,e]
    have h4:=h3.symm.trans (by simpa using h2);exact⟨o1,PS (by simpa using h1),by simpa using VG h4⟩
   refine dq _ (fun o ho=>?_) (fun o ho d hod=>?_) hr
   ·obtain⟨o1,h1,rfl⟩:=src o ho;exact hs o1 h1
   ·obtain⟨o1,h1,rfl⟩:=src o ho;exact hd o1 h1 d hod
 ·split at hr
  ·rename_i s1 wr h1;simp only[dS]at hr;subst hr;obtain⟨q1,q2⟩:=ajw _ _ _ _ _ h1 hs hd (by simp);exact q1.wipe q2
  ·cases hr
theorem EW{cx:Cx K}:∀(c:Code),simple cx c=true->∀{R:Type}(st:St K)(k:Ex->St K->Option R)(r:R),yR cx c st k=some r->∃st',k .normal st'=some r/\Quiet st st' (writes c)
 |.skip,_,R,st,k,r,h=>⟨st,h,rfl,rfl,fun _ _=>rfl⟩
 |.region id ops draw,hs,R,st,k,r,h=>by
   simp only[yR]at h;have hs':∀o∈ops.toList,nG cx o.op=true:=by simpa only[simple,zG]using hs
   split at h
   ·rename_i st' hr;exact⟨st',h,WS hs' hr⟩
   ·split at h
    ·rename_i b s1 s2 hsp;obtain⟨t,h1,h2⟩:=Ji _ hsp;cases b with
     |true=>exact⟨s1,h,WS (cx:={cx with gs:=some (t,true)}) (fun o ho=>by rw[at6];exact hs' o ho) h1⟩
     |false=>exact⟨s2,h,WS (cx:={cx with gs:=some (t,false)}) (fun o ho=>by rw[at6];exact hs' o ho) h2⟩
    ·rw[bI (zG.2 hs')]at h;cases h
 |.seq a b,hs,R,st,k,r,h=>by
   simp only[simple,lS]at hs;simp only[yR]at h;obtain⟨s1,h1,q1⟩:=EW a hs.1 st _ r h;obtain⟨s2,h2,q2⟩:=EW b hs.2 s1 k r h1;exact⟨s2,h2,(q1.more fun d hd=>by simp[writes,hd]).trans (q2.more fun d hd=>by simp[writes,hd])⟩
 |.cond c a b,hs,R,st,k,r,h=>by
   have hs':=hs;simp only[simple,lS]at hs;simp only[yR]at h;split at h
   ·rename_i t ht;rw[bI (by simp[hs.1,hs.2])]at h;split at h
    ·rename_i sa sb ha hb;refine⟨_,h,?_⟩;obtain⟨s1,g1,q1⟩:=EW a hs.1 st _ sa ha;obtain⟨s2,g2,q2⟩:=EW b hs.2 st _ sb hb;simp only[Iu,dS]at g1 g2;subst g1;subst g2;have hlen:∀(wr:List Nat)(l s t':List (AV K))(n:Nat),s.length=l.length->t'.length=l.length->(uF t wr n l s t').length=l.length:=fun wr l=>by
      induction l with
      |nil=>intro s t' n h1 h2;simp at h1 h2;subst h1;subst h2;rfl
      |cons x l ih=>
       intro s t' n h1 h2;cases s with
       |nil=>simp at h1
       |cons y s=>
        cases t' with
        |nil=>simp at h2
        |cons z t'=>
         simp only[uF,jA];rw[ih s t' (n+1) (by simpa using h1) (by simpa using h2)]
     have hget:∀(wr:List Nat)(l s t':List (AV K))(n i:Nat),s.length=l.length->t'.length=l.length->n+i∉wr->(uF t wr n l s t')[i]?=l[i]?:=fun wr l=>by
      induction l with
      |nil=>intro s t' n i h1 h2 _;simp at h1 h2;subst h1;subst h2;rfl
      |cons x l ih=>
       intro s t' n i h1 h2 hni;cases s with
       |nil=>simp at h1
       |cons y s=>
        cases t' with
        |nil=>simp at h2
        |cons z t'=>
         simp only[uF];cases i with
         |zero=>simp only[Nat.add_zero]at hni;simp[hni]
         |succ i=>
          simp only[List.getElem?_cons_succ];exact ih s t' (n+1) i (by simpa using h1) (by simpa using h2) (by rw[YW,axy 1 i];exact hni)
     refine⟨rfl,hlen _ _ _ _ _ q1.len q2.len,fun i hi=>?_⟩;exact hget _ _ _ _ 0 i q1.len q2.len (by rw[Ae];simpa [writes]using hi)
    ·cases h
   ·cases h
 |.block ..,hs,R,st,k,r,h=>by simp[simple]at hs
 |.loop ..,hs,R,st,k,r,h=>by simp[simple]at hs
 |.exit ..,hs,R,st,k,r,h=>by simp[simple]at hs
 |.ret,hs,R,st,k,r,h=>by simp[simple]at hs
 |.scope ..,hs,R,st,k,r,h=>by simp[simple]at hs
 |.rangeFunc ..,hs,R,st,k,r,h=>by simp[simple]at hs
 |.goto ..,hs,R,st,k,r,h=>by simp[simple]at hs
 |.label ..,hs,R,st,k,r,h=>by simp[simple]at hs
end Go.V
namespace Go.V
open Go
variable{K :Jc}{ρ ρ':List Value}{S S':Nat->Prop}{w w':World}{H H':List (Ob K)}
def bH(cx:Cx K)(c:Code)(L:cO K):Prop:=
 ∀(vals:List (AV K))(Hi:List (Ob K))(R:Type)(k:Ex->List (AV K)->List (Ob K)->Option R)(r:R),L.run vals Hi k=some r->
  ∃e vs Ho,k e vs Ho=some r/\Tr cx Hi.length (.loop c) ⟨iE (List.replicate L.n .any) L.ins vals,Hi,true⟩ e ⟨iE (List.replicate L.n .any) L.outs vs,Ho,true⟩
def uy(cx:Cx K):Code->Prop
 |.loop c=>∀L,cx.loop (keyOf c)=some L->bH cx c L
 |.seq a b=>uy cx a/\uy cx b
 |.cond _ a b=>uy cx a/\uy cx b
 |.block _ c=>uy cx c
 |_=>True
theorem axG:∀(b:Bool)(x y:AV K),(merge b x y).Hz=false:=by
 intro b x y;cases x<;>cases y<;>simp only[merge]<;>(try split)<;>rfl
theorem acD{t:Bool}{wr:List Nat}:∀(l s s':List (AV K))(n i:Nat)(v:AV K),(uF t wr n l s s')[i]?=some v->
 (n+i∉wr/\l[i]?=some v)\/∃x y,s[i]?=some x/\s'[i]?=some y/\v=merge t x y
 |[],s,s',n,i,v,h=>by simp[uF]at h
 |x::l,[],s',n,i,v,h=>by simp[uF]at h
 |x::l,y::s,[],n,i,v,h=>by simp[uF]at h
 |x::l,y::s,z::s',n,0,v,h=>by
  simp only[uF,List.getElem?_cons_zero,dS]at h;subst h;by_cases hc:n∈wr
  ·exact .inr ⟨y,z,rfl,rfl,by simp[hc]⟩
  ·exact .inl ⟨hc,by simp[hc]⟩
 |x::l,y::s,z::s',n,i+1,v,h=>by
  simp only[uF,List.getElem?_cons_succ]at h;rcases acD l s s' (n+1) i v h with⟨h1,h2⟩|⟨a,b,h1,h2,h3⟩
  ·exact .inl ⟨by rw[axy i 1,<-YW];exact h1,by simpa using h2⟩
  ·exact .inr ⟨a,b,by simpa using h1,by simpa using h2,h3⟩
theorem amY{t:Bool}{wr:List Nat}:∀(l s s':List (AV K))(n:Nat),s.length=l.length->s'.length=l.length->(uF t wr n l s s').length=l.length
 |[],s,s',n,h1,h2=>by cases s<;>cases s'<;>simp[uF]
 |x::l,[],s',n,h1,h2=>by simp at h1
 |x::l,y::s,[],n,h1,h2=>by simp at h2
 |x::l,y::s,z::s',n,h1,h2=>by
  simp only[uF,jA];rw[amY l s s' (n+1) (by simpa using h1) (by simpa using h2)]
theorem rW.rep{D:nz K}{tm:List (AV K)}{tmps:Array Value}(h:rW D ρ S w tm tmps)(h0:kM tm){t:Nat}{v:AV K}{x:Value}(hv:tm[t]?=some v)(hx:tmps[t]?=some x):Rep D ρ S w v x:=by
 have:=h.ok t v x hv hx;cases v with
 |opt g b y=>exact absurd hv (h0 t g b y)
 |_=>exact this
theorem axH{D:nz K}{t:Bool}{wr:List Nat}{l sa sb:List (AV K)}{tmps:Array Value}(hab:kM (cond t sa sb))(la:sa.length=l.length)(lb:sb.length=l.length)(ra:∀t,t∉wr->sa[t]?=l[t]?)(rb:∀t,t∉wr->sb[t]?=l[t]?)
 (h:rW D ρ S w (cond t sa sb) tmps):rW D ρ S w (uF t wr 0 l sa sb) tmps:=by
 refine⟨by rw[amY _ _ _ _ la lb,<-h.len];cases t<;>simp[la,lb],fun i v x hv hx=>?_⟩;rcases acD l sa sb 0 i v hv with⟨h1,h2⟩|⟨a,b,h1,h2,rfl⟩
 ·rw[Ae]at h1;refine .CX ?_;cases t
  ·exact h.rep hab (by rw[gG,rb i h1];exact h2) hx
  ·exact h.rep hab (by rw[bQ,ra i h1];exact h2) hx
 ·refine .CX (amO (fun e=>?_) fun e=>?_)
  ·subst e;exact h.rep hab h1 hx
  ·subst e;exact h.rep hab h2 hx
theorem avC{t:Bool}{wr:List Nat}{l sa sb:List (AV K)}(h0:kM l):kM (uF t wr 0 l sa sb):=fun i g b v e=>by
 rcases acD l sa sb 0 i _ e with⟨-,h2⟩|⟨x,y,-,-,h3⟩
 ·exact h0 i g b v h2
 ·have:=axG t x y;rw[<-h3]at this;simp[AV.Hz]at this
theorem BN:∀(ds:List Nat)(vs tm:List (AV K)),(iE tm ds vs).length=tm.length
 |[],vs,tm=>by simp[iE]
 |d::r,[],tm=>by simp[iE]
 |d::r,v::vs,tm=>by simp only[iE];rw[BN r vs];simp
theorem EX:∀(ds:List Nat)(vs tm:List (AV K))(t:Nat)(v:AV K),(iE tm ds vs)[t]?=some v->tm[t]?=some v\/∃i:Nat,ds[i]?=some t/\vs[i]?=some v
 |[],vs,tm,t,v,h=>.inl (by simpa [iE]using h)
 |d::r,[],tm,t,v,h=>.inl (by simpa [iE]using h)
 |d::r,x::vs,tm,t,v,h=>by
  simp only[iE]at h;rcases EX r vs _ t v h with h1|⟨i,h1,h2⟩
  ·rcases iR h1 with⟨rfl,rfl,-⟩|⟨-,h1⟩
   ·exact .inr ⟨0,rfl,rfl⟩
   ·exact .inl h1
  ·exact .inr ⟨i+1,by simpa using h1,by simpa using h2⟩
theorem amZ{p:AV K->AV K->Prop}:∀(ds:List Nat)(vs vs' tm tm':List (AV K)),vs.length=vs'.length->tm.length=tm'.length->(∀(i:Nat) v v',vs[i]?=some v->vs'[i]?=some v'->p v v')->(∀(t:Nat) v v',tm[t]?=some v->tm'[t]?=some v'->p v v')->
 ∀(t:Nat) v v',(iE tm ds vs)[t]?=some v->(iE tm' ds vs')[t]?=some v'->p v v'
 |[],vs,vs',tm,tm',h1,h2,h3,h4,t,v,v',g1,g2=>h4 t v v' (by simpa [iE]using g1) (by simpa [iE]using g2)
 |d::r,[],[],tm,tm',h1,h2,h3,h4,t,v,v',g1,g2=>h4 t v v' (by simpa [iE]using g1) (by simpa [iE]using g2)
 |d::r,[],_::_,tm,tm',h1,h2,h3,h4,t,v,v',g1,g2=>by simp at h1
 |d::r,_::_,[],tm,tm',h1,h2,h3,h4,t,v,v',g1,g2=>by simp at h1
 |d::r,x::vs,x'::vs',tm,tm',h1,h2,h3,h4,t,v,v',g1,g2=>by
  simp only[iE]at g1 g2;refine amZ r vs vs' _ _ (by simpa using h1) (by simpa using h2) (fun i a b ha hb=>h3 (i+1) a b (by simpa using ha) (by simpa using hb)) (fun k a b ha hb=>?_) t v v' g1 g2;rcases iR ha with⟨rfl,rfl,-⟩|⟨hne,ha⟩
  ·rcases iR hb with⟨-,rfl,-⟩|⟨hne,-⟩
   ·exact h3 0 _ _ rfl rfl
   ·exact absurd rfl hne
  ·rcases iR hb with⟨rfl,-⟩|⟨-,hb⟩
   ·exact absurd rfl hne
   ·exact h4 k a b ha hb
theorem PZ{f:Nat->Option Nat}:∀(l l':List (AV K)),YT f l=some l'->l'.length=l.length/\∀(i:Nat) v',l'[i]?=some v'->∃v,l[i]?=some v/\reH f v=some v'
 |[],l',h=>by simp[YT]at h;subst h;simp
 |x::l,l',h=>by
  simp only[YT]at h;split at h
  ·rename_i y m h1 h2;simp only[dS]at h;subst h;obtain⟨g1,g2⟩:=PZ l m h2;refine⟨by simp[g1],fun i v' hi=>?_⟩;cases i with
   |zero=>simp at hi;subst hi;exact⟨x,rfl,h1⟩
   |succ i=>simp at hi;obtain⟨v,q1,q2⟩:=g2 i v' hi;exact⟨v,by simpa using q1,q2⟩
  ·cases h
theorem aBJ{f:Nat->Option Nat}{v v':AV K}(h:reH f v=some v'):v'.Hz=false:=by
 cases v<;>simp only[reH,Fg,dS]at h<;>first
  |(subst h;rfl)
  |(obtain⟨a,-,rfl⟩:=h;rfl)
  |cases h
theorem afD{n:Nat}{ds:List Nat}{l l':List (AV K)}{f:Nat->Option Nat}(h:YT f l=some l'):kM (iE (List.replicate n .any) ds l'):=fun t g b v e=>by
 rcases EX ds l' _ t _ e with h1|⟨i,-,h2⟩
 ·rw[adX]at h1;split at h1<;>cases h1
 ·obtain⟨v0,-,q⟩:=(PZ l l' h).2 i _ h2;have:=aBJ q;simp[AV.Hz]at this
theorem KZ{D:nz K}{n:Nat}{ds:List Nat}{vs:List (AV K)}{tmps:Array Value}(hn:tmps.size=n)(h:∀(i t:Nat) v x,ds[i]?=some t->vs[i]?=some v->tmps[t]?=some x->Rep D ρ S w v x):rW D ρ S w (iE (List.replicate n .any) ds vs) tmps:=
 ⟨by rw[BN];simp[hn],fun t v x hv hx=>.CX (by
   rcases EX ds vs _ t v hv with h1|⟨i,h1,h2⟩
   ·rw[adX]at h1;split at h1
    ·simp at h1;subst h1;exact .any x
    ·cases h1
   ·exact h i t v x h1 h2 hx)⟩
theorem aAA{cx:Cx K}(hD:dX cx.D){c:Code}{L:cO K}{n0:Nat}{st st':St K}{m:List Nat}{vals vs:List (AV K)}{Hi Ho:List (Ob K)}{e:Ex}(hn:st.tm.length=L.n)(h0:kM st.tm)
 (hin:inLoop st.H (L.ins.map fun t=>st.tm.getD t .any)=some (m,vals,Hi)) (hout:aoz L m st vs Ho=some st')
 (htr:Tr cx Hi.length (.loop c) ⟨iE (List.replicate L.n .any) L.ins vals,Hi,true⟩ e ⟨iE (List.replicate L.n .any) L.outs vs,Ho,true⟩):kM st'.tm/\Tr cx n0 (.loop c) st e st':=by
 unfold inLoop at hin;split at hin
 ·rename_i hp;split at hin
  ·rename_i PX Hi' hv hH;simp only[dS,iQ]at hin;obtain⟨rfl,rfl,rfl⟩:=hin;unfold aoz at hout;split at hout
   ·rename_i vs' Ho' hvs hHo;split at hout
    ·rename_i hle;simp only[dS]at hout;subst hout;refine⟨afD hvs,fun ρ S a w hn0 gz=>?_⟩;obtain⟨s1,s2,s3,s4⟩:=axn hD gz.heap hp hH;have hrs:=aqC (ρ:=ρ) (m:=reach st.H 64 (dF (L.ins.map fun t=>st.tm.getD t .any)) []) (fun i h hi=>by rw[gz.heap.len];exact(Kr _ hp).1 i h hi);have hsize:a.tmps.size=L.n:=by rw[<-hn,gz.slots.len]
     have uQ:Sat cx (axm ρ (reach st.H 64 (dF (L.ins.map fun t=>st.tm.getD t .any)) [])) S a w ⟨iE (List.replicate L.n .any) L.ins PX,Hi',true⟩:=⟨s1,KZ hsize fun i t v x g1 g2 g3=>by
      obtain⟨v0,q1,q2⟩:=(PZ _ _ hv).2 i v g2;simp only[Np,g1,afx,dS]at q1;subst q1;refine EO hD s4 _ v x q2 ?_;rw[xA];cases hg:st.tm[t]? with
      |none=>exact .any x
      |some v1=>exact gz.slots.rep h0 hg g3,gz.defers⟩
     refine wp_mono (htr _ S a w (iM _) uQ) fun e' a' w'=>?_
     rintro ⟨he,aKw,ρo,So,hso,hst⟩
     obtain⟨j1,j2,j3⟩:=join hD gz.heap hp hrs s2 s3 s1 hso.heap hst aKw hHo;refine⟨he,?_,_,So,⟨j1,?_,hso.defers⟩,j2.weaken hn0⟩
     ·have:=j2.grow gz.heap j1 (iM _);dsimp only at this⊢;omega
     ·refine⟨by rw[BN];have:=hso.slots.len;rw[BN]at this;exact this,fun t v x hv' hx=>?_⟩;have hlt:t<(iE (List.replicate L.n .any) L.outs vs).length:=by
       have:=(wG.1 hv').1;rw[BN]at this⊢;exact this
      have hg:=wH hlt;have hrep:kz cx.D ρo So w' a'.tmps _ x:=hso.slots.ok t _ x hg hx;have hrel:=amZ (p:=fun v v'=>v'=.any\/reH (fun h=>(nC (reach st.H 64 (dF (L.ins.map fun t=>st.tm.getD t .any)) []) st.H.length Ho.length)[h]?) v=some v') L.outs vs vs' (List.replicate L.n .any) (List.replicate L.n .any)
       (PZ _ _ hvs).1.symm rfl (fun i v v' h1 h2=>by
         obtain⟨v0,q1,q2⟩:=(PZ _ _ hvs).2 i v' h2;rw[h1]at q1;simp at q1;subst q1;exact .inr q2) (fun t v v' h1 h2=>by
         rw[adX]at h2;split at h2
         ·simp at h2;exact .inl h2.symm
         ·cases h2) t _ v hg hv'
      rcases hrel with rfl|hrel
      ·exact .CX (.any x)
      ·refine .CX (EO hD j3 _ v x hrel ?_);generalize (iE (List.replicate L.n .any) L.outs vs)[t]=y at hrep hrel;cases y with
       |opt=>simp[reH]at hrel
       |_=>exact hrep
    ·cases hout
   ·cases hout
  ·cases hin
 ·cases hin
theorem su{cx:Cx K}(hD:dX cx.D)(hc:aJ cx)(hm:cx.P.follows .mixedOrders=true):∀(c:Code),uy cx c->∀{R:Type}(st:St K)(k:Ex->St K->Option R)(r:R),yR cx c st k=some r->
 ∃e st',k e st'=some r/\(st'.ok=true->st.ok=true)/\(st'.ok=true->kM st.tm->kM st'.tm/\∀n0,Tr cx n0 c st e st')
 |.skip,_,R,st,k,r,h=>⟨.normal,st,h,id,fun _ h0=>⟨h0,fun n0 ρ S a w hn gz=>wp_skip ⟨rfl,hn,ρ,S,gz,Step.refl⟩⟩⟩
 |.exit id,_,R,st,k,r,h=>⟨.exit id,st,h,fun h=>h,fun _ h0=>⟨h0,fun n0 ρ S a w hn gz=>wp_exit ⟨rfl,hn,ρ,S,gz,Step.refl⟩⟩⟩
 |.ret,_,R,st,k,r,h=>⟨.ret,st,h,fun h=>h,fun _ h0=>⟨h0,fun n0 ρ S a w hn gz=>wp_ret ⟨rfl,hn,ρ,S,gz,Step.refl⟩⟩⟩
 |.region id ops draw,_,R,st,k,r,h=>by
   simp only[yR]at h;split at h
   ·rename_i st' hr;have:=fun n0=>alD (id:=id) (n0:=n0) hD hc hm hr
    exact⟨.normal,st',h,(this 0).1,fun hok h0=>⟨((this 0).2 hok h0).1,fun n0=>((this n0).2 hok h0).2⟩⟩
   ·split at h
    ·rename_i b s1 s2 hsp;obtain⟨t,h1,h2⟩:=Ji _ hsp;have key:∀(x:Bool)(s':St K),sN {cx with gs:=some (t,x)} ops.toList draw st=some s'->k .normal s'=some r->
      ∃e st',k e st'=some r/\(st'.ok=true->st.ok=true)/\(st'.ok=true->kM st.tm->kM st'.tm/\∀n0,Tr cx n0 (.region id ops draw) st e st'):=fun x s' hr hk=>by
      have:=fun n0=>alD (cx:={cx with gs:=some (t,x)}) (id:=id) (n0:=n0) hD hc hm hr
      exact⟨.normal,s',hk,(this 0).1,fun hok h0=>⟨((this 0).2 hok h0).1,fun n0=>(((this n0).2 hok h0).2).gs⟩⟩
     cases b with
     |true=>exact key true s1 h1 h
     |false=>exact key false s2 h2 h
    ·split at h
     ·cases h
     ·split at h
      ·rename_i s1 s2 h1 h2;have key:∀(x:Bool)(s':St K),sN {cx with call:=cx.alt x,mode:=cx.aAu x} ops.toList draw st=some s'->k .normal s'=some r->
        ∃e st',k e st'=some r/\(st'.ok=true->st.ok=true)/\(st'.ok=true->kM st.tm->kM st'.tm/\∀n0,Tr cx n0 (.region id ops draw) st e st'):=fun x s' hr hk=>by
        have:=fun n0=>alD (cx:={cx with call:=cx.alt x,mode:=cx.aAu x}) (id:=id) (n0:=n0) hD ⟨hc.2.1 x,hc.2⟩ hm hr
        exact⟨.normal,s',hk,(this 0).1,fun hok h0=>⟨((this 0).2 hok h0).1,fun n0=>(((this n0).2 hok h0).2).call⟩⟩
       rcases hc.2.2 _ _ _ _ h with h|h
       ·exact key true s1 h1 h
       ·exact key false s2 h2 h
      ·cases h
 |.seq a b,hl,R,st,k,r,h=>by
   simp only[yR]at h;obtain⟨e1,s1,h1,ok1,t1⟩:=su hD hc hm a hl.1 st _ r h;cases e1 with
   |normal=>
    obtain⟨e2,s2,h2,ok2,t2⟩:=su hD hc hm b hl.2 s1 k r h1;refine⟨e2,s2,h2,fun hk=>ok1 (ok2 hk),fun hk h0=>?_⟩;obtain⟨n1,q1⟩:=t1 (ok2 hk) h0;obtain⟨n2,q2⟩:=t2 hk n1;refine⟨n2,fun n0 ρ S a' w hn gz=>wp_seq (wp_mono (q1 n0 ρ S a' w hn gz) ?_)⟩
    rintro e a2 w2 ⟨rfl,hn1,ρ1,S1,uQ,hst1⟩
    refine wp_mono (q2 n0 ρ1 S1 a2 w2 hn1 uQ) ?_
    rintro e a3 w3 ⟨rfl,hn2,ρ2,S2,axI,hst2⟩
    exact⟨rfl,hn2,ρ2,S2,axI,hst1.trans hst2⟩
   |exit id=>
    refine⟨.exit id,s1,h1,ok1,fun hk h0=>⟨(t1 hk h0).1,fun n0 ρ S a' w hn gz=>wp_seq (wp_mono ((t1 hk h0).2 n0 ρ S a' w hn gz) ?_)⟩⟩
    rintro e a2 w2 ⟨rfl,q⟩
    exact⟨rfl,q⟩
   |ret=>
    refine⟨.ret,s1,h1,ok1,fun hk h0=>⟨(t1 hk h0).1,fun n0 ρ S a' w hn gz=>wp_seq (wp_mono ((t1 hk h0).2 n0 ρ S a' w hn gz) ?_)⟩⟩
    rintro e a2 w2 ⟨rfl,q⟩
    exact⟨rfl,q⟩
 |.cond c a b,hl,R,st,k,r,h=>by
   simp only[yR]at h;split at h
   ·rename_i t ht;have hev:∀{ρ S a' w},Sat cx ρ S a' w st->a'.eval c=.bool t:=fun{ρ S a' w} gz=>by
     have:=ac4 gz.slots (gs:=[]) (fun p hp=>by simp at hp) c;rw[ht]at this;generalize a'.eval c=y at this;cases this;rfl
    split at h
    ·rename_i hs;simp only[lS]at hs;split at h
     ·rename_i sa sb ha hb;obtain⟨s1,g1,q1⟩:=EW a hs.1 st _ sa ha;obtain⟨s2,g2,q2⟩:=EW b hs.2 st _ sb hb;simp only[Iu,dS]at g1 g2;subst g1;subst g2;obtain⟨e1,s1',c1,ok1,t1⟩:=su hD hc hm a hl.1 st _ s1 ha;obtain⟨e2,s2',c2,ok2,t2⟩:=su hD hc hm b hl.2 st _ s2 hb;cases e1<;>simp only[Iu,dS]at c1<;>try cases c1
      cases e2<;>simp only[Iu,dS]at c2<;>try cases c2
      have hks:∀{x y:Bool},((x|| !t)&&(y||t))=true->(t=true->x=true)/\(t=false->y=true):=fun{x y} hk=>by
       cases t<;>simpa using hk
      refine⟨.normal,_,h,fun hk=>?_,fun hk h0=>⟨avC h0,fun n0 ρ S a' w hn gz=>wp_cond (hev gz) ?_⟩⟩
      ·cases ht':t
       ·exact ok2 ((hks hk).2 ht')
       ·exact ok1 ((hks hk).1 ht')
      ·have fin:∀e' a' w',(e'=Ex.normal.PW/\n0<=(cond t s1 s2).H.length/\∃ρ' S',Sat cx ρ' S' a' w' (cond t s1 s2)/\Step cx.D n0 ρ S st.H w ρ' S' (cond t s1 s2).H w')->kM (cond t s1.tm s2.tm)->
        (e'=Ex.normal.PW/\n0<=st.H.length/\∃ρ' S',Sat cx ρ' S' a' w' ⟨uF t (writes a++writes b) 0 st.tm s1.tm s2.tm,st.H,(s1.ok|| !t)&&(s2.ok||t)⟩/\Step cx.D n0 ρ S st.H w ρ' S' st.H w'):=by
        rintro e' a2 w2 ⟨he,hn1,ρ1,S1,uQ,hst1⟩ hno
        have hH:(cond t s1 s2).H=st.H:=by cases t;exact q2.H;exact q1.H
        rw[hH]at hn1 hst1;refine⟨he,hn1,ρ1,S1,⟨by have:=uQ.heap;rw[hH]at this;exact this,?_,uQ.defers⟩,hst1⟩;exact axH hno q1.len q2.len (fun i hi=>q1.rest i fun h'=>hi (by simp[h'])) (fun i hi=>q2.rest i fun h'=>hi (by simp[h'])) (by have:=uQ.slots;cases t<;>exact this)
       cases ht':t<;>rw[ht']at fin
       ·obtain⟨n2,r2⟩:=t2 ((hks hk).2 ht') h0;exact wp_mono (r2 n0 ρ S a' w hn gz) fun e' a2 w2 q=>fin e' a2 w2 q n2
       ·obtain⟨n1,r1⟩:=t1 ((hks hk).1 ht') h0;exact wp_mono (r1 n0 ρ S a' w hn gz) fun e' a2 w2 q=>fin e' a2 w2 q n1
     ·cases h
    ·cases t
     ·obtain⟨e,s,h1,ok1,t1⟩:=su hD hc hm b hl.2 st k r h;exact⟨e,s,h1,ok1,fun hk h0=>⟨(t1 hk h0).1,fun n0 ρ S a' w hn gz=>wp_cond (hev gz) ((t1 hk h0).2 n0 ρ S a' w hn gz)⟩⟩
     ·obtain⟨e,s,h1,ok1,t1⟩:=su hD hc hm a hl.1 st k r h;exact⟨e,s,h1,ok1,fun hk h0=>⟨(t1 hk h0).1,fun n0 ρ S a' w hn gz=>wp_cond (hev gz) ((t1 hk h0).2 n0 ρ S a' w hn gz)⟩⟩
   ·cases h
 |.block id c,hl,R,st,k,r,h=>by
   simp only[yR]at h;obtain⟨e1,s1,h1,ok1,t1⟩:=su hD hc hm c hl st _ r h;cases e1 with
   |normal=>
    refine⟨.normal,s1,h1,ok1,fun hk h0=>⟨(t1 hk h0).1,fun n0 ρ S a' w hn gz=>wp_block (wp_mono ((t1 hk h0).2 n0 ρ S a' w hn gz) ?_)⟩⟩
    rintro e a2 w2 ⟨rfl,q⟩
    exact⟨rfl,q⟩
   |ret=>
    refine⟨.ret,s1,h1,ok1,fun hk h0=>⟨(t1 hk h0).1,fun n0 ρ S a' w hn gz=>wp_block (wp_mono ((t1 hk h0).2 n0 ρ S a' w hn gz) ?_)⟩⟩
    rintro e a2 w2 ⟨rfl,q⟩
    exact⟨rfl,q⟩
   |exit i=>
    dsimp only at h1;split at h1
    ·rename_i hid;refine⟨.normal,s1,h1,ok1,fun hk h0=>⟨(t1 hk h0).1,fun n0 ρ S a' w hn gz=>wp_block (wp_mono ((t1 hk h0).2 n0 ρ S a' w hn gz) ?_)⟩⟩
     rintro e a2 w2 ⟨rfl,q⟩
     subst hid;show(if i=i then _ else _)
     rw[bI rfl];exact⟨rfl,q⟩
    ·rename_i hid;refine⟨.exit i,s1,h1,ok1,fun hk h0=>⟨(t1 hk h0).1,fun n0 ρ S a' w hn gz=>wp_block (wp_mono ((t1 hk h0).2 n0 ρ S a' w hn gz) ?_)⟩⟩
     rintro e a2 w2 ⟨rfl,q⟩
     show(if i=id then _ else _)
     rw[bu hid];exact⟨rfl,q⟩
 |.loop c,hl,R,st,k,r,h=>by
   simp only[yR]at h;split at h
   ·rename_i L hL;split at h
    ·rename_i hn;split at h
     ·rename_i m vals Hi hin;obtain⟨e,vs,Ho,h1,htr⟩:=hl L hL vals Hi R _ r h;split at h1
      ·rename_i st' hout;refine⟨e,st',h1,?_,fun hk h0=>?_⟩
       ·unfold aoz at hout;split at hout
        ·split at hout
         ·simp only[dS]at hout;subst hout;exact id
         ·cases hout
        ·cases hout
       ·exact⟨(aAA (n0:=0) hD hn h0 hin hout htr).1,fun n0=>(aAA (n0:=n0) hD hn h0 hin hout htr).2⟩
      ·cases h1
     ·cases h
    ·cases h
   ·cases h
 |.scope ..,_,R,st,k,r,h=>by simp[yR]at h
 |.rangeFunc ..,_,R,st,k,r,h=>by simp[yR]at h
 |.goto ..,_,R,st,k,r,h=>by simp[yR]at h
 |.label ..,_,R,st,k,r,h=>by simp[yR]at h
 |.refuse ..,_,R,st,k,r,h=>by simp[yR]at h
end Go.V
