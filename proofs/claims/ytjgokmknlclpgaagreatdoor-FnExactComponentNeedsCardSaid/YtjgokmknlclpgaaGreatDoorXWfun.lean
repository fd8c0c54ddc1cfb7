/-
  A FUNCTION, A LOOP, by a plain definition that they are shown to be equal to.
-/
import Derived.Test.YtjgokmknlclpgaaGreatDoorXWshape
set_option linter.unusedVariables false
namespace Go.V
open Go
variable{K :Jc}{ρ ρ':List Value}{S S':Nat->Prop}{w w':World}{H H':List (Ob K)}
def acG(dp:K.U->Bool)(H:List (Ob K))(cs:List (List (Option K.U))):AV K->AV K×List (Ob K)
 |.sO l=>(.sO (wE dp H cs l).1,(wE dp H cs l).2)
 |v=>((wE dp H cs [v]).1.headD v,(wE dp H cs [v]).2)
def forgets:List Bool->List (AV K)->List (AV K)
 |[],vs=>vs
 |_::_,[]=>[]
 |true::r,_::vs=>.any::forgets r vs
 |false::r,v::vs=>v::forgets r vs
def aoA:List Bool->AV K->AV K
 |[],v=>v
 |l,.sO vs=>.sO (forgets l vs)
 |true::_,_=>.any
 |false::_,v=>v
theorem SS{D:nz K}:∀(l:List Bool)(vs:List (AV K))(us:List Value),ed D ρ S w vs us->ed D ρ S w (forgets l vs) us
 |[],vs,us,h=>by simpa only[forgets]using h
 |_::_,[],us,h=>by simpa only[forgets]using h
 |b::r,v::vs,us,h=>by
  obtain⟨u,t,rfl,h1,h2⟩:=h.wX;cases b
  ·exact .cons h1 (SS r vs t h2)
  ·exact .cons (.any u) (SS r vs t h2)
theorem as6{D:nz K}(l:List Bool)(v:AV K)(u:Value)(h:Rep D ρ S w v u):Rep D ρ S w (aoA l v) u:=by
 unfold aoA;split
 ·exact h
 ·cases h with
  |sO hl hh=>
   have:=SS l _ _ ⟨hl,hh⟩;exact .sO this.1 this.2
 ·exact .any _
 ·exact h
def aIq(cx:Cx K)(fz:Bool)(fn:Func)(n0:Nat){R:Type}(fin:AV K->List (Ob K)->Option R)(e:Ex)(st:St K):Option R:=
 match e with
 |.exit _=>none
 |_=>match resV cx fn st with
  |some v0=>let v:=aoA cx.aEA v0
   cond st.ok (cond fz (match aAy cx.mv n0 (oD (zD st.H (hands v)) v) (zD st.H (hands v))with
    |some (v',H')=>fin v' H'
    |none=>none) (match aAy cx.mv n0 (acG cx.deep st.H cx.rsl v).1 (acG cx.deep st.H cx.rsl v).2 with
    |some (v',H')=>fin v' H'
    |none=>none)) none
  |none=>none
def aEz(cx:Cx K)(fz:Bool)(fn:Func)(args:List (AV K))(H:List (Ob K)){R:Type}(fin:AV K->List (Ob K)->Option R):Option R:=
 match fn.body with
 |some c=>yR cx c ⟨args++List.replicate (fn.ntmps-args.length) .any,H,true⟩ (aIq cx fz fn H.length fin)
 |none=>none
structure aJR (P:Program) (f:FuncId) (fn:Func):Prop where
 get:P.funcs[f]?=some fn
 name:(fn.name== "runtime.NumGoroutine")=false
theorem acH{D:nz K}(dp:K.U->Bool):∀(css:List (List (Option K.U)))(l:List (AV K))(H:List (Ob K))(ρ:List Value)(vs:List Value),aP D ρ S w H->ed D ρ S w l vs->alF D S w H ρ vs (wE dp H css l)
 |[],l,H,ρ,vs,hs,hr=>⟨ρ,by simpa [wE]using hs,by simpa [wE]using hr,by simpa [wE]using Step.refl,fun _ _ h=>h,by simp[wE],fun _ _ h=>by simpa [wE]using h⟩
 |cs::css,[],H,ρ,vs,hs,hr=>⟨ρ,by simpa [wE]using hs,by simpa [wE]using hr,by simpa [wE]using Step.refl,fun _ _ h=>h,by simp[wE],fun _ _ h=>by simpa [wE]using h⟩
 |cs::css,v::r,H,ρ,vs,hs,hr=>by
  obtain⟨u,t,rfl,h1,h2⟩:=hr.wX;have fin:∀(v':AV K)(p:List (AV K)×List (Ob K))(us:List Value),(∀ρ',ed D ρ' S w p.1 us->Rep D ρ' S w v' u)->alF D S w H ρ us p->alF D S w H ρ (u::t) (v'::(wE dp p.2 css r).1,(wE dp p.2 css r).2):=fun v' p us hv hp=>by
   obtain⟨ρ1,g1,g2,g3,g4,g5,g6⟩:=hp;obtain⟨ρ2,k1,k2,k3,k4,k5,k6⟩:=acH dp css r p.2 ρ1 t g1 (h2.mono (fun _ h=>h) (fun _ _=>rfl) g4);exact⟨ρ2,k1,.cons ((hv ρ1 g2).mono (fun _ h=>h) (fun _ _=>rfl) k4) k2,g3.trans (k3.weaken g5),fun h r hr=>k4 h r (g4 h r hr),lH g5 k5,fun h o ho=>k6 h o (g6 h o ho)⟩
  have one:∀v,Rep D ρ S w v u->wE dp H (cs::css) (v::r)=((thaw dp H cs [v]).1.headD v::(wE dp (thaw dp H cs [v]).2 css r).1,(wE dp (thaw dp H cs [v]).2 css r).2)->alF D S w H ρ (u::t) (wE dp H (cs::css) (v::r)):=fun v h1 e=>by
   rw[e];refine fin _ _ [u] (fun ρ' hr'=>?_) (Ey dp cs [v] H ρ [u] hs (.cons h1 .nil));generalize hq:(thaw dp H cs [v]).1=q at hr';cases q with
   |nil=>have:=hr'.1;simp at this
   |cons x y=>exact hr'.head
  cases v with
  |agg l=>
   cases h1 with
   |agg hl hh=>
    have e:wE dp H (cs::css) (.agg l::r)=(.agg (thaw dp H cs l).1::(wE dp (thaw dp H cs l).2 css r).1,(wE dp (thaw dp H cs l).2 css r).2):=rfl;rw[e];exact fin _ _ _ (fun ρ' hr'=>.agg hr'.1 hr'.2) (Ey dp cs l H ρ _ hs ⟨hl,hh⟩)
  |_=>exact one _ h1 rfl
theorem axT{D:nz K}(dp:K.U->Bool)(cs:List (List (Option K.U)))(v:AV K)(hs:aP D ρ S w H){u:Value}(hr:Rep D ρ S w v u):
 ∃ρ',aP D ρ' S w (acG dp H cs v).2/\Rep D ρ' S w (acG dp H cs v).1 u/\Step D H.length ρ S H w ρ' S (acG dp H cs v).2 w/\H.length<=(acG dp H cs v).2.length:=by
 have one:∀v,Rep D ρ S w v u->acG dp H cs v=((wE dp H cs [v]).1.headD v,(wE dp H cs [v]).2)->∃ρ',aP D ρ' S w (acG dp H cs v).2/\Rep D ρ' S w (acG dp H cs v).1 u/\Step D H.length ρ S H w ρ' S (acG dp H cs v).2 w/\H.length<=(acG dp H cs v).2.length:=fun v hr e=>by
  rw[e];obtain⟨ρ',g1,g2,g3,g4,g5,g6⟩:=acH dp cs [v] H ρ [u] hs (.cons hr .nil);refine⟨ρ',g1,?_,g3,g5⟩;generalize hq:(wE dp H cs [v]).1=q at g2;cases q with
  |nil=>have:=g2.1;simp at this
  |cons x y=>exact g2.head
 cases v with
 |sO l=>
  cases hr with
  |sO hl hh=>
   obtain⟨ρ',g1,g2,g3,g4,g5,g6⟩:=acH dp cs l H ρ _ hs ⟨hl,hh⟩;exact⟨ρ',g1,.sO g2.1 g2.2,g3,g5⟩
 |_=>exact one _ hr rfl
theorem azg{cx:Cx K}(hD:dX cx.D){fz:Bool}{fn:Func}{n0:Nat}{R:Type}{fin:AV K->List (Ob K)->Option R}{e:Ex}{st:St K}{r:R}(h:aIq cx fz fn n0 fin e st=some r):
 st.ok=true/\(∀i,e≠.exit i)/\∃v v' H',resV cx fn st=some v/\fin v' H'=some r/\∀ρ S w,n0<=st.H.length->aP cx.D ρ S w st.H->∀u,Rep cx.D ρ S w v u->∃ρ' S',aP cx.D ρ' S' w H'/\Rep cx.D ρ' S' w v' u/\Step cx.D n0 ρ S st.H w ρ' S' H' w:=by
 have key:∀(v0:AV K)(H0:List (Ob K)) v' H',aAy cx.mv n0 v0 H0=some (v',H')->∀ρ S w,n0<=H0.length->aP cx.D ρ S w H0->∀u,Rep cx.D ρ S w v0 u->∃ρ',aP cx.D ρ' S w H'/\Rep cx.D ρ' S w v' u/\Step cx.D n0 ρ S H0 w ρ' S H' w:=fun v0 H0 v' H' hp ρ S w hn hs u hr=>by
  unfold aAy aDB at hp;split at hp
  ·rename_i hk;simp only[lS,jX]at hk;split at hp
   ·rename_i v'' H1 hv' hH';simp only[dS,iQ]at hp;obtain⟨rfl,rfl⟩:=hp;obtain⟨s1,s2,s3,s4⟩:=axU hD hs hn hk.1 hk.2 hH';exact⟨_,s1,EO hD s3 _ _ u hv' hr,s2⟩
   ·cases hp
  ·cases hp
 unfold aIq at h;split at h
 ·cases h
 ·rename_i hne;split at h
  ·rename_i v0 hv0;dsimp only at h;generalize hv:aoA cx.aEA v0=v at h;have fgt:∀{ρ S w}{u:Value},Rep cx.D ρ S w v0 u->Rep cx.D ρ S w v u:=fun hr=>by rw[<-hv];exact as6 _ _ _ hr
   cases hok:st.ok with
   |false=>rw[hok]at h;cases h
   |true=>
    rw[hok]at h;simp only[bQ]at h;refine⟨rfl,hne,?_⟩;cases fz with
    |false=>
     simp only[gG]at h;split at h
     ·rename_i v' H' hp;exact⟨v0,v',H',hv0,h,fun ρ S w hn hs u hr0=>by
       have hr:=fgt hr0;obtain⟨ρ1,t1,t2,t3,t4⟩:=axT cx.deep cx.rsl v hs hr;obtain⟨ρ',a,b,c⟩:=key _ _ _ _ hp ρ1 S w (lH hn t4) t1 u t2;exact⟨ρ',S,a,b,(t3.weaken hn).trans c⟩⟩
     ·cases h
    |true=>
     simp only[bQ]at h;split at h
     ·rename_i v' H' hp;exact⟨v0,v',H',hv0,h,fun ρ S w hn hs u hr0=>by
       have hr:=fgt hr0;obtain⟨S1,g1,g2,g3⟩:=WL (n0:=n0) (hands v) hs;obtain⟨ρ',a,b,c⟩:=key _ _ _ _ hp ρ S1 w (by omega) g1 u (rZ g1 _ _ (hr.mono g2.s1 (fun _ _=>rfl) (fun _ _ h=>h)));exact⟨ρ',S1,a,b,g2.trans c⟩⟩
     ·cases h
  ·cases h
theorem azh{cx:Cx K}(hD:dX cx.D)(hc:aJ cx)(hm:cx.P.follows .mixedOrders=true){fz:Bool}{f:FuncId}{fn:Func}(hf:aJR cx.P f fn)(hl:∀c,fn.body=some c->uy cx c)
 {args:List (AV K)} {R:Type} {fin:AV K->List (Ob K)->Option R} {r:R} (h:aEz cx fz fn args H fin=some r):∃v H',fin v H'=some r/\RC cx.D cx.P f args H v H':=by
 unfold aEz at h;split at h
 ·rename_i c hb;obtain⟨e,st,h1,-,h3⟩:=su hD hc hm c (hl c hb) _ _ _ h;obtain⟨hok,hne,v,v',H',hv,hr,hfin⟩:=azg hD h1;refine⟨v',H',hr,⟨fn,hf.get,hf.name,by rw[hb];rfl⟩,fun ρ S w vals hs ha=>?_⟩;have h0:kM (args++List.replicate (fn.ntmps-args.length) (AV.any:AV K)):=fun t g b y e=>by
   rcases kF t args.length with hlt|hge
   ·rw[qV hlt]at e;obtain⟨x,-,hx⟩:=ha.get e;cases hx
   ·rw[uS hge,adX]at e;split at e<;>cases e
  obtain⟨n1,htr⟩:=h3 hok h0;refine calls_of_wp hf.get hb ?_;have gz:Sat cx ρ S {tmps:=vals.toArray++Array.replicate (fn.ntmps-vals.toArray.size) undef,defers:=[]} w ⟨args++List.replicate (fn.ntmps-args.length) .any,H,true⟩:=⟨hs,⟨by simp[ha.1],fun t v x h1 h2=>.CX (by
   rcases kF t args.length with hlt|hge
   ·rw[qV hlt]at h1;rw[Array.getElem?_append_left (by simpa [<-ha.1]using hlt)]at h2;exact ha.2 t v x h1 (by simpa using h2)
   ·rw[uS hge,adX]at h1;split at h1
    ·simp at h1;subst h1;exact .any x
    ·cases h1)⟩,rfl⟩
  refine wp_mono (htr H.length ρ S _ w (iM _) gz) ?_
  rintro e' a' w' ⟨rfl,hn,ρ1,S1,uQ,hst1⟩
  obtain⟨u,hu,hr1⟩:=azi hD n1 uQ hv;have aDJ:∃u' ρ' S',Ending.returned u=.returned u'/\aP cx.D ρ' S' w' H'/\Rep cx.D ρ' S' w' v' u'/\Step cx.D H.length ρ S H w ρ' S' H' w':=by
   obtain⟨ρ2,S2,q1,q2,q3⟩:=hfin ρ1 S1 w' hn uQ.heap u hr1;exact⟨u,ρ2,S2,rfl,q1,q2,hst1.trans q3⟩
  cases e with
  |exit i=>exact absurd rfl (hne i)
  |normal=>exact⟨uQ.defers,u,hu,aDJ⟩
  |ret=>exact⟨uQ.defers,u,hu,aDJ⟩
 ·cases h
structure bG (K:Jc) where
 f:FuncId
 sh:fP K
 R:Type
 run:sh.T->Option R
 dflt:R
 out:R->AV K×List (Ob K)
def bG.Ok(D:nz K)(P:Program)(c:bG K):Prop:=∀x r,c.run x=some r->RC D P c.f (c.sh.akL D x) (c.sh.aaX D x) (c.out r).1 (c.out r).2
def callOf(D:nz K):List (bG K)->FuncId->List (AV K)->List (Ob K)->Option (AV K×List (Ob K)×Bool)
 |[],_,_,_=>none
 |c::l,f,args,H=>cond (Nat.beq c.f f) (match c.sh.dec D args H with
  |some x=>some ((c.out ((c.run x).getD c.dflt)).1,(c.out ((c.run x).getD c.dflt)).2,(c.run x).isSome)
  |none=>callOf D l f args H) (callOf D l f args H)
theorem RC.weak{D:nz K}{P:Program}{f:FuncId}{args args':List (AV K)}{r:AV K}{Ho:List (Ob K)}(hw:Wk D args H args' H')(h:RC D P f args' H' r Ho):RC D P f args H r Ho:=by
 refine⟨h.1,fun ρ S w vals hs ha=>(h.2 ρ S w vals (hw.heap _ _ _ hs) (hw.aIr _ _ _ _ ha)).mono ?_⟩
 rintro e w' ⟨u,ρ',S',rfl,h1,h2,h3⟩
 rw[hw.len]at h3;exact⟨u,ρ',S',rfl,h1,h2,hw.step.trans h3⟩
theorem at7{D:nz K}(hD:dX D){P:Program}:∀(l:List (bG K)),(∀c∈l,c.Ok D P)->∀f args H r H',callOf D l f args H=some (r,H',true)->RC D P f args H r H'
 |[],_,f,args,H,r,H',h=>by simp[callOf]at h
 |c::l,hl,f,args,H,r,H',h=>by
  have ih:=at7 hD l (fun c hc=>hl c (by simp[hc])) f args H r H';unfold callOf at h;cases hb:Nat.beq c.f f with
  |false=>rw[hb]at h;exact ih h
  |true=>
   rw[hb]at h;have hf:c.f=f:=YV hb;simp only[bQ]at h;split at h
   ·rename_i x hx;simp only[dS,iQ]at h;obtain⟨h1,h2,h3⟩:=h;obtain⟨y,hy⟩:=Option.isSome_iff_exists.1 h3;rw[hy]at h1 h2;simp only[jR]at h1 h2;have:=hl c (by simp) x y hy;rw[h1,h2,hf]at this;exact this.weak (fP.ard hD hx)
   ·exact ih h
theorem ak{cx:Cx K}(hD:dX cx.D)(l:List (bG K))(hl:∀c∈l,c.Ok cx.D cx.P)(he:cx.call=callOf cx.D l:=by exact rfl)(ha:cx.alt=fun _ _ _ _=>none:=by exact rfl)(ho:(fun(R:Type)=>cx.orF (R:=R))=fun(R:Type)(a b:Option R)=>orE a b:=by exact rfl):aJ cx:=by
 refine⟨fun f args H r H' h=>?_,fun b f args H r H' h=>?_,fun R a b r h=>?_⟩
 ·rw[he]at h;exact at7 hD l hl f args H r H' h
 ·rw[ha]at h;cases h
 ·have:=congrFun ho R;rw[this]at h;exact aBI h
def bG.frz(D:nz K)(c:bG K):bG K:={c with out:=fun r=>(VL D (c.out r).2 (c.out r).1,[])}
theorem bG.aHs{D:nz K}(hD:dX D){P:Program}{c:bG K}(h:c.Ok D P)(h0:c.sh.os=[])(hcl:∀r,(VL D (c.out r).2 (c.out r).1).closed=true):(c.frz D).Ok D P:=by
 intro x r hr;have hH:c.sh.aaX D x=[]:=by
  unfold fP.aaX;have:∀(l:List (ja K))(y:ja.Ts l),l=[]->ja.encs D l y=[]:=fun l y e=>by subst e;rfl
  exact this _ _ h0
 obtain⟨h1,h2⟩:=h x r hr;refine⟨h1,fun ρ S w vals hs ha=>(h2 ρ S w vals hs ha).mono ?_⟩
 rintro e w' ⟨u,ρ',S',rfl,g1,g2,g3⟩
 show ∃u_1 ρ' S',Ending.returned u=.returned u_1/\aP D ρ' S' w' ([]:List (Ob K))/\Rep D ρ' S' w' (VL D (c.out r).2 (c.out r).1) u_1/\Step D (c.sh.aaX D x).length ρ S (c.sh.aaX D x) w ρ' S' ([]:List (Ob K)) w'
 change aP D ρ S w (c.sh.aaX D x)at hs;rw[hH]at g3 hs⊢;have hρ:ρ=[]:=by have:=hs.len;simpa using this
 refine⟨u,[],fun b=>S' b\/Own D w' ρ' (c.out r).2 b,rfl,⟨rfl,fun _ _ _ h=>by simp at h,fun _ _ _ _ _ _ _ h=>by simp at h,fun b ⟨_,_,_,h,_⟩=>by simp at h,fun b hb=>hb.elim (g1.slt b) fun h=>(g1.lt b h).1,D.base.mono (fun _ h=>.inl h) (fun _ _=>rfl) g1.base⟩,
  (aqI hD g1 _ _ g2).closed hD (hcl r),⟨g3.os,g3.tape,g3.output,g3.size,g3.old,fun b ⟨_,_,_,h,_⟩=>by simp at h,fun b hb=>.inl (g3.s1 b hb),fun b hb=>?_,fun h hh=>by simp at hh⟩⟩
 rcases hb with hb|hb
 ·exact g3.s2 b hb
 ·exact .inr (g3.own b hb)
structure aCf (K:Jc) (D:nz K) (R:Type) where
 sh:fP K
 conv:sh.T->R
def aCf.fin{D:nz K}{R:Type}(d:aCf K D R)(v:AV K)(H:List (Ob K)):Option R:=match d.sh.dec D [v] H with
 |some x=>some (d.conv x)
 |none=>none
theorem vg{cx:Cx K}(hD:dX cx.D)(hc:aJ cx)(hm:cx.P.follows .mixedOrders=true){c:bG K}{fz:Bool}{fn:Func}(hf:aJR cx.P c.f fn)(hl:∀b,fn.body=some b->uy cx b)
 (d:aCf K cx.D c.R) (ho:∀x,([(c.out (d.conv x)).1],(c.out (d.conv x)).2)=(d.sh.akL cx.D x,d.sh.aaX cx.D x)) (he:∀x,aEz cx fz fn (c.sh.akL cx.D x) (c.sh.aaX cx.D x) d.fin=c.run x):c.Ok cx.D cx.P:=by
 intro x r hr;rw[<-he x]at hr;obtain⟨v,H',h1,h2⟩:=azh hD hc hm hf hl hr;unfold aCf.fin at h1;split at h1
 ·rename_i y hy;simp only[dS]at h1;have hw:=fP.ard hD hy;have:=ho y;simp only[iQ]at this;rw[<-this.1,<-this.2]at hw;rw[h1]at hw;refine⟨h2.1,fun ρ S w vals hs ha=>(h2.2 ρ S w vals hs ha).mono ?_⟩
  rintro e w' ⟨u,ρ',S',rfl,g1,g2,g3⟩
  have:=(hw.aIr _ _ _ [u] (.cons g2 .nil)).head;exact⟨u,ρ',S',rfl,hw.heap _ _ _ g1,this,g3.trans hw.step⟩
 ·cases h1
def arf(kp:Bool):Nat->List (Ob K)->List (Option Nat)×List (Option Nat)
 |_,[]=>([],[])
 |i,o::r=>match arf kp (i+1) r with
  |(a,b)=>match o with
   |.arr ..=>cond kp (some i::a,b) (none::a,some i::b)
   |.tree ..=>cond kp (some i::a,b) (none::a,some i::b)
   |_=>(some i::a,b)
def aAB(kp:Bool)(n n0:Nat)(ins:List Nat)(vals:List (AV K))(Hi:List (Ob K)):Option (St K):=
 match avt n0 ((arf kp 0 Hi).1++(arf kp 0 Hi).2) ins ⟨iE (List.replicate n .any) ins vals,Hi,true⟩with
 |some st=>ag3 n0 ins st
 |none=>none
def YA(st:St K)(ts:List Nat):List (AV K):=ts.map fun t=>st.tm.getD t .any
def df(D:nz K)(kp:Bool)(n n0:Nat)(ins outs:List Nat)(sh:fP K){Y:Type}(run:sh.T->Option Y)(out:Y->{R:Type}->(Ex->List (AV K)->List (Ob K)->R)->R):cO K:={
 n:=n
 ins:=ins
 outs:=outs
 run vals Hi k:=cond (Nat.beq Hi.length n0) (match aAB kp n n0 ins vals Hi with
  |some st=>match sh.dec D (YA st ins) st.H with
   |some x=>match run x with
    |some y=>out y k
    |none=>none
   |none=>none
  |none=>none) none}
def aAC(cx:Cx K)(n n0:Nat)(ins outs:List Nat)(sh:fP K){Y:Type}(next:sh.T->Option Y)(fin:Ex->List (AV K)->List (Ob K)->Option Y)(e:Ex)(s:St K):Option Y:=
 cond s.ok (cond (Nat.beq s.tm.length n) (match e with
  |.normal=>match RY cx s with
    |some (b,s1)=>cond b (match ag3 n0 ins s1 with
     |some s'=>match sh.dec cx.D (YA s' ins) s'.H with
      |some x=>next x
      |none=>none
     |none=>none) none
    |none=>none
  |e=>match RY cx s with
   |some (b,s1)=>cond b (match ag3 n0 outs s1 with
    |some s'=>fin e (YA s' outs) s'.H
    |none=>none) none
   |none=>none) none) none
def alG(D:nz K)(n:Nat)(ins:List Nat)(sh:fP K)(x:sh.T):St K:=⟨iE (List.replicate n .any) ins (sh.akL D x),sh.aaX D x,true⟩
structure gB (K:Jc) (Y:Type) where
 e:Ex
 sh:fP K
 conv:sh.T->Y
def Ex.same:Ex->Ex->Bool
 |.normal,.normal=>true
 |.exit a,.exit b=>Nat.beq a b
 |.ret,.ret=>true
 |_,_=>false
theorem Ex.same_eq{a b:Ex}(h:Ex.same a b=true):a=b:=by
 cases a<;>cases b<;>simp only[Ex.same]at h<;>first|rfl|cases h|(rw[YV h])
def ajC(D:nz K){Y:Type}:List (gB K Y)->Ex->List (AV K)->List (Ob K)->Option Y
 |[],_,_,_=>none
 |d::l,e,vs,H=>cond (Ex.same d.e e) (match d.sh.dec D vs H with
  |some x=>some (d.conv x)
  |none=>none) (ajC D l e vs H)
theorem am1{D:nz K}:∀(l:List (Sh K))(vs:List (AV K))(x:Sh.Ts l),Sh.zC D l vs=some x->vs.length=l.length
 |[],vs,x,h=>by
   cases vs with
   |nil=>rfl
   |cons v r=>unfold Sh.zC at h;cases h
 |s::r,vs,x,h=>by
  cases vs with
  |nil=>unfold Sh.zC at h;cases h
  |cons v l=>
   unfold Sh.zC at h;split at h
   ·rename_i a b h1 h2;simp only[jA];rw[am1 r l b h2]
   ·cases h
theorem acp{D:nz K}:∀(l:List (Sh K))(x:Sh.Ts l),(Sh.encs D l x).length=l.length
 |[],x=>rfl
 |s::r,x=>by simp only[Sh.encs,jA];rw[acp r]
theorem I9{D:nz K}{sh:fP K}{vs:List (AV K)}{x:sh.T}(h:sh.dec D vs H=some x):(sh.akL D x).length=vs.length:=by
 unfold fP.dec at h;split at h
 ·rename_i a b h1 h2;unfold fP.akL;rw[acp,am1 _ _ _ h1]
 ·cases h
theorem WU{D:nz K}(hD:dX D){Y:Type}{out:Y->{R:Type}->(Ex->List (AV K)->List (Ob K)->R)->R}:∀(l:List (gB K Y)),(∀d∈l,d.e≠.normal/\∀x (R:Type) (k:Ex->List (AV K)->List (Ob K)->R),out (d.conv x) k=k d.e (d.sh.akL D x) (d.sh.aaX D x))->
 ∀e vs H y,ajC D l e vs H=some y->e≠.normal/\∃vs' H',(∀(R:Type)(k:Ex->List (AV K)->List (Ob K)->R),out y k=k e vs' H')/\Wk D vs H vs' H'/\vs'.length=vs.length
 |[],_,e,vs,H,y,h=>by simp[ajC]at h
 |d::l,hl,e,vs,H,y,h=>by
  unfold ajC at h;cases hs:Ex.same d.e e with
  |false=>rw[hs]at h;exact WU hD l (fun d hd=>hl d (by simp[hd])) e vs H y h
  |true=>
   rw[hs]at h;have he:=Ex.same_eq hs;simp only[bQ]at h;split at h
   ·rename_i x hx;simp only[dS]at h;subst h;obtain⟨h1,h2⟩:=hl d (by simp);rw[he]at h1 h2;exact⟨h1,_,_,fun R k=>h2 x R k,fP.ard hD hx,I9 hx⟩
   ·cases h
theorem retag{cx:Cx K}{n0:Nat}{st:St K}{ts:List Nat}{n:Nat}(hn:st.tm.length=n)(h0:kM st.tm){vs':List (AV K)}(hw:Wk cx.D (YA st ts) st.H vs' H')(hlen:vs'.length=ts.length):
 Goes cx n0 st ⟨iE (List.replicate n .any) ts vs',H',st.ok⟩:=by
 intro ρ S a w hn0 gz;refine⟨by show n0<=H'.length;rw[hw.len];exact hn0,ρ,S,⟨hw.heap _ _ _ gz.heap,?_,gz.defers⟩,hw.step⟩;have hsz:a.tmps.size=n:=by rw[<-hn];exact gz.slots.len.symm
 have hrep:∀t,Rep cx.D ρ S w (st.tm.getD t .any) (a.tmps.getD t undef):=fun t=>by
  rw[xA,aqF];cases hg:st.tm[t]? with
  |none=>exact .any _
  |some v=>
   obtain⟨x,hx,-⟩:=gz.slots.get hg;rw[hx];exact gz.slots.rep h0 hg hx
 have hus:ed cx.D ρ S w (YA st ts) (ts.map fun t=>a.tmps.getD t undef):=⟨by simp[YA],fun i v x h1 h2=>by
  simp only[YA,Np,Fg]at h1 h2;obtain⟨t,e1,rfl⟩:=h1;obtain⟨t',e2,rfl⟩:=h2;rw[e1]at e2;simp at e2;subst e2;exact hrep t⟩
 have aKD:=hw.aIr _ _ _ _ hus;refine KZ hsz fun i t v x h1 h2 h3=>aKD.2 i v x h2 ?_
 simp only[Np,h1,afx];rw[aqF,h3];rfl
theorem arh{D:nz K}:∀(l:List (Sh K))(x:Sh.Ts l)(i:Nat)(v:AV K),(Sh.encs D l x)[i]?=some v->v.Hz=false
 |[],x,i,v,h=>by simp[Sh.encs]at h
 |s::r,x,i,v,h=>by
  cases i with
  |zero=>
   simp only[Sh.encs,List.getElem?_cons_zero,dS]at h;subst h;cases s<;>simp only[Sh.enc]<;>rfl
  |succ i=>exact arh r x.2 i v (by simpa [Sh.encs]using h)
theorem azj{n:Nat}{ds:List Nat}{l:List (AV K)}(h:∀(i:Nat) v,l[i]?=some v->v.Hz=false):kM (iE (List.replicate n .any) ds l):=fun t g b v e=>by
 rcases EX ds l _ t _ e with h1|⟨i,-,h2⟩
 ·rw[adX]at h1;split at h1<;>cases h1
 ·have:=h i _ h2;simp[AV.Hz]at this
theorem ari{n0:Nat}{src:List (Option Nat)}{keep:List Nat}{st st':St K}(h:avt n0 src keep st=some st'):st'.tm.length=st.tm.length:=by
 unfold avt at h;split at h
 ·split at h
  ·simp only[dS]at h;subst h;simp[BN]
  ·cases h
 ·cases h
theorem Tr.goes{cx:Cx K}{n0:Nat}{c:Code}{st st1 st2:St K}{e:Ex}(h:Tr cx n0 c st e st1)(g:Goes cx n0 st1 st2):Tr cx n0 c st e st2:=fun ρ S a w hn gz=>by
 refine wp_mono (h ρ S a w hn gz) ?_
 rintro e' a' w' ⟨he,hn1,ρ1,S1,uQ,hst1⟩
 obtain⟨hn2,ρ2,S2,axI,hst2⟩:=g ρ1 S1 a' w' hn1 uQ;exact⟨he,hn2,ρ2,S2,axI,hst1.trans hst2⟩
section
variable{cx :Cx K}(hD:dX cx.D)(hc:aJ cx)(hm:cx.P.follows .mixedOrders=true){c:Code}(hl:uy cx c){n n0:Nat}{ins outs:List Nat}{sh:fP K}{Y:Type}{run:Nat->sh.T->Option Y}
 {cZ:List (gB K Y)} {out:Y->{R:Type}->(Ex->List (AV K)->List (Ob K)->R)->R}
 (h0:∀x,run 0 x=none) (hs:∀m x,yR cx c (alG cx.D n ins sh x) (aAC cx n n0 ins outs sh (run m) (ajC cx.D cZ))=run (m+1) x)
 (hx:∀d∈cZ,d.e≠.normal/\∀x (R:Type) (k:Ex->List (AV K)->List (Ob K)->R),out (d.conv x) k=k d.e (d.sh.akL cx.D x) (d.sh.aaX cx.D x))
include hD hc hm hl h0 hs hx
theorem ajD{y:Y}:∀(m:Nat)(x:sh.T),run m x=some y->∃e vs Ho,(∀(R:Type)(k:Ex->List (AV K)->List (Ob K)->R),out y k=k e vs Ho)/\
 ∀(ρ0:List Value)(S0:Nat->Prop)(H0:List (Ob K))(w0:World)(ρ:List Value)(S:Nat->Prop)(a:Act)(w:World),n0<=(alG cx.D n ins sh x).H.length->Sat cx ρ S a w (alG cx.D n ins sh x)->Step cx.D n0 ρ0 S0 H0 w0 ρ S (alG cx.D n ins sh x).H w->
  Code.rounds cx.P c (fun e' a' w'=>e'=e.PW/\n0<=Ho.length/\∃ρ' S',Sat cx ρ' S' a' w' ⟨iE (List.replicate n .any) outs vs,Ho,true⟩/\Step cx.D n0 ρ0 S0 H0 w0 ρ' S' Ho w') m a w
 |0,x,h=>by rw[h0]at h;cases h
 |m+1,x,h=>by
  rw[<-hs m x]at h;obtain⟨e,s,h1,h2,h3⟩:=su hD hc hm c hl _ _ _ h;unfold aAC at h1;have hno:kM (alG cx.D n ins sh x).tm:=azj (arh _ _);cases hok:s.ok with
  |false=>rw[hok]at h1;cases h1
  |true=>
   rw[hok]at h1;simp only[bQ]at h1;obtain⟨n1,htr⟩:=h3 hok hno;cases hlen:Nat.beq s.tm.length n with
   |false=>rw[hlen]at h1;cases h1
   |true=>
   rw[hlen]at h1;simp only[bQ]at h1;have hsn:s.tm.length=n:=YV hlen;have key:∀keep s1 s' vs' H'',RY cx s=some (true,s1)->ag3 n0 keep s1=some s'->Wk cx.D (YA s' keep) s'.H vs' H''->vs'.length=keep.length->Tr cx n0 c (alG cx.D n ins sh x) e ⟨iE (List.replicate n .any) keep vs',H'',true⟩:=fun keep s1 s' vs' H'' hcl hn hw hvl=>by
    have hr:avt n0 ((reach s1.H 64 (List.range n0++dF (keep.map fun t=>s1.tm.getD t .any)) []).map some) keep s1=some s':=hn;obtain⟨hk1,g1,g2⟩:=ade (cx:=cx) hD hr;obtain⟨c1,c2,c3,c4⟩:=afH hD hcl;have gc:Goes cx n0 s s1:=fun ρ S a w hn gz=>by
     obtain⟨q1,q2⟩:=c4 n0 ρ S a w gz;exact⟨by rw[c3];exact hn,ρ,S,q1,q2⟩
    have hl2:s1.tm.length=n:=by rw[c1];exact hsn
    have hn2:kM s1.tm:=by rw[c1];exact n1
    have:=(htr n0).goes (gc.trans ((g2 hn2).trans (retag ((ari hr).trans hl2) g1 hw hvl)));rw[hk1,c2,hok]at this;exact this
   cases e with
   |normal=>
    dsimp only at h1;split at h1
    ·rename_i b s1 hcl;cases b with
     |false=>cases h1
     |true=>
     simp only[bQ]at h1;split at h1
     ·rename_i s' hn;split at h1
      ·rename_i x' hx';obtain⟨e2,vs,Ho,q1,q2⟩:=ajD m x' h1;refine⟨e2,vs,Ho,q1,fun ρ0 S0 H0 w0 ρ S a w hn0 gz hst=>?_⟩;rw[rounds_succ];refine wp_mono (key ins s1 s' _ _ hcl hn (fP.ard hD hx') (by rw[I9 hx'];simp[YA]) ρ S a w hn0 gz) ?_
       rintro e' a' w' ⟨rfl,hn1,ρ1,S1,uQ,hst1⟩
       exact q2 ρ0 S0 H0 w0 ρ1 S1 a' w' hn1 uQ (hst.trans hst1)
      ·cases h1
     ·cases h1
    ·cases h1
   |exit id=>
    dsimp only at h1;split at h1
    ·rename_i b s1 hcl;cases b with
     |false=>cases h1
     |true=>
     simp only[bQ]at h1;split at h1
     ·rename_i s' hn;obtain⟨g1,vs',H'',g2,g3,g4⟩:=WU hD cZ hx _ _ _ _ h1;refine⟨.exit id,vs',H'',g2,fun ρ0 S0 H0 w0 ρ S a w hn0 gz hst=>?_⟩;rw[rounds_succ];refine wp_mono (key outs s1 s' _ _ hcl hn g3 (by rw[g4];simp[YA]) ρ S a w hn0 gz) ?_
      rintro e' a' w' ⟨rfl,hn1,ρ1,S1,uQ,hst1⟩
      exact⟨rfl,hn1,ρ1,S1,uQ,hst.trans hst1⟩
     ·cases h1
    ·cases h1
   |ret=>
    dsimp only at h1;split at h1
    ·rename_i b s1 hcl;cases b with
     |false=>cases h1
     |true=>
     simp only[bQ]at h1;split at h1
     ·rename_i s' hn;obtain⟨g1,vs',H'',g2,g3,g4⟩:=WU hD cZ hx _ _ _ _ h1;refine⟨.ret,vs',H'',g2,fun ρ0 S0 H0 w0 ρ S a w hn0 gz hst=>?_⟩;rw[rounds_succ];refine wp_mono (key outs s1 s' _ _ hcl hn g3 (by rw[g4];simp[YA]) ρ S a w hn0 gz) ?_
      rintro e' a' w' ⟨rfl,hn1,ρ1,S1,uQ,hst1⟩
      exact⟨rfl,hn1,ρ1,S1,uQ,hst.trans hst1⟩
     ·cases h1
    ·cases h1
theorem bf(kp:Bool)(N:Nat):bH cx c (df cx.D kp n n0 ins outs sh (run N) out):=by
 intro vals Hi R k r h;simp only[df]at h;cases hb:Nat.beq Hi.length n0 with
 |false=>rw[hb]at h;cases h
 |true=>
  rw[hb]at h;have hlen:Hi.length=n0:=YV hb;simp only[bQ]at h;split at h
  ·rename_i st hst;split at h
   ·rename_i x hx1;split at h
    ·rename_i y hy;obtain⟨e,vs,Ho,q1,q2⟩:=ajD hD hc hm hl h0 hs hx N x hy;rw[q1]at h;refine⟨e,vs,Ho,h,?_⟩;unfold aAB at hst;split at hst
     ·rename_i st1 hst1;have hst':avt n0 ((reach st1.H 64 (List.range n0++dF (ins.map fun t=>st1.tm.getD t .any)) []).map some) ins st1=some st:=hst;obtain⟨k1,g1,g2⟩:=ade (cx:=cx) hD hst1;obtain⟨k2,g3,g4⟩:=ade (cx:=cx) hD hst';intro ρ S a w hn0 gz;have hno:kM (iE (List.replicate n (AV.any:AV K)) ins vals):=fun t g b v e=>by
       rcases EX ins vals _ t _ e with h1|⟨i,h1,-⟩
       ·rw[adX]at h1;split at h1<;>cases h1
       ·unfold avt at hst1;split at hst1
        ·split at hst1
         ·rename_i ws H1 hv hm1;obtain⟨gl,gg⟩:=PZ _ _ hv;have hi:i<ws.length:=by rw[gl];simp;exact(wG.1 h1).1
          obtain⟨v0,q1,q2⟩:=gg i _ (wH hi);simp only[Np,h1,afx,dS]at q1;rw[xA,e]at q1;simp only[jR]at q1;subst q1;simp[reH]at q2
         ·cases hst1
        ·cases hst1
      have hlen1:st1.tm.length=n:=by rw[ari hst1];simp[BN]
      have hlen2:st.tm.length=n:=by rw[ari hst'];exact hlen1
      have hw:=fP.ard hD hx1;have hr:=retag (cx:=cx) (n0:=n0) hlen2 g3 hw (by rw[I9 hx1];simp[YA]);have hok:st.ok=true:=by rw[k2,k1]
      rw[hok]at hr;rw[hlen];obtain⟨hn1,ρ1,S1,uQ,hst2⟩:=((g2 hno).trans ((g4 g1).trans hr)) ρ S a w (by show n0<=Hi.length;omega) gz;exact wp_loop_rounds N (q2 ρ S Hi w ρ1 S1 a w hn1 uQ hst2)
     ·cases hst
    ·cases h
   ·cases h
  ·cases h
end
def zF:Code->List Code
 |.loop c=>[c]
 |.seq a b=>zF a++zF b
 |.cond _ a b=>zF a++zF b
 |.block _ c=>zF c
 |_=>[]
def bD(c:Code)(i:Nat):Code:=(zF c).getD i .skip
theorem Iz{cx:Cx K}:∀(c:Code),(∀b∈zF c,∀L,cx.loop (keyOf b)=some L->bH cx b L)->uy cx c
 |.loop c,h=>fun L hL=>h c (by simp[zF]) L hL
 |.seq a b,h=>⟨Iz a fun x hx=>h x (by simp[zF,hx]),Iz b fun x hx=>h x (by simp[zF,hx])⟩
 |.cond _ a b,h=>⟨Iz a fun x hx=>h x (by simp[zF,hx]),Iz b fun x hx=>h x (by simp[zF,hx])⟩
 |.block _ c,h=>Iz c h
 |.skip,_|.exit _,_|.ret,_|.region ..,_|.scope ..,_|.rangeFunc ..,_|.goto ..,_|.label ..,_|.refuse ..,_=>trivial
def azk(cx:Cx K)(c:Code):Prop:=∃L,cx.loop (keyOf c)=some L/\bH cx c L
theorem azk.mk{cx:Cx K}{c:Code}{L:cO K}(h:cx.loop (keyOf c)=some L)(ho:bH cx c L):azk cx c:=⟨L,h,ho⟩
theorem aO{cx:Cx K}{c:Code}(n:Nat)(hn:(zF c).length=n)(h:∀i,i<n->azk cx (bD c i)):uy cx c:=
 Iz c fun b hb L hL=>by
  obtain⟨i,hi,rfl⟩:=asX hb;obtain⟨L',h1,h2⟩:=h i (by omega);have e:bD c i=(zF c)[i]:=by simp[bD,xA,wH hi]
  rw[e]at h1 h2;rw[h1]at hL;simp only[dS]at hL;subst hL;exact h2
theorem af{cx:Cx K}{c:Code}(hn:(zF c).length=0):uy cx c:=aO 0 hn fun i hi=>absurd hi (ach i)
theorem bM{p:Nat->Prop}(h:p 0):∀i,i<1->p i:=fun i hi=>by
 have:i=0:=by omega
 subst this;exact h
theorem lt_succ{p:Nat->Prop}{n:Nat}(h:∀i,i<n->p i)(hn:p n):∀i,i<n+1->p i:=fun i hi=>by
 by_cases he:i=n
 ·subst he;exact hn
 ·exact h i (by omega)
def bJ(fn:Func):Code:=match fn.body with
 |some c=>c
 |none=>.skip
theorem aS{cx:Cx K}{fn:Func}(h:uy cx (bJ fn)):∀c,fn.body=some c->uy cx c:=fun c hc=>by
 have:bJ fn=c:=by unfold bJ;rw[hc]
 rw[<-this];exact h
theorem aY{α:Type _}{p:α->Prop}:∀c∈([]:List α),p c:=fun c h=>by simp at h
theorem ai{α:Type _}{p:α->Prop}{a:α}{l:List α}(h:p a)(t:∀c∈l,p c):∀c∈a::l,p c:=fun c hc=>by
 rcases AB.1 hc with rfl|hc
 ·exact h
 ·exact t c hc
theorem bg{i:Nat}:Ex.exit i≠.normal:=fun h=>by cases h
theorem dH:Ex.ret≠.normal:=fun h=>by cases h
theorem qW{D:nz K}{P:Program}{c:bG K}(h:∀x,c.run x=none):c.Ok D P:=fun x r hr=>by rw[h]at hr;cases hr
theorem arj:∃n:Nat,2^63<=n:=⟨2^63,iM _⟩
noncomputable def az:Nat:=Classical.choose arj
theorem bU:2^63<=az:=Classical.choose_spec arj
end Go.V
