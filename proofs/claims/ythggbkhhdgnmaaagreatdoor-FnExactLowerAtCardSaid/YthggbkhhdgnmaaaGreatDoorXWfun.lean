/-
  A FUNCTION, A LOOP, by a plain definition that they are shown to be equal to.
-/
import Derived.Test.YthggbkhhdgnmaaaGreatDoorXWshape
set_option linter.unusedVariables false
namespace Go.V
open Go
variable{K :dt}{ρ ρ':List Value}{S S':Nat->Prop}{w w':World}{H H':List (Ob K)}
def nO(dp:K.U->Bool)(H:List (Ob K))(cs:List (List (Option K.U))):AV K->AV K×List (Ob K)
 |.bT l=>(.bT (fy dp H cs l).1,(fy dp H cs l).2)
 |v=>((fy dp H cs [v]).1.headD v,(fy dp H cs [v]).2)
def forgets:List Bool->List (AV K)->List (AV K)
 |[],vs=>vs
 |_::_,[]=>[]
 |true::r,_::vs=>.any::forgets r vs
 |false::r,v::vs=>v::forgets r vs
def Lm:List Bool->AV K->AV K
 |[],v=>v
 |l,.bT vs=>.bT (forgets l vs)
 |true::_,_=>.any
 |false::_,v=>v
theorem QS{D:bN K}:∀(l:List Bool)(vs:List (AV K))(us:List Value),bG D ρ S w vs us->bG D ρ S w (forgets l vs) us
 |[],vs,us,h=>by simpa only[forgets]using h
 |_::_,[],us,h=>by simpa only[forgets]using h
 |b::r,v::vs,us,h=>by
  obtain⟨u,t,rfl,h1,h2⟩:=h.ij;cases b
  ·exact .cons h1 (QS r vs t h2)
  ·exact .cons (.any u) (QS r vs t h2)
theorem aBL{D:bN K}(l:List Bool)(v:AV K)(u:Value)(h:Rep D ρ S w v u):Rep D ρ S w (Lm l v) u:=by
 unfold Lm;split
 ·exact h
 ·cases h with
  |bT hl hh=>
   have:=QS l _ _ ⟨hl,hh⟩;exact .bT this.1 this.2
 ·exact .any _
 ·exact h
def QT(cx:Cx K)(fz:Bool)(fn:Func)(n0:Nat){R:Type}(fin:AV K->List (Ob K)->Option R)(e:Ex)(st:St K):Option R:=
 match e with
 |.exit _=>none
 |_=>match resV cx fn st with
  |some v0=>let v:=Lm cx.I1 v0
   cond st.ok (cond fz (match K9 cx.mv n0 (eG (iQ st.H (hands v)) v) (iQ st.H (hands v))with
    |some (v',H')=>fin v' H'
    |none=>none) (match K9 cx.mv n0 (nO cx.deep st.H cx.eJ v).1 (nO cx.deep st.H cx.eJ v).2 with
    |some (v',H')=>fin v' H'
    |none=>none)) none
  |none=>none
def IK(cx:Cx K)(fz:Bool)(fn:Func)(args:List (AV K))(H:List (Ob K)){R:Type}(fin:AV K->List (Ob K)->Option R):Option R:=
 match fn.body with
 |some c=>gh cx c ⟨args++List.replicate (fn.ntmps-args.length) .any,H,true⟩ (QT cx fz fn H.length fin)
 |none=>none
structure akW (P:Program) (f:FuncId) (fn:Func):Prop where
 get:P.funcs[f]?=some fn
 name:(fn.name== "runtime.NumGoroutine")=false
theorem QU{D:bN K}(dp:K.U->Bool):∀(css:List (List (Option K.U)))(l:List (AV K))(H:List (Ob K))(ρ:List Value)(vs:List Value),aY D ρ S w H->bG D ρ S w l vs->zT D S w H ρ vs (fy dp H css l)
 |[],l,H,ρ,vs,hs,hr=>⟨ρ,by simpa [fy]using hs,by simpa [fy]using hr,by simpa [fy]using Step.refl,fun _ _ h=>h,by simp[fy],fun _ _ h=>by simpa [fy]using h⟩
 |cs::css,[],H,ρ,vs,hs,hr=>⟨ρ,by simpa [fy]using hs,by simpa [fy]using hr,by simpa [fy]using Step.refl,fun _ _ h=>h,by simp[fy],fun _ _ h=>by simpa [fy]using h⟩
 |cs::css,v::r,H,ρ,vs,hs,hr=>by
  obtain⟨u,t,rfl,h1,h2⟩:=hr.ij;have fin:∀(v':AV K)(p:List (AV K)×List (Ob K))(us:List Value),(∀ρ',bG D ρ' S w p.1 us->Rep D ρ' S w v' u)->zT D S w H ρ us p->zT D S w H ρ (u::t) (v'::(fy dp p.2 css r).1,(fy dp p.2 css r).2):=fun v' p us hv hp=>by
   obtain⟨ρ1,g1,g2,g3,g4,g5,g6⟩:=hp;obtain⟨ρ2,k1,k2,k3,k4,k5,k6⟩:=QU dp css r p.2 ρ1 t g1 (h2.mono (fun _ h=>h) (fun _ _=>rfl) g4);exact⟨ρ2,k1,.cons ((hv ρ1 g2).mono (fun _ h=>h) (fun _ _=>rfl) k4) k2,g3.trans (k3.weaken g5),fun h r hr=>k4 h r (g4 h r hr),cN g5 k5,fun h o ho=>k6 h o (g6 h o ho)⟩
  have one:∀v,Rep D ρ S w v u->fy dp H (cs::css) (v::r)=((thaw dp H cs [v]).1.headD v::(fy dp (thaw dp H cs [v]).2 css r).1,(fy dp (thaw dp H cs [v]).2 css r).2)->zT D S w H ρ (u::t) (fy dp H (cs::css) (v::r)):=fun v h1 e=>by
   rw[e];refine fin _ _ [u] (fun ρ' hr'=>?_) (xq dp cs [v] H ρ [u] hs (.cons h1 .nil));generalize hq:(thaw dp H cs [v]).1=q at hr';cases q with
   |nil=>have:=hr'.1;simp at this
   |cons x y=>exact hr'.head
  cases v with
  |agg l=>
   cases h1 with
   |agg hl hh=>
    have e:fy dp H (cs::css) (.agg l::r)=(.agg (thaw dp H cs l).1::(fy dp (thaw dp H cs l).2 css r).1,(fy dp (thaw dp H cs l).2 css r).2):=rfl;rw[e];exact fin _ _ _ (fun ρ' hr'=>.agg hr'.1 hr'.2) (xq dp cs l H ρ _ hs ⟨hl,hh⟩)
  |_=>exact one _ h1 rfl
theorem aBM{D:bN K}(dp:K.U->Bool)(cs:List (List (Option K.U)))(v:AV K)(hs:aY D ρ S w H){u:Value}(hr:Rep D ρ S w v u):
 ∃ρ',aY D ρ' S w (nO dp H cs v).2/\Rep D ρ' S w (nO dp H cs v).1 u/\Step D H.length ρ S H w ρ' S (nO dp H cs v).2 w/\H.length<=(nO dp H cs v).2.length:=by
 have one:∀v,Rep D ρ S w v u->nO dp H cs v=((fy dp H cs [v]).1.headD v,(fy dp H cs [v]).2)->∃ρ',aY D ρ' S w (nO dp H cs v).2/\Rep D ρ' S w (nO dp H cs v).1 u/\Step D H.length ρ S H w ρ' S (nO dp H cs v).2 w/\H.length<=(nO dp H cs v).2.length:=fun v hr e=>by
  rw[e];obtain⟨ρ',g1,g2,g3,g4,g5,g6⟩:=QU dp cs [v] H ρ [u] hs (.cons hr .nil);refine⟨ρ',g1,?_,g3,g5⟩;generalize hq:(fy dp H cs [v]).1=q at g2;cases q with
  |nil=>have:=g2.1;simp at this
  |cons x y=>exact g2.head
 cases v with
 |bT l=>
  cases hr with
  |bT hl hh=>
   obtain⟨ρ',g1,g2,g3,g4,g5,g6⟩:=QU dp cs l H ρ _ hs ⟨hl,hh⟩;exact⟨ρ',g1,.bT g2.1 g2.2,g3,g5⟩
 |_=>exact one _ hr rfl
theorem aBN{cx:Cx K}(hD:bY cx.D){fz:Bool}{fn:Func}{n0:Nat}{R:Type}{fin:AV K->List (Ob K)->Option R}{e:Ex}{st:St K}{r:R}(h:QT cx fz fn n0 fin e st=some r):
 st.ok=true/\(∀i,e≠.exit i)/\∃v v' H',resV cx fn st=some v/\fin v' H'=some r/\∀ρ S w,n0<=st.H.length->aY cx.D ρ S w st.H->∀u,Rep cx.D ρ S w v u->∃ρ' S',aY cx.D ρ' S' w H'/\Rep cx.D ρ' S' w v' u/\Step cx.D n0 ρ S st.H w ρ' S' H' w:=by
 have key:∀(v0:AV K)(H0:List (Ob K)) v' H',K9 cx.mv n0 v0 H0=some (v',H')->∀ρ S w,n0<=H0.length->aY cx.D ρ S w H0->∀u,Rep cx.D ρ S w v0 u->∃ρ',aY cx.D ρ' S w H'/\Rep cx.D ρ' S w v' u/\Step cx.D n0 ρ S H0 w ρ' S H' w:=fun v0 H0 v' H' hp ρ S w hn hs u hr=>by
  unfold K9 Qm at hp;split at hp
  ·rename_i hk;simp only[bJ,bu]at hk;split at hp
   ·rename_i v'' H1 hv' hH';simp only[aA,aV]at hp;obtain⟨rfl,rfl⟩:=hp;obtain⟨s1,s2,s3,s4⟩:=akX hD hs hn hk.1 hk.2 hH';exact⟨_,s1,tI hD s3 _ _ u hv' hr,s2⟩
   ·cases hp
  ·cases hp
 unfold QT at h;split at h
 ·cases h
 ·rename_i hne;split at h
  ·rename_i v0 hv0;dsimp only at h;generalize hv:Lm cx.I1 v0=v at h;have fgt:∀{ρ S w}{u:Value},Rep cx.D ρ S w v0 u->Rep cx.D ρ S w v u:=fun hr=>by rw[<-hv];exact aBL _ _ _ hr
   cases hok:st.ok with
   |false=>rw[hok]at h;cases h
   |true=>
    rw[hok]at h;simp only[aG]at h;refine⟨rfl,hne,?_⟩;cases fz with
    |false=>
     simp only[bM]at h;split at h
     ·rename_i v' H' hp;exact⟨v0,v',H',hv0,h,fun ρ S w hn hs u hr0=>by
       have hr:=fgt hr0;obtain⟨ρ1,t1,t2,t3,t4⟩:=aBM cx.deep cx.eJ v hs hr;obtain⟨ρ',a,b,c⟩:=key _ _ _ _ hp ρ1 S w (cN hn t4) t1 u t2;exact⟨ρ',S,a,b,(t3.weaken hn).trans c⟩⟩
     ·cases h
    |true=>
     simp only[aG]at h;split at h
     ·rename_i v' H' hp;exact⟨v0,v',H',hv0,h,fun ρ S w hn hs u hr0=>by
       have hr:=fgt hr0;obtain⟨S1,g1,g2,g3⟩:=KA (n0:=n0) (hands v) hs;obtain⟨ρ',a,b,c⟩:=key _ _ _ _ hp ρ S1 w (by omega) g1 u (pD g1 _ _ (hr.mono g2.s1 (fun _ _=>rfl) (fun _ _ h=>h)));exact⟨ρ',S1,a,b,g2.trans c⟩⟩
     ·cases h
  ·cases h
theorem aBO{cx:Cx K}(hD:bY cx.D)(hc:aK cx)(hm:cx.P.follows .mixedOrders=true){fz:Bool}{f:FuncId}{fn:Func}(hf:akW cx.P f fn)(hl:∀c,fn.body=some c->iZ cx c)
 {args:List (AV K)} {R:Type} {fin:AV K->List (Ob K)->Option R} {r:R} (h:IK cx fz fn args H fin=some r):∃v H',fin v H'=some r/\RC cx.D cx.P f args H v H':=by
 unfold IK at h;split at h
 ·rename_i c hb;obtain⟨e,st,h1,-,h3⟩:=pJ hD hc hm c (hl c hb) _ _ _ h;obtain⟨hok,hne,v,v',H',hv,hr,hfin⟩:=aBN hD h1;refine⟨v',H',hr,⟨fn,hf.get,hf.name,by rw[hb];rfl⟩,fun ρ S w vals hs ha=>?_⟩;have h0:dI (args++List.replicate (fn.ntmps-args.length) (AV.any:AV K)):=fun t g b y e=>by
   rcases cJ t args.length with hlt|hge
   ·rw[dC hlt]at e;obtain⟨x,-,hx⟩:=ha.get e;cases hx
   ·rw[dH hge,jT]at e;split at e<;>cases e
  obtain⟨n1,htr⟩:=h3 hok h0;refine calls_of_wp hf.get hb ?_;have bR:Sat cx ρ S {tmps:=vals.toArray++Array.replicate (fn.ntmps-vals.toArray.size) undef,defers:=[]} w ⟨args++List.replicate (fn.ntmps-args.length) .any,H,true⟩:=⟨hs,⟨by simp[ha.1],fun t v x h1 h2=>.jS (by
   rcases cJ t args.length with hlt|hge
   ·rw[dC hlt]at h1;rw[Array.getElem?_append_left (by simpa [<-ha.1]using hlt)]at h2;exact ha.2 t v x h1 (by simpa using h2)
   ·rw[dH hge,jT]at h1;split at h1
    ·simp at h1;subst h1;exact .any x
    ·cases h1)⟩,rfl⟩
  refine wp_mono (htr H.length ρ S _ w (cr _) bR) ?_
  rintro e' a' w' ⟨rfl,hn,ρ1,S1,fq,hst1⟩
  obtain⟨u,hu,hr1⟩:=aBP hD n1 fq hv;have akZ:∃u' ρ' S',Ending.returned u=.returned u'/\aY cx.D ρ' S' w' H'/\Rep cx.D ρ' S' w' v' u'/\Step cx.D H.length ρ S H w ρ' S' H' w':=by
   obtain⟨ρ2,S2,q1,q2,q3⟩:=hfin ρ1 S1 w' hn fq.heap u hr1;exact⟨u,ρ2,S2,rfl,q1,q2,hst1.trans q3⟩
  cases e with
  |exit i=>exact absurd rfl (hne i)
  |normal=>exact⟨fq.defers,u,hu,akZ⟩
  |ret=>exact⟨fq.defers,u,hu,akZ⟩
 ·cases h
structure az (K:dt) where
 f:FuncId
 sh:aN K
 R:Type
 run:sh.T->Option R
 dflt:R
 out:R->AV K×List (Ob K)
def az.Ok(D:bN K)(P:Program)(c:az K):Prop:=∀x r,c.run x=some r->RC D P c.f (c.sh.lI D x) (c.sh.ju D x) (c.out r).1 (c.out r).2
def callOf(D:bN K):List (az K)->FuncId->List (AV K)->List (Ob K)->Option (AV K×List (Ob K)×Bool)
 |[],_,_,_=>none
 |c::l,f,args,H=>cond (Nat.beq c.f f) (match c.sh.dec D args H with
  |some x=>some ((c.out ((c.run x).getD c.dflt)).1,(c.out ((c.run x).getD c.dflt)).2,(c.run x).isSome)
  |none=>callOf D l f args H) (callOf D l f args H)
theorem RC.weak{D:bN K}{P:Program}{f:FuncId}{args args':List (AV K)}{r:AV K}{Ho:List (Ob K)}(hw:Wk D args H args' H')(h:RC D P f args' H' r Ho):RC D P f args H r Ho:=by
 refine⟨h.1,fun ρ S w vals hs ha=>(h.2 ρ S w vals (hw.heap _ _ _ hs) (hw.QV _ _ _ _ ha)).mono ?_⟩
 rintro e w' ⟨u,ρ',S',rfl,h1,h2,h3⟩
 rw[hw.len]at h3;exact⟨u,ρ',S',rfl,h1,h2,hw.step.trans h3⟩
theorem ak0{D:bN K}(hD:bY D){P:Program}:∀(l:List (az K)),(∀c∈l,c.Ok D P)->∀f args H r H',callOf D l f args H=some (r,H',true)->RC D P f args H r H'
 |[],_,f,args,H,r,H',h=>by simp[callOf]at h
 |c::l,hl,f,args,H,r,H',h=>by
  have ih:=ak0 hD l (fun c hc=>hl c (by simp[hc])) f args H r H';unfold callOf at h;cases hb:Nat.beq c.f f with
  |false=>rw[hb]at h;exact ih h
  |true=>
   rw[hb]at h;have hf:c.f=f:=Ez hb;simp only[aG]at h;split at h
   ·rename_i x hx;simp only[aA,aV]at h;obtain⟨h1,h2,h3⟩:=h;obtain⟨y,hy⟩:=Option.isSome_iff_exists.1 h3;rw[hy]at h1 h2;simp only[aZ]at h1 h2;have:=hl c (by simp) x y hy;rw[h1,h2,hf]at this;exact this.weak (aN.E8 hD hx)
   ·exact ih h
theorem aO{cx:Cx K}(hD:bY cx.D)(l:List (az K))(hl:∀c∈l,c.Ok cx.D cx.P)(he:cx.call=callOf cx.D l:=by exact rfl)(ha:cx.alt=fun _ _ _ _=>none:=by exact rfl)(ho:(fun(R:Type)=>cx.PE (R:=R))=fun(R:Type)(a b:Option R)=>P7 a b:=by exact rfl):aK cx:=by
 refine⟨fun f args H r H' h=>?_,fun b f args H r H' h=>?_,fun R a b r h=>?_⟩
 ·rw[he]at h;exact ak0 hD l hl f args H r H' h
 ·rw[ha]at h;cases h
 ·have:=congrFun ho R;rw[this]at h;exact aA6 h
def az.YZ(D:bN K)(c:az K):az K:={c with out:=fun r=>(iG D (c.out r).2 (c.out r).1,[])}
theorem az.aqL{D:bN K}(hD:bY D){P:Program}{c:az K}(h:c.Ok D P)(h0:c.sh.os=[])(hcl:∀r,(iG D (c.out r).2 (c.out r).1).closed=true):(c.YZ D).Ok D P:=by
 intro x r hr;have hH:c.sh.ju D x=[]:=by
  unfold aN.ju;have:∀(l:List (aU K))(y:aU.Ts l),l=[]->aU.encs D l y=[]:=fun l y e=>by subst e;rfl
  exact this _ _ h0
 obtain⟨h1,h2⟩:=h x r hr;refine⟨h1,fun ρ S w vals hs ha=>(h2 ρ S w vals hs ha).mono ?_⟩
 rintro e w' ⟨u,ρ',S',rfl,g1,g2,g3⟩
 show ∃u_1 ρ' S',Ending.returned u=.returned u_1/\aY D ρ' S' w' ([]:List (Ob K))/\Rep D ρ' S' w' (iG D (c.out r).2 (c.out r).1) u_1/\Step D (c.sh.ju D x).length ρ S (c.sh.ju D x) w ρ' S' ([]:List (Ob K)) w'
 change aY D ρ S w (c.sh.ju D x)at hs;rw[hH]at g3 hs⊢;have hρ:ρ=[]:=by have:=hs.len;simpa using this
 refine⟨u,[],fun b=>S' b\/Own D w' ρ' (c.out r).2 b,rfl,⟨rfl,fun _ _ _ h=>by simp at h,fun _ _ _ _ _ _ _ h=>by simp at h,fun b ⟨_,_,_,h,_⟩=>by simp at h,fun b hb=>hb.elim (g1.slt b) fun h=>(g1.lt b h).1,D.base.mono (fun _ h=>.inl h) (fun _ _=>rfl) g1.base⟩,
  (ajx hD g1 _ _ g2).closed hD (hcl r),⟨g3.os,g3.tape,g3.output,g3.size,g3.old,fun b ⟨_,_,_,h,_⟩=>by simp at h,fun b hb=>.inl (g3.s1 b hb),fun b hb=>?_,fun h hh=>by simp at hh⟩⟩
 rcases hb with hb|hb
 ·exact g3.s2 b hb
 ·exact .inr (g3.own b hb)
structure CX (K:dt) (D:bN K) (R:Type) where
 sh:aN K
 conv:sh.T->R
def CX.fin{D:bN K}{R:Type}(d:CX K D R)(v:AV K)(H:List (Ob K)):Option R:=match d.sh.dec D [v] H with
 |some x=>some (d.conv x)
 |none=>none
theorem fb{cx:Cx K}(hD:bY cx.D)(hc:aK cx)(hm:cx.P.follows .mixedOrders=true){c:az K}{fz:Bool}{fn:Func}(hf:akW cx.P c.f fn)(hl:∀b,fn.body=some b->iZ cx b)
 (d:CX K cx.D c.R) (ho:∀x,([(c.out (d.conv x)).1],(c.out (d.conv x)).2)=(d.sh.lI cx.D x,d.sh.ju cx.D x)) (he:∀x,IK cx fz fn (c.sh.lI cx.D x) (c.sh.ju cx.D x) d.fin=c.run x):c.Ok cx.D cx.P:=by
 intro x r hr;rw[<-he x]at hr;obtain⟨v,H',h1,h2⟩:=aBO hD hc hm hf hl hr;unfold CX.fin at h1;split at h1
 ·rename_i y hy;simp only[aA]at h1;have hw:=aN.E8 hD hy;have:=ho y;simp only[aV]at this;rw[<-this.1,<-this.2]at hw;rw[h1]at hw;refine⟨h2.1,fun ρ S w vals hs ha=>(h2.2 ρ S w vals hs ha).mono ?_⟩
  rintro e w' ⟨u,ρ',S',rfl,g1,g2,g3⟩
  have:=(hw.QV _ _ _ [u] (.cons g2 .nil)).head;exact⟨u,ρ',S',rfl,hw.heap _ _ _ g1,this,g3.trans hw.step⟩
 ·cases h1
def QW(kp:Bool):Nat->List (Ob K)->List (Option Nat)×List (Option Nat)
 |_,[]=>([],[])
 |i,o::r=>match QW kp (i+1) r with
  |(a,b)=>match o with
   |.arr ..=>cond kp (some i::a,b) (none::a,some i::b)
   |.tree ..=>cond kp (some i::a,b) (none::a,some i::b)
   |_=>(some i::a,b)
def ak2(kp:Bool)(n n0:Nat)(ins:List Nat)(vals:List (AV K))(Hi:List (Ob K)):Option (St K):=
 match qT n0 ((QW kp 0 Hi).1++(QW kp 0 Hi).2) ins ⟨en (List.replicate n .any) ins vals,Hi,true⟩with
 |some st=>xj n0 ins st
 |none=>none
def mL(st:St K)(ts:List Nat):List (AV K):=ts.map fun t=>st.tm.getD t .any
def bA(D:bN K)(kp:Bool)(n n0:Nat)(ins outs:List Nat)(sh:aN K){Y:Type}(run:sh.T->Option Y)(out:Y->{R:Type}->(Ex->List (AV K)->List (Ob K)->R)->R):bo K:={
 n:=n
 ins:=ins
 outs:=outs
 run vals Hi k:=cond (Nat.beq Hi.length n0) (match ak2 kp n n0 ins vals Hi with
  |some st=>match sh.dec D (mL st ins) st.H with
   |some x=>match run x with
    |some y=>out y k
    |none=>none
   |none=>none
  |none=>none) none}
def ak3(cx:Cx K)(n n0:Nat)(ins outs:List Nat)(sh:aN K){Y:Type}(next:sh.T->Option Y)(fin:Ex->List (AV K)->List (Ob K)->Option Y)(e:Ex)(s:St K):Option Y:=
 cond s.ok (cond (Nat.beq s.tm.length n) (match e with
  |.normal=>match tU cx s with
    |some (b,s1)=>cond b (match xj n0 ins s1 with
     |some s'=>match sh.dec cx.D (mL s' ins) s'.H with
      |some x=>next x
      |none=>none
     |none=>none) none
    |none=>none
  |e=>match tU cx s with
   |some (b,s1)=>cond b (match xj n0 outs s1 with
    |some s'=>fin e (mL s' outs) s'.H
    |none=>none) none
   |none=>none) none) none
def zU(D:bN K)(n:Nat)(ins:List Nat)(sh:aN K)(x:sh.T):St K:=⟨en (List.replicate n .any) ins (sh.lI D x),sh.ju D x,true⟩
structure cF (K:dt) (Y:Type) where
 e:Ex
 sh:aN K
 conv:sh.T->Y
def Ex.same:Ex->Ex->Bool
 |.normal,.normal=>true
 |.exit a,.exit b=>Nat.beq a b
 |.ret,.ret=>true
 |_,_=>false
theorem Ex.same_eq{a b:Ex}(h:Ex.same a b=true):a=b:=by
 cases a<;>cases b<;>simp only[Ex.same]at h<;>first|rfl|cases h|(rw[Ez h])
def E9(D:bN K){Y:Type}:List (cF K Y)->Ex->List (AV K)->List (Ob K)->Option Y
 |[],_,_,_=>none
 |d::l,e,vs,H=>cond (Ex.same d.e e) (match d.sh.dec D vs H with
  |some x=>some (d.conv x)
  |none=>none) (E9 D l e vs H)
theorem ak4{D:bN K}:∀(l:List (Sh K))(vs:List (AV K))(x:Sh.Ts l),Sh.ej D l vs=some x->vs.length=l.length
 |[],vs,x,h=>by
   cases vs with
   |nil=>rfl
   |cons v r=>unfold Sh.ej at h;cases h
 |s::r,vs,x,h=>by
  cases vs with
  |nil=>unfold Sh.ej at h;cases h
  |cons v l=>
   unfold Sh.ej at h;split at h
   ·rename_i a b h1 h2;simp only[cD];rw[ak4 r l b h2]
   ·cases h
theorem PR{D:bN K}:∀(l:List (Sh K))(x:Sh.Ts l),(Sh.encs D l x).length=l.length
 |[],x=>rfl
 |s::r,x=>by simp only[Sh.encs,cD];rw[PR r]
theorem pf{D:bN K}{sh:aN K}{vs:List (AV K)}{x:sh.T}(h:sh.dec D vs H=some x):(sh.lI D x).length=vs.length:=by
 unfold aN.dec at h;split at h
 ·rename_i a b h1 h2;unfold aN.lI;rw[PR,ak4 _ _ _ h1]
 ·cases h
theorem QX{D:bN K}(hD:bY D){Y:Type}{out:Y->{R:Type}->(Ex->List (AV K)->List (Ob K)->R)->R}:∀(l:List (cF K Y)),(∀d∈l,d.e≠.normal/\∀x (R:Type) (k:Ex->List (AV K)->List (Ob K)->R),out (d.conv x) k=k d.e (d.sh.lI D x) (d.sh.ju D x))->
 ∀e vs H y,E9 D l e vs H=some y->e≠.normal/\∃vs' H',(∀(R:Type)(k:Ex->List (AV K)->List (Ob K)->R),out y k=k e vs' H')/\Wk D vs H vs' H'/\vs'.length=vs.length
 |[],_,e,vs,H,y,h=>by simp[E9]at h
 |d::l,hl,e,vs,H,y,h=>by
  unfold E9 at h;cases hs:Ex.same d.e e with
  |false=>rw[hs]at h;exact QX hD l (fun d hd=>hl d (by simp[hd])) e vs H y h
  |true=>
   rw[hs]at h;have he:=Ex.same_eq hs;simp only[aG]at h;split at h
   ·rename_i x hx;simp only[aA]at h;subst h;obtain⟨h1,h2⟩:=hl d (by simp);rw[he]at h1 h2;exact⟨h1,_,_,fun R k=>h2 x R k,aN.E8 hD hx,pf hx⟩
   ·cases h
theorem retag{cx:Cx K}{n0:Nat}{st:St K}{ts:List Nat}{n:Nat}(hn:st.tm.length=n)(h0:dI st.tm){vs':List (AV K)}(hw:Wk cx.D (mL st ts) st.H vs' H')(hlen:vs'.length=ts.length):
 Goes cx n0 st ⟨en (List.replicate n .any) ts vs',H',st.ok⟩:=by
 intro ρ S a w hn0 bR;refine⟨by show n0<=H'.length;rw[hw.len];exact hn0,ρ,S,⟨hw.heap _ _ _ bR.heap,?_,bR.defers⟩,hw.step⟩;have hsz:a.tmps.size=n:=by rw[<-hn];exact bR.slots.len.symm
 have hrep:∀t,Rep cx.D ρ S w (st.tm.getD t .any) (a.tmps.getD t undef):=fun t=>by
  rw[dK,nD];cases hg:st.tm[t]? with
  |none=>exact .any _
  |some v=>
   obtain⟨x,hx,-⟩:=bR.slots.get hg;rw[hx];exact bR.slots.rep h0 hg hx
 have hus:bG cx.D ρ S w (mL st ts) (ts.map fun t=>a.tmps.getD t undef):=⟨by simp[mL],fun i v x h1 h2=>by
  simp only[mL,gn,fi]at h1 h2;obtain⟨t,e1,rfl⟩:=h1;obtain⟨t',e2,rfl⟩:=h2;rw[e1]at e2;simp at e2;subst e2;exact hrep t⟩
 have aBQ:=hw.QV _ _ _ _ hus;refine QH hsz fun i t v x h1 h2 h3=>aBQ.2 i v x h2 ?_
 simp only[gn,h1,px];rw[nD,h3];rfl
theorem ak5{D:bN K}:∀(l:List (Sh K))(x:Sh.Ts l)(i:Nat)(v:AV K),(Sh.encs D l x)[i]?=some v->v.jj=false
 |[],x,i,v,h=>by simp[Sh.encs]at h
 |s::r,x,i,v,h=>by
  cases i with
  |zero=>
   simp only[Sh.encs,List.getElem?_cons_zero,aA]at h;subst h;cases s<;>simp only[Sh.enc]<;>rfl
  |succ i=>exact ak5 r x.2 i v (by simpa [Sh.encs]using h)
theorem aBR{n:Nat}{ds:List Nat}{l:List (AV K)}(h:∀(i:Nat) v,l[i]?=some v->v.jj=false):dI (en (List.replicate n .any) ds l):=fun t g b v e=>by
 rcases zR ds l _ t _ e with h1|⟨i,-,h2⟩
 ·rw[jT]at h1;split at h1<;>cases h1
 ·have:=h i _ h2;simp[AV.jj]at this
theorem QY{n0:Nat}{src:List (Option Nat)}{keep:List Nat}{st st':St K}(h:qT n0 src keep st=some st'):st'.tm.length=st.tm.length:=by
 unfold qT at h;split at h
 ·split at h
  ·simp only[aA]at h;subst h;simp[xm]
  ·cases h
 ·cases h
theorem Tr.goes{cx:Cx K}{n0:Nat}{c:Code}{st st1 st2:St K}{e:Ex}(h:Tr cx n0 c st e st1)(g:Goes cx n0 st1 st2):Tr cx n0 c st e st2:=fun ρ S a w hn bR=>by
 refine wp_mono (h ρ S a w hn bR) ?_
 rintro e' a' w' ⟨he,hn1,ρ1,S1,fq,hst1⟩
 obtain⟨hn2,ρ2,S2,E2,hst2⟩:=g ρ1 S1 a' w' hn1 fq;exact⟨he,hn2,ρ2,S2,E2,hst1.trans hst2⟩
section
variable{cx :Cx K}(hD:bY cx.D)(hc:aK cx)(hm:cx.P.follows .mixedOrders=true){c:Code}(hl:iZ cx c){n n0:Nat}{ins outs:List Nat}{sh:aN K}{Y:Type}{run:Nat->sh.T->Option Y}
 {bq:List (cF K Y)} {out:Y->{R:Type}->(Ex->List (AV K)->List (Ob K)->R)->R}
 (h0:∀x,run 0 x=none) (hs:∀m x,gh cx c (zU cx.D n ins sh x) (ak3 cx n n0 ins outs sh (run m) (E9 cx.D bq))=run (m+1) x)
 (hx:∀d∈bq,d.e≠.normal/\∀x (R:Type) (k:Ex->List (AV K)->List (Ob K)->R),out (d.conv x) k=k d.e (d.sh.lI cx.D x) (d.sh.ju cx.D x))
include hD hc hm hl h0 hs hx
theorem ak6{y:Y}:∀(m:Nat)(x:sh.T),run m x=some y->∃e vs Ho,(∀(R:Type)(k:Ex->List (AV K)->List (Ob K)->R),out y k=k e vs Ho)/\
 ∀(ρ0:List Value)(S0:Nat->Prop)(H0:List (Ob K))(w0:World)(ρ:List Value)(S:Nat->Prop)(a:Act)(w:World),n0<=(zU cx.D n ins sh x).H.length->Sat cx ρ S a w (zU cx.D n ins sh x)->Step cx.D n0 ρ0 S0 H0 w0 ρ S (zU cx.D n ins sh x).H w->
  Code.rounds cx.P c (fun e' a' w'=>e'=e.nI/\n0<=Ho.length/\∃ρ' S',Sat cx ρ' S' a' w' ⟨en (List.replicate n .any) outs vs,Ho,true⟩/\Step cx.D n0 ρ0 S0 H0 w0 ρ' S' Ho w') m a w
 |0,x,h=>by rw[h0]at h;cases h
 |m+1,x,h=>by
  rw[<-hs m x]at h;obtain⟨e,s,h1,h2,h3⟩:=pJ hD hc hm c hl _ _ _ h;unfold ak3 at h1;have hno:dI (zU cx.D n ins sh x).tm:=aBR (ak5 _ _);cases hok:s.ok with
  |false=>rw[hok]at h1;cases h1
  |true=>
   rw[hok]at h1;simp only[aG]at h1;obtain⟨n1,htr⟩:=h3 hok hno;cases hlen:Nat.beq s.tm.length n with
   |false=>rw[hlen]at h1;cases h1
   |true=>
   rw[hlen]at h1;simp only[aG]at h1;have hsn:s.tm.length=n:=Ez hlen;have key:∀keep s1 s' vs' pK,tU cx s=some (true,s1)->xj n0 keep s1=some s'->Wk cx.D (mL s' keep) s'.H vs' pK->vs'.length=keep.length->Tr cx n0 c (zU cx.D n ins sh x) e ⟨en (List.replicate n .any) keep vs',pK,true⟩:=fun keep s1 s' vs' pK hcl hn hw hvl=>by
    have hr:qT n0 ((reach s1.H 64 (List.range n0++cn (keep.map fun t=>s1.tm.getD t .any)) []).map some) keep s1=some s':=hn;obtain⟨hk1,g1,g2⟩:=Ln (cx:=cx) hD hr;obtain⟨c1,c2,c3,c4⟩:=ak7 hD hcl;have gc:Goes cx n0 s s1:=fun ρ S a w hn bR=>by
     obtain⟨q1,q2⟩:=c4 n0 ρ S a w bR;exact⟨by rw[c3];exact hn,ρ,S,q1,q2⟩
    have hl2:s1.tm.length=n:=by rw[c1];exact hsn
    have hn2:dI s1.tm:=by rw[c1];exact n1
    have:=(htr n0).goes (gc.trans ((g2 hn2).trans (retag ((QY hr).trans hl2) g1 hw hvl)));rw[hk1,c2,hok]at this;exact this
   cases e with
   |normal=>
    dsimp only at h1;split at h1
    ·rename_i b s1 hcl;cases b with
     |false=>cases h1
     |true=>
     simp only[aG]at h1;split at h1
     ·rename_i s' hn;split at h1
      ·rename_i x' hx';obtain⟨e2,vs,Ho,q1,q2⟩:=ak6 m x' h1;refine⟨e2,vs,Ho,q1,fun ρ0 S0 H0 w0 ρ S a w hn0 bR hst=>?_⟩;rw[rounds_succ];refine wp_mono (key ins s1 s' _ _ hcl hn (aN.E8 hD hx') (by rw[pf hx'];simp[mL]) ρ S a w hn0 bR) ?_
       rintro e' a' w' ⟨rfl,hn1,ρ1,S1,fq,hst1⟩
       exact q2 ρ0 S0 H0 w0 ρ1 S1 a' w' hn1 fq (hst.trans hst1)
      ·cases h1
     ·cases h1
    ·cases h1
   |exit id=>
    dsimp only at h1;split at h1
    ·rename_i b s1 hcl;cases b with
     |false=>cases h1
     |true=>
     simp only[aG]at h1;split at h1
     ·rename_i s' hn;obtain⟨g1,vs',pK,g2,g3,g4⟩:=QX hD bq hx _ _ _ _ h1;refine⟨.exit id,vs',pK,g2,fun ρ0 S0 H0 w0 ρ S a w hn0 bR hst=>?_⟩;rw[rounds_succ];refine wp_mono (key outs s1 s' _ _ hcl hn g3 (by rw[g4];simp[mL]) ρ S a w hn0 bR) ?_
      rintro e' a' w' ⟨rfl,hn1,ρ1,S1,fq,hst1⟩
      exact⟨rfl,hn1,ρ1,S1,fq,hst.trans hst1⟩
     ·cases h1
    ·cases h1
   |ret=>
    dsimp only at h1;split at h1
    ·rename_i b s1 hcl;cases b with
     |false=>cases h1
     |true=>
     simp only[aG]at h1;split at h1
     ·rename_i s' hn;obtain⟨g1,vs',pK,g2,g3,g4⟩:=QX hD bq hx _ _ _ _ h1;refine⟨.ret,vs',pK,g2,fun ρ0 S0 H0 w0 ρ S a w hn0 bR hst=>?_⟩;rw[rounds_succ];refine wp_mono (key outs s1 s' _ _ hcl hn g3 (by rw[g4];simp[mL]) ρ S a w hn0 bR) ?_
      rintro e' a' w' ⟨rfl,hn1,ρ1,S1,fq,hst1⟩
      exact⟨rfl,hn1,ρ1,S1,fq,hst.trans hst1⟩
     ·cases h1
    ·cases h1
theorem bB(kp:Bool)(N:Nat):bp cx c (bA cx.D kp n n0 ins outs sh (run N) out):=by
 intro vals Hi R k r h;simp only[bA]at h;cases hb:Nat.beq Hi.length n0 with
 |false=>rw[hb]at h;cases h
 |true=>
  rw[hb]at h;have hlen:Hi.length=n0:=Ez hb;simp only[aG]at h;split at h
  ·rename_i st hst;split at h
   ·rename_i x hx1;split at h
    ·rename_i y hy;obtain⟨e,vs,Ho,q1,q2⟩:=ak6 hD hc hm hl h0 hs hx N x hy;rw[q1]at h;refine⟨e,vs,Ho,h,?_⟩;unfold ak2 at hst;split at hst
     ·rename_i st1 hst1;have hst':qT n0 ((reach st1.H 64 (List.range n0++cn (ins.map fun t=>st1.tm.getD t .any)) []).map some) ins st1=some st:=hst;obtain⟨k1,g1,g2⟩:=Ln (cx:=cx) hD hst1;obtain⟨k2,g3,g4⟩:=Ln (cx:=cx) hD hst';intro ρ S a w hn0 bR;have hno:dI (en (List.replicate n (AV.any:AV K)) ins vals):=fun t g b v e=>by
       rcases zR ins vals _ t _ e with h1|⟨i,h1,-⟩
       ·rw[jT]at h1;split at h1<;>cases h1
       ·unfold qT at hst1;split at hst1
        ·split at hst1
         ·rename_i ws H1 hv hm1;obtain⟨gl,gg⟩:=xn _ _ hv;have hi:i<ws.length:=by rw[gl];simp;exact(cy.1 h1).1
          obtain⟨v0,q1,q2⟩:=gg i _ (cw hi);simp only[gn,h1,px,aA]at q1;rw[dK,e]at q1;simp only[aZ]at q1;subst q1;simp[fx]at q2
         ·cases hst1
        ·cases hst1
      have hlen1:st1.tm.length=n:=by rw[QY hst1];simp[xm]
      have hlen2:st.tm.length=n:=by rw[QY hst'];exact hlen1
      have hw:=aN.E8 hD hx1;have hr:=retag (cx:=cx) (n0:=n0) hlen2 g3 hw (by rw[pf hx1];simp[mL]);have hok:st.ok=true:=by rw[k2,k1]
      rw[hok]at hr;rw[hlen];obtain⟨hn1,ρ1,S1,fq,hst2⟩:=((g2 hno).trans ((g4 g1).trans hr)) ρ S a w (by show n0<=Hi.length;omega) bR;exact wp_loop_rounds N (q2 ρ S Hi w ρ1 S1 a w hn1 fq hst2)
     ·cases hst
    ·cases h
   ·cases h
  ·cases h
end
def kC:Code->List Code
 |.loop c=>[c]
 |.seq a b=>kC a++kC b
 |.cond _ a b=>kC a++kC b
 |.block _ c=>kC c
 |_=>[]
def bm(c:Code)(i:Nat):Code:=(kC c).getD i .skip
theorem zV{cx:Cx K}:∀(c:Code),(∀b∈kC c,∀L,cx.loop (keyOf b)=some L->bp cx b L)->iZ cx c
 |.loop c,h=>fun L hL=>h c (by simp[kC]) L hL
 |.seq a b,h=>⟨zV a fun x hx=>h x (by simp[kC,hx]),zV b fun x hx=>h x (by simp[kC,hx])⟩
 |.cond _ a b,h=>⟨zV a fun x hx=>h x (by simp[kC,hx]),zV b fun x hx=>h x (by simp[kC,hx])⟩
 |.block _ c,h=>zV c h
 |.skip,_|.exit _,_|.ret,_|.region ..,_|.scope ..,_|.rangeFunc ..,_|.goto ..,_|.label ..,_|.refuse ..,_=>trivial
def QZ(cx:Cx K)(c:Code):Prop:=∃L,cx.loop (keyOf c)=some L/\bp cx c L
theorem QZ.mk{cx:Cx K}{c:Code}{L:bo K}(h:cx.loop (keyOf c)=some L)(ho:bp cx c L):QZ cx c:=⟨L,h,ho⟩
theorem bH{cx:Cx K}{c:Code}(n:Nat)(hn:(kC c).length=n)(h:∀i,i<n->QZ cx (bm c i)):iZ cx c:=
 zV c fun b hb L hL=>by
  obtain⟨i,hi,rfl⟩:=jZ hb;obtain⟨L',h1,h2⟩:=h i (by omega);have e:bm c i=(kC c)[i]:=by simp[bm,dK,cw hi]
  rw[e]at h1 h2;rw[h1]at hL;simp only[aA]at hL;subst hL;exact h2
theorem aE{cx:Cx K}{c:Code}(hn:(kC c).length=0):iZ cx c:=bH 0 hn fun i hi=>absurd hi (jy i)
theorem bI{p:Nat->Prop}(h:p 0):∀i,i<1->p i:=fun i hi=>by
 have:i=0:=by omega
 subst this;exact h
theorem lt_succ{p:Nat->Prop}{n:Nat}(h:∀i,i<n->p i)(hn:p n):∀i,i<n+1->p i:=fun i hi=>by
 by_cases he:i=n
 ·subst he;exact hn
 ·exact h i (by omega)
def bw(fn:Func):Code:=match fn.body with
 |some c=>c
 |none=>.skip
theorem aH{cx:Cx K}{fn:Func}(h:iZ cx (bw fn)):∀c,fn.body=some c->iZ cx c:=fun c hc=>by
 have:bw fn=c:=by unfold bw;rw[hc]
 rw[<-this];exact h
theorem an{α:Type _}{p:α->Prop}:∀c∈([]:List α),p c:=fun c h=>by simp at h
theorem af{α:Type _}{p:α->Prop}{a:α}{l:List α}(h:p a)(t:∀c∈l,p c):∀c∈a::l,p c:=fun c hc=>by
 rcases eH.1 hc with rfl|hc
 ·exact h
 ·exact t c hc
theorem bC{i:Nat}:Ex.exit i≠.normal:=fun h=>by cases h
theorem cm:Ex.ret≠.normal:=fun h=>by cases h
theorem ic{D:bN K}{P:Program}{c:az K}(h:∀x,c.run x=none):c.Ok D P:=fun x r hr=>by rw[h]at hr;cases hr
theorem ak8:∃n:Nat,2^63<=n:=⟨2^63,cr _⟩
noncomputable def ae:Nat:=Classical.choose ak8
theorem bS:2^63<=ae:=Classical.choose_spec ak8
end Go.V
