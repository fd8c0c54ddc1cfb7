/-
  A FUNCTION, A LOOP, by a plain definition that they are shown to be equal to.
-/
import Derived.Test.YtbeijibjinbgcaaGreatDoorXWshape
set_option linter.unusedVariables false
namespace Go.V
open Go
variable {K :cA}{ρ ρ':List Value}{S S':Nat->Prop}{w w':World}{H H':List (Ob K)}
def lq(dp:K.U->Bool)(H:List (Ob K))(cs:List (List (Option K.U))):AV K->AV K×List (Ob K)
 |.bu l=>(.bu (eg dp H cs l).1,(eg dp H cs l).2)
 |v=>((eg dp H cs [v]).1.headD v,(eg dp H cs [v]).2)
def forgets:List Bool->List (AV K)->List (AV K)
 |[],vs=>vs
 |_::_,[]=>[]
 |true::r,_::vs=>.any::forgets r vs
 |false::r,v::vs=>v::forgets r vs
def C7:List Bool->AV K->AV K
 |[],v=>v
 |l,.bu vs=>.bu (forgets l vs)
 |true::_,_=>.any
 |false::_,v=>v
theorem Jw{D:bj K}:∀(l:List Bool)(vs:List (AV K))(us:List Value),aV D ρ S w vs us->aV D ρ S w (forgets l vs) us
 |[],vs,us,h=>by simpa only[forgets]using h
 |_::_,[],us,h=>by simpa only[forgets]using h
 |b::r,v::vs,us,h=>by
  obtain⟨u,t,rfl,h1,h2⟩:=h.gB;cases b
  ·exact .cons h1 (Jw r vs t h2)
  ·exact .cons (.any u) (Jw r vs t h2)
theorem akq{D:bj K}(l:List Bool)(v:AV K)(u:Value)(h:Rep D ρ S w v u):Rep D ρ S w (C7 l v) u:=by
 unfold C7;split
 ·exact h
 ·cases h with
  |bu hl hh=>
   have:=Jw l _ _ ⟨hl,hh⟩;exact .bu this.1 this.2
 ·exact .any _
 ·exact h
def Jy(cx:Cx K)(fz:Bool)(fn:Func)(n0:Nat){R:Type}(fin:AV K->List (Ob K)->Option R)(e:Ex)(st:St K):Option R:=
 match e with
 |.exit _=>none
 |_=>match resV cx fn st with
  |some v0=>let v:=C7 cx.VI v0
   cond st.ok (cond fz (match CV cx.mv n0 (dr (gz st.H (hands v)) v) (gz st.H (hands v))with
    |some (v',H')=>fin v' H'
    |none=>none) (match CV cx.mv n0 (lq cx.deep st.H cx.d5 v).1 (lq cx.deep st.H cx.d5 v).2 with
    |some (v',H')=>fin v' H'
    |none=>none)) none
  |none=>none
def Jz(cx:Cx K)(fz:Bool)(fn:Func)(args:List (AV K))(H:List (Ob K)){R:Type}(fin:AV K->List (Ob K)->Option R):Option R:=
 match fn.body with
 |some c=>fa cx c ⟨args++List.replicate (fn.ntmps-args.length) .any,H,true⟩ (Jy cx fz fn H.length fin)
 |none=>none
structure WO (P:Program) (f:FuncId) (fn:Func):Prop where
 get:P.funcs[f]?=some fn
 name:(fn.name== "runtime.NumGoroutine")=false
theorem JA{D:bj K}(dp:K.U->Bool):∀(css:List (List (Option K.U)))(l:List (AV K))(H:List (Ob K))(ρ:List Value)(vs:List Value),aS D ρ S w H->aV D ρ S w l vs->wQ D S w H ρ vs (eg dp H css l)
 |[],l,H,ρ,vs,hs,hr=>⟨ρ,by simpa [eg]using hs,by simpa [eg]using hr,by simpa [eg]using Step.refl,fun _ _ h=>h,by simp[eg],fun _ _ h=>by simpa [eg]using h⟩
 |cs::css,[],H,ρ,vs,hs,hr=>⟨ρ,by simpa [eg]using hs,by simpa [eg]using hr,by simpa [eg]using Step.refl,fun _ _ h=>h,by simp[eg],fun _ _ h=>by simpa [eg]using h⟩
 |cs::css,v::r,H,ρ,vs,hs,hr=>by
  obtain⟨u,t,rfl,h1,h2⟩:=hr.gB;have fin:∀(v':AV K)(p:List (AV K)×List (Ob K))(us:List Value),(∀ρ',aV D ρ' S w p.1 us->Rep D ρ' S w v' u)->wQ D S w H ρ us p->wQ D S w H ρ (u::t) (v'::(eg dp p.2 css r).1,(eg dp p.2 css r).2):=fun v' p us hv hp=>by
   obtain⟨ρ1,g1,g2,g3,g4,g5,g6⟩:=hp;obtain⟨ρ2,k1,k2,k3,k4,k5,k6⟩:=JA dp css r p.2 ρ1 t g1 (h2.mono (fun _ h=>h) (fun _ _=>rfl) g4);exact⟨ρ2,k1,.cons ((hv ρ1 g2).mono (fun _ h=>h) (fun _ _=>rfl) k4) k2,g3.trans (k3.weaken g5),fun h r hr=>k4 h r (g4 h r hr),fh g5 k5,fun h o ho=>k6 h o (g6 h o ho)⟩
  have one:∀v,Rep D ρ S w v u->eg dp H (cs::css) (v::r)=((thaw dp H cs [v]).1.headD v::(eg dp (thaw dp H cs [v]).2 css r).1,(eg dp (thaw dp H cs [v]).2 css r).2)->wQ D S w H ρ (u::t) (eg dp H (cs::css) (v::r)):=fun v h1 e=>by
   rw[e];refine fin _ _ [u] (fun ρ' hr'=>?_) (sN dp cs [v] H ρ [u] hs (.cons h1 .nil));generalize hq:(thaw dp H cs [v]).1=q at hr';cases q with
   |nil=>have:=hr'.1;simp at this
   |cons x y=>exact hr'.head
  cases v with
  |agg l=>
   cases h1 with
   |agg hl hh=>
    have e:eg dp H (cs::css) (.agg l::r)=(.agg (thaw dp H cs l).1::(eg dp (thaw dp H cs l).2 css r).1,(eg dp (thaw dp H cs l).2 css r).2):=rfl;rw[e];exact fin _ _ _ (fun ρ' hr'=>.agg hr'.1 hr'.2) (sN dp cs l H ρ _ hs ⟨hl,hh⟩)
  |_=>exact one _ h1 rfl
theorem akr{D:bj K}(dp:K.U->Bool)(cs:List (List (Option K.U)))(v:AV K)(hs:aS D ρ S w H){u:Value}(hr:Rep D ρ S w v u):
 ∃ρ',aS D ρ' S w (lq dp H cs v).2/\Rep D ρ' S w (lq dp H cs v).1 u/\Step D H.length ρ S H w ρ' S (lq dp H cs v).2 w/\H.length<=(lq dp H cs v).2.length:=by
 have one:∀v,Rep D ρ S w v u->lq dp H cs v=((eg dp H cs [v]).1.headD v,(eg dp H cs [v]).2)->∃ρ',aS D ρ' S w (lq dp H cs v).2/\Rep D ρ' S w (lq dp H cs v).1 u/\Step D H.length ρ S H w ρ' S (lq dp H cs v).2 w/\H.length<=(lq dp H cs v).2.length:=fun v hr e=>by
  rw[e];obtain⟨ρ',g1,g2,g3,g4,g5,g6⟩:=JA dp cs [v] H ρ [u] hs (.cons hr .nil);refine⟨ρ',g1,?_,g3,g5⟩;generalize hq:(eg dp H cs [v]).1=q at g2;cases q with
  |nil=>have:=g2.1;simp at this
  |cons x y=>exact g2.head
 cases v with
 |bu l=>
  cases hr with
  |bu hl hh=>
   obtain⟨ρ',g1,g2,g3,g4,g5,g6⟩:=JA dp cs l H ρ _ hs ⟨hl,hh⟩;exact⟨ρ',g1,.bu g2.1 g2.2,g3,g5⟩
 |_=>exact one _ hr rfl
theorem aks{cx:Cx K}(hD:bo cx.D){fz:Bool}{fn:Func}{n0:Nat}{R:Type}{fin:AV K->List (Ob K)->Option R}{e:Ex}{st:St K}{r:R}(h:Jy cx fz fn n0 fin e st=some r):
 st.ok=true/\(∀i,e≠.exit i)/\∃v v' H',resV cx fn st=some v/\fin v' H'=some r/\∀ρ S w,n0<=st.H.length->aS cx.D ρ S w st.H->∀u,Rep cx.D ρ S w v u->∃ρ' S',aS cx.D ρ' S' w H'/\Rep cx.D ρ' S' w v' u/\Step cx.D n0 ρ S st.H w ρ' S' H' w:=by
 have key:∀(v0:AV K)(H0:List (Ob K)) v' H',CV cx.mv n0 v0 H0=some (v',H')->∀ρ S w,n0<=H0.length->aS cx.D ρ S w H0->∀u,Rep cx.D ρ S w v0 u->∃ρ',aS cx.D ρ' S w H'/\Rep cx.D ρ' S w v' u/\Step cx.D n0 ρ S H0 w ρ' S H' w:=fun v0 H0 v' H' hp ρ S w hn hs u hr=>by
  unfold CV I0 at hp;split at hp
  ·rename_i hk;simp only[bk,bC]at hk;split at hp
   ·rename_i v'' H1 hv' hH';simp only[av,bc]at hp;obtain⟨rfl,rfl⟩:=hp;obtain⟨s1,s2,s3,s4⟩:=WQ hD hs hn hk.1 hk.2 hH';exact⟨_,s1,pQ hD s3 _ _ u hv' hr,s2⟩
   ·cases hp
  ·cases hp
 unfold Jy at h;split at h
 ·cases h
 ·rename_i hne;split at h
  ·rename_i v0 hv0;dsimp only at h;generalize hv:C7 cx.VI v0=v at h;have WR:∀{ρ S w}{u:Value},Rep cx.D ρ S w v0 u->Rep cx.D ρ S w v u:=fun hr=>by rw[<-hv];exact akq _ _ _ hr
   cases hok:st.ok with
   |false=>rw[hok]at h;cases h
   |true=>
    rw[hok]at h;simp only[aE]at h;refine⟨rfl,hne,?_⟩;cases fz with
    |false=>
     simp only[aZ]at h;split at h
     ·rename_i v' H' hp;exact⟨v0,v',H',hv0,h,fun ρ S w hn hs u hr0=>by
       have hr:=WR hr0;obtain⟨ρ1,t1,t2,t3,t4⟩:=akr cx.deep cx.d5 v hs hr;obtain⟨ρ',a,b,c⟩:=key _ _ _ _ hp ρ1 S w (fh hn t4) t1 u t2;exact⟨ρ',S,a,b,(t3.weaken hn).trans c⟩⟩
     ·cases h
    |true=>
     simp only[aE]at h;split at h
     ·rename_i v' H' hp;exact⟨v0,v',H',hv0,h,fun ρ S w hn hs u hr0=>by
       have hr:=WR hr0;obtain⟨S1,g1,g2,g3⟩:=B9 (n0:=n0) (hands v) hs;obtain⟨ρ',a,b,c⟩:=key _ _ _ _ hp ρ S1 w (by omega) g1 u (ml g1 _ _ (hr.mono g2.s1 (fun _ _=>rfl) (fun _ _ h=>h)));exact⟨ρ',S1,a,b,g2.trans c⟩⟩
     ·cases h
  ·cases h
theorem akt{cx:Cx K}(hD:bo cx.D)(hc:aH cx)(hm:cx.P.follows .mixedOrders=true){fz:Bool}{f:FuncId}{fn:Func}(hf:WO cx.P f fn)(hl:∀c,fn.body=some c->iq cx c)
 {args:List (AV K)} {R:Type} {fin:AV K->List (Ob K)->Option R} {r:R} (h:Jz cx fz fn args H fin=some r):∃v H',fin v H'=some r/\RC cx.D cx.P f args H v H':=by
 unfold Jz at h;split at h
 ·rename_i c hb;obtain⟨e,st,h1,-,h3⟩:=mz hD hc hm c (hl c hb) _ _ _ h;obtain⟨hok,hne,v,v',H',hv,hr,hfin⟩:=aks hD h1;refine⟨v',H',hr,⟨fn,hf.get,hf.name,by rw[hb];rfl⟩,fun ρ S w vals hs ha=>?_⟩;have h0:cN (args++List.replicate (fn.ntmps-args.length) (AV.any:AV K)):=fun t g b y e=>by
   rcases fY t args.length with hlt|hge
   ·rw[cD hlt]at e;obtain⟨x,-,hx⟩:=ha.get e;cases hx
   ·rw[cO hge,dR]at e;split at e<;>cases e
  obtain⟨n1,htr⟩:=h3 hok h0;refine calls_of_wp hf.get hb ?_;have bm:Sat cx ρ S {tmps:=vals.toArray++Array.replicate (fn.ntmps-vals.toArray.size) undef,defers:=[]} w ⟨args++List.replicate (fn.ntmps-args.length) .any,H,true⟩:=⟨hs,⟨by simp[ha.1],fun t v x h1 h2=>.iH (by
   rcases fY t args.length with hlt|hge
   ·rw[cD hlt]at h1;rw[Array.getElem?_append_left (by simpa [<-ha.1]using hlt)]at h2;exact ha.2 t v x h1 (by simpa using h2)
   ·rw[cO hge,dR]at h1;split at h1
    ·simp at h1;subst h1;exact .any x
    ·cases h1)⟩,rfl⟩
  refine wp_mono (htr H.length ρ S _ w (cH _) bm) ?_
  rintro e' a' w' ⟨rfl,hn,ρ1,S1,dU,hst1⟩
  obtain⟨u,hu,hr1⟩:=aku hD n1 dU hv;have WS:∃u' ρ' S',Ending.returned u=.returned u'/\aS cx.D ρ' S' w' H'/\Rep cx.D ρ' S' w' v' u'/\Step cx.D H.length ρ S H w ρ' S' H' w':=by
   obtain⟨ρ2,S2,q1,q2,q3⟩:=hfin ρ1 S1 w' hn dU.heap u hr1;exact⟨u,ρ2,S2,rfl,q1,q2,hst1.trans q3⟩
  cases e with
  |exit i=>exact absurd rfl (hne i)
  |normal=>exact⟨dU.defers,u,hu,WS⟩
  |ret=>exact⟨dU.defers,u,hu,WS⟩
 ·cases h
structure aI (K:cA) where
 f:FuncId
 sh:ax K
 R:Type
 run:sh.T->Option R
 dflt:R
 out:R->AV K×List (Ob K)
def aI.Ok(D:bj K)(P:Program)(c:aI K):Prop:=∀x r,c.run x=some r->RC D P c.f (c.sh.aU D x) (c.sh.aY D x) (c.out r).1 (c.out r).2
def callOf(D:bj K):List (aI K)->FuncId->List (AV K)->List (Ob K)->Option (AV K×List (Ob K)×Bool)
 |[],_,_,_=>none
 |c::l,f,args,H=>cond (Nat.beq c.f f) (match c.sh.dec D args H with
  |some x=>some ((c.out ((c.run x).getD c.dflt)).1,(c.out ((c.run x).getD c.dflt)).2,(c.run x).isSome)
  |none=>callOf D l f args H) (callOf D l f args H)
theorem RC.weak{D:bj K}{P:Program}{f:FuncId}{args args':List (AV K)}{r:AV K}{Ho:List (Ob K)}(hw:Wk D args H args' H')(h:RC D P f args' H' r Ho):RC D P f args H r Ho:=by
 refine⟨h.1,fun ρ S w vals hs ha=>(h.2 ρ S w vals (hw.heap _ _ _ hs) (hw.JB _ _ _ _ ha)).mono ?_⟩
 rintro e w' ⟨u,ρ',S',rfl,h1,h2,h3⟩
 rw[hw.len]at h3;exact⟨u,ρ',S',rfl,h1,h2,hw.step.trans h3⟩
theorem zj{D:bj K}(hD:bo D){P:Program}:∀(l:List (aI K)),(∀c∈l,c.Ok D P)->∀f args H r H',callOf D l f args H=some (r,H',true)->RC D P f args H r H'
 |[],_,f,args,H,r,H',h=>by simp[callOf]at h
 |c::l,hl,f,args,H,r,H',h=>by
  have ih:=zj hD l (fun c hc=>hl c (by simp[hc])) f args H r H';unfold callOf at h;cases hb:Nat.beq c.f f with
  |false=>rw[hb]at h;exact ih h
  |true=>
   rw[hb]at h;have hf:c.f=f:=yC hb;simp only[aE]at h;split at h
   ·rename_i x hx;simp only[av,bc]at h;obtain⟨h1,h2,h3⟩:=h;obtain⟨y,hy⟩:=Option.isSome_iff_exists.1 h3;rw[hy]at h1 h2;simp only[aQ]at h1 h2;have:=hl c (by simp) x y hy;rw[h1,h2,hf]at this;exact this.weak (ax.zk hD hx)
   ·exact ih h
theorem aP{cx:Cx K}(hD:bo cx.D)(l:List (aI K))(hl:∀c∈l,c.Ok cx.D cx.P)(he:cx.call=callOf cx.D l:=by exact rfl)(ha:cx.alt=fun _ _ _ _=>none:=by exact rfl)(ho:(fun(R:Type)=>cx.vY (R:=R))=fun(R:Type)(a b:Option R)=>rZ a b:=by exact rfl):aH cx:=by
 refine⟨fun f args H r H' h=>?_,fun b f args H r H' h=>?_,fun R a b r h=>?_⟩
 ·rw[he]at h;exact zj hD l hl f args H r H' h
 ·rw[ha]at h;cases h
 ·have:=congrFun ho R;rw[this]at h;exact VH h
theorem ag9{cx:Cx K}(hD:bo cx.D)(l la lw:List (aI K))(hl:∀c∈l,c.Ok cx.D cx.P)(hla:∀c∈la,c.Ok cx.D cx.P)(hlw:∀c∈lw,c.Ok cx.D cx.P)(he:cx.call=callOf cx.D l:=by exact rfl)(ha:cx.alt=fun b=>cond b (callOf cx.D la) (callOf cx.D lw):=by exact rfl)(ho:(fun(R:Type)=>cx.vY (R:=R))=fun(R:Type)(a b:Option R)=>rZ a b:=by exact rfl):aH cx:=by
 refine⟨fun f args H r H' h=>?_,fun b f args H r H' h=>?_,fun R a b r h=>?_⟩
 ·rw[he]at h;exact zj hD l hl f args H r H' h
 ·rw[ha]at h;cases b
  ·exact zj hD lw hlw f args H r H' h
  ·exact zj hD la hla f args H r H' h
 ·have:=congrFun ho R;rw[this]at h;exact VH h
def aI.frz(D:bj K)(c:aI K):aI K:={c with out:=fun r=>(gV D (c.out r).2 (c.out r).1,[])}
structure C9 (K:cA) (D:bj K) (R:Type) where
 sh:ax K
 conv:sh.T->R
def C9.fin{D:bj K}{R:Type}(d:C9 K D R)(v:AV K)(H:List (Ob K)):Option R:=match d.sh.dec D [v] H with
 |some x=>some (d.conv x)
 |none=>none
theorem aM{cx:Cx K}(hD:bo cx.D)(hc:aH cx)(hm:cx.P.follows .mixedOrders=true){c:aI K}{fz:Bool}{fn:Func}(hf:WO cx.P c.f fn)(hl:∀b,fn.body=some b->iq cx b)
 (d:C9 K cx.D c.R) (ho:∀x,([(c.out (d.conv x)).1],(c.out (d.conv x)).2)=(d.sh.aU cx.D x,d.sh.aY cx.D x)) (he:∀x,Jz cx fz fn (c.sh.aU cx.D x) (c.sh.aY cx.D x) d.fin=c.run x):c.Ok cx.D cx.P:=by
 intro x r hr;rw[<-he x]at hr;obtain⟨v,H',h1,h2⟩:=akt hD hc hm hf hl hr;unfold C9.fin at h1;split at h1
 ·rename_i y hy;simp only[av]at h1;have hw:=ax.zk hD hy;have:=ho y;simp only[bc]at this;rw[<-this.1,<-this.2]at hw;rw[h1]at hw;refine⟨h2.1,fun ρ S w vals hs ha=>(h2.2 ρ S w vals hs ha).mono ?_⟩
  rintro e w' ⟨u,ρ',S',rfl,g1,g2,g3⟩
  have:=(hw.JB _ _ _ [u] (.cons g2 .nil)).head;exact⟨u,ρ',S',rfl,hw.heap _ _ _ g1,this,g3.trans hw.step⟩
 ·cases h1
def JC(kp:Bool):Nat->List (Ob K)->List (Option Nat)×List (Option Nat)
 |_,[]=>([],[])
 |i,o::r=>match JC kp (i+1) r with
  |(a,b)=>match o with
   |.arr ..=>cond kp (some i::a,b) (none::a,some i::b)
   |.tree ..=>cond kp (some i::a,b) (none::a,some i::b)
   |_=>(some i::a,b)
def WT(kp:Bool)(n n0:Nat)(ins:List Nat)(vals:List (AV K))(Hi:List (Ob K)):Option (St K):=
 match nI n0 ((JC kp 0 Hi).1++(JC kp 0 Hi).2) ins ⟨dt (List.replicate n .any) ins vals,Hi,true⟩with
 |some st=>sF n0 ins st
 |none=>none
def ky(st:St K)(ts:List Nat):List (AV K):=ts.map fun t=>st.tm.getD t .any
def bM(D:bj K)(kp:Bool)(n n0:Nat)(ins outs:List Nat)(sh:ax K){Y:Type}(run:sh.T->Option Y)(out:Y->{R:Type}->(Ex->List (AV K)->List (Ob K)->R)->R):bD K:={
 n:=n
 ins:=ins
 outs:=outs
 run vals Hi k:=cond (Nat.beq Hi.length n0) (match WT kp n n0 ins vals Hi with
  |some st=>match sh.dec D (ky st ins) st.H with
   |some x=>match run x with
    |some y=>out y k
    |none=>none
   |none=>none
  |none=>none) none}
def WU(cx:Cx K)(n n0:Nat)(ins outs:List Nat)(sh:ax K){Y:Type}(next:sh.T->Option Y)(fin:Ex->List (AV K)->List (Ob K)->Option Y)(e:Ex)(s:St K):Option Y:=
 cond s.ok (cond (Nat.beq s.tm.length n) (match e with
  |.normal=>match qa cx s with
    |some (b,s1)=>cond b (match sF n0 ins s1 with
     |some s'=>match sh.dec cx.D (ky s' ins) s'.H with
      |some x=>next x
      |none=>none
     |none=>none) none
    |none=>none
  |e=>match qa cx s with
   |some (b,s1)=>cond b (match sF n0 outs s1 with
    |some s'=>fin e (ky s' outs) s'.H
    |none=>none) none
   |none=>none) none) none
def wR(D:bj K)(n:Nat)(ins:List Nat)(sh:ax K)(x:sh.T):St K:=⟨dt (List.replicate n .any) ins (sh.aU D x),sh.aY D x,true⟩
structure bK (K:cA) (Y:Type) where
 e:Ex
 sh:ax K
 conv:sh.T->Y
def Ex.same:Ex->Ex->Bool
 |.normal,.normal=>true
 |.exit a,.exit b=>Nat.beq a b
 |.ret,.ret=>true
 |_,_=>false
theorem Ex.same_eq{a b:Ex}(h:Ex.same a b=true):a=b:=by
 cases a<;>cases b<;>simp only[Ex.same]at h<;>first|rfl|cases h|(rw[yC h])
def zl(D:bj K){Y:Type}:List (bK K Y)->Ex->List (AV K)->List (Ob K)->Option Y
 |[],_,_,_=>none
 |d::l,e,vs,H=>cond (Ex.same d.e e) (match d.sh.dec D vs H with
  |some x=>some (d.conv x)
  |none=>none) (zl D l e vs H)
theorem WW{D:bj K}:∀(l:List (Sh K))(vs:List (AV K))(x:Sh.Ts l),Sh.dk D l vs=some x->vs.length=l.length
 |[],vs,x,h=>by
   cases vs with
   |nil=>rfl
   |cons v r=>unfold Sh.dk at h;cases h
 |s::r,vs,x,h=>by
  cases vs with
  |nil=>unfold Sh.dk at h;cases h
  |cons v l=>
   unfold Sh.dk at h;split at h
   ·rename_i a b h1 h2;simp only[cr];rw[WW r l b h2]
   ·cases h
theorem Ir{D:bj K}:∀(l:List (Sh K))(x:Sh.Ts l),(Sh.encs D l x).length=l.length
 |[],x=>rfl
 |s::r,x=>by simp only[Sh.encs,cr];rw[Ir r]
theorem JD{D:bj K}{sh:ax K}{vs:List (AV K)}{x:sh.T}(h:sh.dec D vs H=some x):(sh.aU D x).length=vs.length:=by
 unfold ax.dec at h;split at h
 ·rename_i a b h1 h2;unfold ax.aU;rw[Ir,WW _ _ _ h1]
 ·cases h
theorem JE{D:bj K}(hD:bo D){Y:Type}{out:Y->{R:Type}->(Ex->List (AV K)->List (Ob K)->R)->R}:∀(l:List (bK K Y)),(∀d∈l,d.e≠.normal/\∀x (R:Type) (k:Ex->List (AV K)->List (Ob K)->R),out (d.conv x) k=k d.e (d.sh.aU D x) (d.sh.aY D x))->
 ∀e vs H y,zl D l e vs H=some y->e≠.normal/\∃vs' H',(∀(R:Type)(k:Ex->List (AV K)->List (Ob K)->R),out y k=k e vs' H')/\Wk D vs H vs' H'/\vs'.length=vs.length
 |[],_,e,vs,H,y,h=>by simp[zl]at h
 |d::l,hl,e,vs,H,y,h=>by
  unfold zl at h;cases hs:Ex.same d.e e with
  |false=>rw[hs]at h;exact JE hD l (fun d hd=>hl d (by simp[hd])) e vs H y h
  |true=>
   rw[hs]at h;have he:=Ex.same_eq hs;simp only[aE]at h;split at h
   ·rename_i x hx;simp only[av]at h;subst h;obtain⟨h1,h2⟩:=hl d (by simp);rw[he]at h1 h2;exact⟨h1,_,_,fun R k=>h2 x R k,ax.zk hD hx,JD hx⟩
   ·cases h
theorem retag{cx:Cx K}{n0:Nat}{st:St K}{ts:List Nat}{n:Nat}(hn:st.tm.length=n)(h0:cN st.tm){vs':List (AV K)}(hw:Wk cx.D (ky st ts) st.H vs' H')(hlen:vs'.length=ts.length):
 Goes cx n0 st ⟨dt (List.replicate n .any) ts vs',H',st.ok⟩:=by
 intro ρ S a w hn0 bm;refine⟨by show n0<=H'.length;rw[hw.len];exact hn0,ρ,S,⟨hw.heap _ _ _ bm.heap,?_,bm.defers⟩,hw.step⟩;have hsz:a.tmps.size=n:=by rw[<-hn];exact bm.slots.len.symm
 have hrep:∀t,Rep cx.D ρ S w (st.tm.getD t .any) (a.tmps.getD t undef):=fun t=>by
  rw[cY,iD];cases hg:st.tm[t]? with
  |none=>exact .any _
  |some v=>
   obtain⟨x,hx,-⟩:=bm.slots.get hg;rw[hx];exact bm.slots.rep h0 hg hx
 have hus:aV cx.D ρ S w (ky st ts) (ts.map fun t=>a.tmps.getD t undef):=⟨by simp[ky],fun i v x h1 h2=>by
  simp only[ky,fG,dS]at h1 h2;obtain⟨t,e1,rfl⟩:=h1;obtain⟨t',e2,rfl⟩:=h2;rw[e1]at e2;simp at e2;subst e2;exact hrep t⟩
 have akw:=hw.JB _ _ _ _ hus;refine Jl hsz fun i t v x h1 h2 h3=>akw.2 i v x h2 ?_
 simp only[fG,h1,jL];rw[iD,h3];rfl
theorem WX{D:bj K}:∀(l:List (Sh K))(x:Sh.Ts l)(i:Nat)(v:AV K),(Sh.encs D l x)[i]?=some v->v.gY=false
 |[],x,i,v,h=>by simp[Sh.encs]at h
 |s::r,x,i,v,h=>by
  cases i with
  |zero=>
   simp only[Sh.encs,List.getElem?_cons_zero,av]at h;subst h;cases s<;>simp only[Sh.enc]<;>rfl
  |succ i=>exact WX r x.2 i v (by simpa [Sh.encs]using h)
theorem akx{n:Nat}{ds:List Nat}{l:List (AV K)}(h:∀(i:Nat) v,l[i]?=some v->v.gY=false):cN (dt (List.replicate n .any) ds l):=fun t g b v e=>by
 rcases wO ds l _ t _ e with h1|⟨i,-,h2⟩
 ·rw[dR]at h1;split at h1<;>cases h1
 ·have:=h i _ h2;simp[AV.gY]at this
theorem JF{n0:Nat}{src:List (Option Nat)}{keep:List Nat}{st st':St K}(h:nI n0 src keep st=some st'):st'.tm.length=st.tm.length:=by
 unfold nI at h;split at h
 ·split at h
  ·simp only[av]at h;subst h;simp[sJ]
  ·cases h
 ·cases h
theorem Tr.goes{cx:Cx K}{n0:Nat}{c:Code}{st st1 st2:St K}{e:Ex}(h:Tr cx n0 c st e st1)(g:Goes cx n0 st1 st2):Tr cx n0 c st e st2:=fun ρ S a w hn bm=>by
 refine wp_mono (h ρ S a w hn bm) ?_
 rintro e' a' w' ⟨he,hn1,ρ1,S1,dU,hst1⟩
 obtain⟨hn2,ρ2,S2,zd,hst2⟩:=g ρ1 S1 a' w' hn1 dU;exact⟨he,hn2,ρ2,S2,zd,hst1.trans hst2⟩
section
variable {cx :Cx K}(hD:bo cx.D)(hc:aH cx)(hm:cx.P.follows .mixedOrders=true){c:Code}(hl:iq cx c){n n0:Nat}{ins outs:List Nat}{sh:ax K}{Y:Type}{run:Nat->sh.T->Option Y}
 {bH:List (bK K Y)} {out:Y->{R:Type}->(Ex->List (AV K)->List (Ob K)->R)->R}
 (h0:∀x,run 0 x=none) (hs:∀m x,fa cx c (wR cx.D n ins sh x) (WU cx n n0 ins outs sh (run m) (zl cx.D bH))=run (m+1) x)
 (hx:∀d∈bH,d.e≠.normal/\∀x (R:Type) (k:Ex->List (AV K)->List (Ob K)->R),out (d.conv x) k=k d.e (d.sh.aU cx.D x) (d.sh.aY cx.D x))
include hD hc hm hl h0 hs hx
theorem WY{y:Y}:∀(m:Nat)(x:sh.T),run m x=some y->∃e vs Ho,(∀(R:Type)(k:Ex->List (AV K)->List (Ob K)->R),out y k=k e vs Ho)/\
 ∀(ρ0:List Value)(S0:Nat->Prop)(H0:List (Ob K))(w0:World)(ρ:List Value)(S:Nat->Prop)(a:Act)(w:World),n0<=(wR cx.D n ins sh x).H.length->Sat cx ρ S a w (wR cx.D n ins sh x)->Step cx.D n0 ρ0 S0 H0 w0 ρ S (wR cx.D n ins sh x).H w->
  Code.rounds cx.P c (fun e' a' w'=>e'=e.k9/\n0<=Ho.length/\∃ρ' S',Sat cx ρ' S' a' w' ⟨dt (List.replicate n .any) outs vs,Ho,true⟩/\Step cx.D n0 ρ0 S0 H0 w0 ρ' S' Ho w') m a w
 |0,x,h=>by rw[h0]at h;cases h
 |m+1,x,h=>by
  rw[<-hs m x]at h;obtain⟨e,s,h1,h2,h3⟩:=mz hD hc hm c hl _ _ _ h;unfold WU at h1;have hno:cN (wR cx.D n ins sh x).tm:=akx (WX _ _);cases hok:s.ok with
  |false=>rw[hok]at h1;cases h1
  |true=>
   rw[hok]at h1;simp only[aE]at h1;obtain⟨n1,htr⟩:=h3 hok hno;cases hlen:Nat.beq s.tm.length n with
   |false=>rw[hlen]at h1;cases h1
   |true=>
   rw[hlen]at h1;simp only[aE]at h1;have hsn:s.tm.length=n:=yC hlen;have key:∀keep s1 s' vs' mA,qa cx s=some (true,s1)->sF n0 keep s1=some s'->Wk cx.D (ky s' keep) s'.H vs' mA->vs'.length=keep.length->Tr cx n0 c (wR cx.D n ins sh x) e ⟨dt (List.replicate n .any) keep vs',mA,true⟩:=fun keep s1 s' vs' mA hcl hn hw hvl=>by
    have hr:nI n0 ((reach s1.H 64 (List.range n0++bq (keep.map fun t=>s1.tm.getD t .any)) []).map some) keep s1=some s':=hn;obtain⟨hk1,g1,g2⟩:=Da (cx:=cx) hD hr;obtain⟨c1,c2,c3,c4⟩:=WZ hD hcl;have gc:Goes cx n0 s s1:=fun ρ S a w hn bm=>by
     obtain⟨q1,q2⟩:=c4 n0 ρ S a w bm;exact⟨by rw[c3];exact hn,ρ,S,q1,q2⟩
    have hl2:s1.tm.length=n:=by rw[c1];exact hsn
    have hn2:cN s1.tm:=by rw[c1];exact n1
    have:=(htr n0).goes (gc.trans ((g2 hn2).trans (retag ((JF hr).trans hl2) g1 hw hvl)));rw[hk1,c2,hok]at this;exact this
   cases e with
   |normal=>
    dsimp only at h1;split at h1
    ·rename_i b s1 hcl;cases b with
     |false=>cases h1
     |true=>
     simp only[aE]at h1;split at h1
     ·rename_i s' hn;split at h1
      ·rename_i x' hx';obtain⟨e2,vs,Ho,q1,q2⟩:=WY m x' h1;refine⟨e2,vs,Ho,q1,fun ρ0 S0 H0 w0 ρ S a w hn0 bm hst=>?_⟩;rw[rounds_succ];refine wp_mono (key ins s1 s' _ _ hcl hn (ax.zk hD hx') (by rw[JD hx'];simp[ky]) ρ S a w hn0 bm) ?_
       rintro e' a' w' ⟨rfl,hn1,ρ1,S1,dU,hst1⟩
       exact q2 ρ0 S0 H0 w0 ρ1 S1 a' w' hn1 dU (hst.trans hst1)
      ·cases h1
     ·cases h1
    ·cases h1
   |exit id=>
    dsimp only at h1;split at h1
    ·rename_i b s1 hcl;cases b with
     |false=>cases h1
     |true=>
     simp only[aE]at h1;split at h1
     ·rename_i s' hn;obtain⟨g1,vs',mA,g2,g3,g4⟩:=JE hD bH hx _ _ _ _ h1;refine⟨.exit id,vs',mA,g2,fun ρ0 S0 H0 w0 ρ S a w hn0 bm hst=>?_⟩;rw[rounds_succ];refine wp_mono (key outs s1 s' _ _ hcl hn g3 (by rw[g4];simp[ky]) ρ S a w hn0 bm) ?_
      rintro e' a' w' ⟨rfl,hn1,ρ1,S1,dU,hst1⟩
      exact⟨rfl,hn1,ρ1,S1,dU,hst.trans hst1⟩
     ·cases h1
    ·cases h1
   |ret=>
    dsimp only at h1;split at h1
    ·rename_i b s1 hcl;cases b with
     |false=>cases h1
     |true=>
     simp only[aE]at h1;split at h1
     ·rename_i s' hn;obtain⟨g1,vs',mA,g2,g3,g4⟩:=JE hD bH hx _ _ _ _ h1;refine⟨.ret,vs',mA,g2,fun ρ0 S0 H0 w0 ρ S a w hn0 bm hst=>?_⟩;rw[rounds_succ];refine wp_mono (key outs s1 s' _ _ hcl hn g3 (by rw[g4];simp[ky]) ρ S a w hn0 bm) ?_
      rintro e' a' w' ⟨rfl,hn1,ρ1,S1,dU,hst1⟩
      exact⟨rfl,hn1,ρ1,S1,dU,hst.trans hst1⟩
     ·cases h1
    ·cases h1
theorem bP(kp:Bool)(N:Nat):bE cx c (bM cx.D kp n n0 ins outs sh (run N) out):=by
 intro vals Hi R k r h;simp only[bM]at h;cases hb:Nat.beq Hi.length n0 with
 |false=>rw[hb]at h;cases h
 |true=>
  rw[hb]at h;have hlen:Hi.length=n0:=yC hb;simp only[aE]at h;split at h
  ·rename_i st hst;split at h
   ·rename_i x hx1;split at h
    ·rename_i y hy;obtain⟨e,vs,Ho,q1,q2⟩:=WY hD hc hm hl h0 hs hx N x hy;rw[q1]at h;refine⟨e,vs,Ho,h,?_⟩;unfold WT at hst;split at hst
     ·rename_i st1 hst1;have hst':nI n0 ((reach st1.H 64 (List.range n0++bq (ins.map fun t=>st1.tm.getD t .any)) []).map some) ins st1=some st:=hst;obtain⟨k1,g1,g2⟩:=Da (cx:=cx) hD hst1;obtain⟨k2,g3,g4⟩:=Da (cx:=cx) hD hst';intro ρ S a w hn0 bm;have hno:cN (dt (List.replicate n (AV.any:AV K)) ins vals):=fun t g b v e=>by
       rcases wO ins vals _ t _ e with h1|⟨i,h1,-⟩
       ·rw[dR]at h1;split at h1<;>cases h1
       ·unfold nI at hst1;split at hst1
        ·split at hst1
         ·rename_i ws H1 hv hm1;obtain⟨gl,gg⟩:=sK _ _ hv;have hi:i<ws.length:=by rw[gl];simp;exact(bB.1 h1).1
          obtain⟨v0,q1,q2⟩:=gg i _ (bW hi);simp only[fG,h1,jL,av]at q1;rw[cY,e]at q1;simp only[aQ]at q1;subst q1;simp[d6]at q2
         ·cases hst1
        ·cases hst1
      have hlen1:st1.tm.length=n:=by rw[JF hst1];simp[sJ]
      have hlen2:st.tm.length=n:=by rw[JF hst'];exact hlen1
      have hw:=ax.zk hD hx1;have hr:=retag (cx:=cx) (n0:=n0) hlen2 g3 hw (by rw[JD hx1];simp[ky]);have hok:st.ok=true:=by rw[k2,k1]
      rw[hok]at hr;rw[hlen];obtain⟨hn1,ρ1,S1,dU,hst2⟩:=((g2 hno).trans ((g4 g1).trans hr)) ρ S a w (by show n0<=Hi.length;omega) bm;exact wp_loop_rounds N (q2 ρ S Hi w ρ1 S1 a w hn1 dU hst2)
     ·cases hst
    ·cases h
   ·cases h
  ·cases h
end
def i7:Code->List Code
 |.loop c=>[c]
 |.seq a b=>i7 a++i7 b
 |.cond _ a b=>i7 a++i7 b
 |.block _ c=>i7 c
 |_=>[]
def bG(c:Code)(i:Nat):Code:=(i7 c).getD i .skip
theorem wS{cx:Cx K}:∀(c:Code),(∀b∈i7 c,∀L,cx.loop (keyOf b)=some L->bE cx b L)->iq cx c
 |.loop c,h=>fun L hL=>h c (by simp[i7]) L hL
 |.seq a b,h=>⟨wS a fun x hx=>h x (by simp[i7,hx]),wS b fun x hx=>h x (by simp[i7,hx])⟩
 |.cond _ a b,h=>⟨wS a fun x hx=>h x (by simp[i7,hx]),wS b fun x hx=>h x (by simp[i7,hx])⟩
 |.block _ c,h=>wS c h
 |.skip,_|.exit _,_|.ret,_|.region ..,_|.scope ..,_|.rangeFunc ..,_|.goto ..,_|.label ..,_|.refuse ..,_=>trivial
def JG(cx:Cx K)(c:Code):Prop:=∃L,cx.loop (keyOf c)=some L/\bE cx c L
theorem JG.mk{cx:Cx K}{c:Code}{L:bD K}(h:cx.loop (keyOf c)=some L)(ho:bE cx c L):JG cx c:=⟨L,h,ho⟩
theorem bX{cx:Cx K}{c:Code}(n:Nat)(hn:(i7 c).length=n)(h:∀i,i<n->JG cx (bG c i)):iq cx c:=
 wS c fun b hb L hL=>by
  obtain⟨i,hi,rfl⟩:=jx hb;obtain⟨L',h1,h2⟩:=h i (by omega);have e:bG c i=(i7 c)[i]:=by simp[bG,cY,bW hi]
  rw[e]at h1 h2;rw[h1]at hL;simp only[av]at hL;subst hL;exact h2
theorem aJ{cx:Cx K}{c:Code}(hn:(i7 c).length=0):iq cx c:=bX 0 hn fun i hi=>absurd hi (lx i)
theorem bZ{p:Nat->Prop}(h:p 0):∀i,i<1->p i:=fun i hi=>by
 have:i=0:=by omega
 subst this;exact h
theorem lt_succ{p:Nat->Prop}{n:Nat}(h:∀i,i<n->p i)(hn:p n):∀i,i<n+1->p i:=fun i hi=>by
 by_cases he:i=n
 ·subst he;exact hn
 ·exact h i (by omega)
def bL(fn:Func):Code:=match fn.body with
 |some c=>c
 |none=>.skip
theorem aN{cx:Cx K}{fn:Func}(h:iq cx (bL fn)):∀c,fn.body=some c->iq cx c:=fun c hc=>by
 have:bL fn=c:=by unfold bL;rw[hc]
 rw[<-this];exact h
theorem ay{α:Type _}{p:α->Prop}:∀c∈([]:List α),p c:=fun c h=>by simp at h
theorem al{α:Type _}{p:α->Prop}{a:α}{l:List α}(h:p a)(t:∀c∈l,p c):∀c∈a::l,p c:=fun c hc=>by
 rcases gC.1 hc with rfl|hc
 ·exact h
 ·exact t c hc
theorem bQ{i:Nat}:Ex.exit i≠.normal:=fun h=>by cases h
theorem cz:Ex.ret≠.normal:=fun h=>by cases h
theorem ia{D:bj K}{P:Program}{c:aI K}(h:∀x,c.run x=none):c.Ok D P:=fun x r hr=>by rw[h]at hr;cases hr
theorem W0:∃n:Nat,2^63<=n:=⟨2^63,cH _⟩
noncomputable def an:Nat:=Classical.choose W0
theorem cJ:2^63<=an:=Classical.choose_spec W0
end Go.V
