/-
  A FUNCTION, A LOOP, by a plain definition that they are shown to be equal to.
-/
import Derived.Test.YtalddlopgnfpaaaGreatDoorXWshape
set_option linter.unusedVariables false
namespace Go.V
open Go
variable {K :cE}{ρ ρ':List Value}{S S':Nat->Prop}{w w':World}{H H':List (Ob K)}
def nw(dp:K.U->Bool)(H:List (Ob K))(cs:List (List (Option K.U))):AV K->AV K×List (Ob K)
 |.aV l=>(.aV (eK dp H cs l).1,(eK dp H cs l).2)
 |v=>((eK dp H cs [v]).1.headD v,(eK dp H cs [v]).2)
def forgets:List Bool->List (AV K)->List (AV K)
 |[],vs=>vs
 |_::_,[]=>[]
 |true::r,_::vs=>.any::forgets r vs
 |false::r,v::vs=>v::forgets r vs
def Gw:List Bool->AV K->AV K
 |[],v=>v
 |l,.aV vs=>.aV (forgets l vs)
 |true::_,_=>.any
 |false::_,v=>v
theorem Nv{D:bc K}:∀(l:List Bool)(vs:List (AV K))(us:List Value),aS D ρ S w vs us->aS D ρ S w (forgets l vs) us
 |[],vs,us,h=>by simpa only[forgets]using h
 |_::_,[],us,h=>by simpa only[forgets]using h
 |b::r,v::vs,us,h=>by
  obtain⟨u,t,rfl,h1,h2⟩:=h.fX;cases b
  ·exact .cons h1 (Nv r vs t h2)
  ·exact .cons (.any u) (Nv r vs t h2)
theorem aon{D:bc K}(l:List Bool)(v:AV K)(u:Value)(h:Rep D ρ S w v u):Rep D ρ S w (Gw l v) u:=by
 unfold Gw;split
 ·exact h
 ·cases h with
  |aV hl hh=>
   have:=Nv l _ _ ⟨hl,hh⟩;exact .aV this.1 this.2
 ·exact .any _
 ·exact h
def Nw(cx:Cx K)(fz:Bool)(fn:Func)(n0:Nat){R:Type}(fin:AV K->List (Ob K)->Option R)(e:Ex)(st:St K):Option R:=
 match e with
 |.exit _=>none
 |_=>match resV cx fn st with
  |some v0=>let v:=Gw cx.ZV v0
   cond st.ok (cond fz (match Gm cx.mv n0 (dH (iK st.H (hands v)) v) (iK st.H (hands v))with
    |some (v',H')=>fin v' H'
    |none=>none) (match Gm cx.mv n0 (nw cx.deep st.H cx.fq v).1 (nw cx.deep st.H cx.fq v).2 with
    |some (v',H')=>fin v' H'
    |none=>none)) none
  |none=>none
def Nx(cx:Cx K)(fz:Bool)(fn:Func)(args:List (AV K))(H:List (Ob K)){R:Type}(fin:AV K->List (Ob K)->Option R):Option R:=
 match fn.body with
 |some c=>fD cx c ⟨args++List.replicate (fn.ntmps-args.length) .any,H,true⟩ (Nw cx fz fn H.length fin)
 |none=>none
structure aaS (P:Program) (f:FuncId) (fn:Func):Prop where
 get:P.funcs[f]?=some fn
 name:(fn.name== "runtime.NumGoroutine")=false
theorem Ny{D:bc K}(dp:K.U->Bool):∀(css:List (List (Option K.U)))(l:List (AV K))(H:List (Ob K))(ρ:List Value)(vs:List Value),aN D ρ S w H->aS D ρ S w l vs->zq D S w H ρ vs (eK dp H css l)
 |[],l,H,ρ,vs,hs,hr=>⟨ρ,by simpa [eK]using hs,by simpa [eK]using hr,by simpa [eK]using Step.refl,fun _ _ h=>h,by simp[eK],fun _ _ h=>by simpa [eK]using h⟩
 |cs::css,[],H,ρ,vs,hs,hr=>⟨ρ,by simpa [eK]using hs,by simpa [eK]using hr,by simpa [eK]using Step.refl,fun _ _ h=>h,by simp[eK],fun _ _ h=>by simpa [eK]using h⟩
 |cs::css,v::r,H,ρ,vs,hs,hr=>by
  obtain⟨u,t,rfl,h1,h2⟩:=hr.fX;have fin:∀(v':AV K)(p:List (AV K)×List (Ob K))(us:List Value),(∀ρ',aS D ρ' S w p.1 us->Rep D ρ' S w v' u)->zq D S w H ρ us p->zq D S w H ρ (u::t) (v'::(eK dp p.2 css r).1,(eK dp p.2 css r).2):=fun v' p us hv hp=>by
   obtain⟨ρ1,g1,g2,g3,g4,g5,g6⟩:=hp;obtain⟨ρ2,k1,k2,k3,k4,k5,k6⟩:=Ny dp css r p.2 ρ1 t g1 (h2.mono (fun _ h=>h) (fun _ _=>rfl) g4);exact⟨ρ2,k1,.cons ((hv ρ1 g2).mono (fun _ h=>h) (fun _ _=>rfl) k4) k2,g3.trans (k3.weaken g5),fun h r hr=>k4 h r (g4 h r hr),eS g5 k5,fun h o ho=>k6 h o (g6 h o ho)⟩
  have one:∀v,Rep D ρ S w v u->eK dp H (cs::css) (v::r)=((thaw dp H cs [v]).1.headD v::(eK dp (thaw dp H cs [v]).2 css r).1,(eK dp (thaw dp H cs [v]).2 css r).2)->zq D S w H ρ (u::t) (eK dp H (cs::css) (v::r)):=fun v h1 e=>by
   rw[e];refine fin _ _ [u] (fun ρ' hr'=>?_) (vZ dp cs [v] H ρ [u] hs (.cons h1 .nil));generalize hq:(thaw dp H cs [v]).1=q at hr';cases q with
   |nil=>have:=hr'.1;simp at this
   |cons x y=>exact hr'.head
  cases v with
  |agg l=>
   cases h1 with
   |agg hl hh=>
    have e:eK dp H (cs::css) (.agg l::r)=(.agg (thaw dp H cs l).1::(eK dp (thaw dp H cs l).2 css r).1,(eK dp (thaw dp H cs l).2 css r).2):=rfl;rw[e];exact fin _ _ _ (fun ρ' hr'=>.agg hr'.1 hr'.2) (vZ dp cs l H ρ _ hs ⟨hl,hh⟩)
  |_=>exact one _ h1 rfl
theorem aoo{D:bc K}(dp:K.U->Bool)(cs:List (List (Option K.U)))(v:AV K)(hs:aN D ρ S w H){u:Value}(hr:Rep D ρ S w v u):
 ∃ρ',aN D ρ' S w (nw dp H cs v).2/\Rep D ρ' S w (nw dp H cs v).1 u/\Step D H.length ρ S H w ρ' S (nw dp H cs v).2 w/\H.length<=(nw dp H cs v).2.length:=by
 have one:∀v,Rep D ρ S w v u->nw dp H cs v=((eK dp H cs [v]).1.headD v,(eK dp H cs [v]).2)->∃ρ',aN D ρ' S w (nw dp H cs v).2/\Rep D ρ' S w (nw dp H cs v).1 u/\Step D H.length ρ S H w ρ' S (nw dp H cs v).2 w/\H.length<=(nw dp H cs v).2.length:=fun v hr e=>by
  rw[e];obtain⟨ρ',g1,g2,g3,g4,g5,g6⟩:=Ny dp cs [v] H ρ [u] hs (.cons hr .nil);refine⟨ρ',g1,?_,g3,g5⟩;generalize hq:(eK dp H cs [v]).1=q at g2;cases q with
  |nil=>have:=g2.1;simp at this
  |cons x y=>exact g2.head
 cases v with
 |aV l=>
  cases hr with
  |aV hl hh=>
   obtain⟨ρ',g1,g2,g3,g4,g5,g6⟩:=Ny dp cs l H ρ _ hs ⟨hl,hh⟩;exact⟨ρ',g1,.aV g2.1 g2.2,g3,g5⟩
 |_=>exact one _ hr rfl
theorem aop{cx:Cx K}(hD:bk cx.D){fz:Bool}{fn:Func}{n0:Nat}{R:Type}{fin:AV K->List (Ob K)->Option R}{e:Ex}{st:St K}{r:R}(h:Nw cx fz fn n0 fin e st=some r):
 st.ok=true/\(∀i,e≠.exit i)/\∃v v' H',resV cx fn st=some v/\fin v' H'=some r/\∀ρ S w,n0<=st.H.length->aN cx.D ρ S w st.H->∀u,Rep cx.D ρ S w v u->∃ρ' S',aN cx.D ρ' S' w H'/\Rep cx.D ρ' S' w v' u/\Step cx.D n0 ρ S st.H w ρ' S' H' w:=by
 have key:∀(v0:AV K)(H0:List (Ob K)) v' H',Gm cx.mv n0 v0 H0=some (v',H')->∀ρ S w,n0<=H0.length->aN cx.D ρ S w H0->∀u,Rep cx.D ρ S w v0 u->∃ρ',aN cx.D ρ' S w H'/\Rep cx.D ρ' S w v' u/\Step cx.D n0 ρ S H0 w ρ' S H' w:=fun v0 H0 v' H' hp ρ S w hn hs u hr=>by
  unfold Gm MP at hp;split at hp
  ·rename_i hk;simp only[aZ,bh]at hk;split at hp
   ·rename_i v'' H1 hv' hH';simp only[ar,aH]at hp;obtain⟨rfl,rfl⟩:=hp;obtain⟨s1,s2,s3,s4⟩:=aaT hD hs hn hk.1 hk.2 hH';exact⟨_,s1,s9 hD s3 _ _ u hv' hr,s2⟩
   ·cases hp
  ·cases hp
 unfold Nw at h;split at h
 ·cases h
 ·rename_i hne;split at h
  ·rename_i v0 hv0;dsimp only at h;generalize hv:Gw cx.ZV v0=v at h;have fgt:∀{ρ S w}{u:Value},Rep cx.D ρ S w v0 u->Rep cx.D ρ S w v u:=fun hr=>by rw[<-hv];exact aon _ _ _ hr
   cases hok:st.ok with
   |false=>rw[hok]at h;cases h
   |true=>
    rw[hok]at h;simp only[aA]at h;refine⟨rfl,hne,?_⟩;cases fz with
    |false=>
     simp only[aT]at h;split at h
     ·rename_i v' H' hp;exact⟨v0,v',H',hv0,h,fun ρ S w hn hs u hr0=>by
       have hr:=fgt hr0;obtain⟨ρ1,t1,t2,t3,t4⟩:=aoo cx.deep cx.fq v hs hr;obtain⟨ρ',a,b,c⟩:=key _ _ _ _ hp ρ1 S w (eS hn t4) t1 u t2;exact⟨ρ',S,a,b,(t3.weaken hn).trans c⟩⟩
     ·cases h
    |true=>
     simp only[aA]at h;split at h
     ·rename_i v' H' hp;exact⟨v0,v',H',hv0,h,fun ρ S w hn hs u hr0=>by
       have hr:=fgt hr0;obtain⟨S1,g1,g2,g3⟩:=FU (n0:=n0) (hands v) hs;obtain⟨ρ',a,b,c⟩:=key _ _ _ _ hp ρ S1 w (by omega) g1 u (pf g1 _ _ (hr.mono g2.s1 (fun _ _=>rfl) (fun _ _ h=>h)));exact⟨ρ',S1,a,b,g2.trans c⟩⟩
     ·cases h
  ·cases h
theorem aoq{cx:Cx K}(hD:bk cx.D)(hc:aD cx)(hm:cx.P.follows .mixedOrders=true){fz:Bool}{f:FuncId}{fn:Func}(hf:aaS cx.P f fn)(hl:∀c,fn.body=some c->jy cx c)
 {args:List (AV K)} {R:Type} {fin:AV K->List (Ob K)->Option R} {r:R} (h:Nx cx fz fn args H fin=some r):∃v H',fin v H'=some r/\RC cx.D cx.P f args H v H':=by
 unfold Nx at h;split at h
 ·rename_i c hb;obtain⟨e,st,h1,-,h3⟩:=pv hD hc hm c (hl c hb) _ _ _ h;obtain⟨hok,hne,v,v',H',hv,hr,hfin⟩:=aop hD h1;refine⟨v',H',hr,⟨fn,hf.get,hf.name,by rw[hb];rfl⟩,fun ρ S w vals hs ha=>?_⟩;have h0:cV (args++List.replicate (fn.ntmps-args.length) (AV.any:AV K)):=fun t g b y e=>by
   rcases cO t args.length with hlt|hge
   ·rw[cH hlt]at e;obtain⟨x,-,hx⟩:=ha.get e;cases hx
   ·rw[cM hge,il]at e;split at e<;>cases e
  obtain⟨n1,htr⟩:=h3 hok h0;refine calls_of_wp hf.get hb ?_;have bf:Sat cx ρ S {tmps:=vals.toArray++Array.replicate (fn.ntmps-vals.toArray.size) undef,defers:=[]} w ⟨args++List.replicate (fn.ntmps-args.length) .any,H,true⟩:=⟨hs,⟨by simp[ha.1],fun t v x h1 h2=>.jO (by
   rcases cO t args.length with hlt|hge
   ·rw[cH hlt]at h1;rw[Array.getElem?_append_left (by simpa [<-ha.1]using hlt)]at h2;exact ha.2 t v x h1 (by simpa using h2)
   ·rw[cM hge,il]at h1;split at h1
    ·simp at h1;subst h1;exact .any x
    ·cases h1)⟩,rfl⟩
  refine wp_mono (htr H.length ρ S _ w (bg _) bf) ?_
  rintro e' a' w' ⟨rfl,hn,ρ1,S1,eD,hst1⟩
  obtain⟨u,hu,hr1⟩:=aor hD n1 eD hv;have aaV:∃u' ρ' S',Ending.returned u=.returned u'/\aN cx.D ρ' S' w' H'/\Rep cx.D ρ' S' w' v' u'/\Step cx.D H.length ρ S H w ρ' S' H' w':=by
   obtain⟨ρ2,S2,q1,q2,q3⟩:=hfin ρ1 S1 w' hn eD.heap u hr1;exact⟨u,ρ2,S2,rfl,q1,q2,hst1.trans q3⟩
  cases e with
  |exit i=>exact absurd rfl (hne i)
  |normal=>exact⟨eD.defers,u,hu,aaV⟩
  |ret=>exact⟨eD.defers,u,hu,aaV⟩
 ·cases h
structure aC (K:cE) where
 f:FuncId
 sh:aw K
 R:Type
 run:sh.T->Option R
 dflt:R
 out:R->AV K×List (Ob K)
def aC.Ok(D:bc K)(P:Program)(c:aC K):Prop:=∀x r,c.run x=some r->RC D P c.f (c.sh.aW D x) (c.sh.aX D x) (c.out r).1 (c.out r).2
def callOf(D:bc K):List (aC K)->FuncId->List (AV K)->List (Ob K)->Option (AV K×List (Ob K)×Bool)
 |[],_,_,_=>none
 |c::l,f,args,H=>cond (Nat.beq c.f f) (match c.sh.dec D args H with
  |some x=>some ((c.out ((c.run x).getD c.dflt)).1,(c.out ((c.run x).getD c.dflt)).2,(c.run x).isSome)
  |none=>callOf D l f args H) (callOf D l f args H)
theorem RC.weak{D:bc K}{P:Program}{f:FuncId}{args args':List (AV K)}{r:AV K}{Ho:List (Ob K)}(hw:Wk D args H args' H')(h:RC D P f args' H' r Ho):RC D P f args H r Ho:=by
 refine⟨h.1,fun ρ S w vals hs ha=>(h.2 ρ S w vals (hw.heap _ _ _ hs) (hw.Nz _ _ _ _ ha)).mono ?_⟩
 rintro e w' ⟨u,ρ',S',rfl,h1,h2,h3⟩
 rw[hw.len]at h3;exact⟨u,ρ',S',rfl,h1,h2,hw.step.trans h3⟩
theorem BZ{D:bc K}(hD:bk D){P:Program}:∀(l:List (aC K)),(∀c∈l,c.Ok D P)->∀f args H r H',callOf D l f args H=some (r,H',true)->RC D P f args H r H'
 |[],_,f,args,H,r,H',h=>by simp[callOf]at h
 |c::l,hl,f,args,H,r,H',h=>by
  have ih:=BZ hD l (fun c hc=>hl c (by simp[hc])) f args H r H';unfold callOf at h;cases hb:Nat.beq c.f f with
  |false=>rw[hb]at h;exact ih h
  |true=>
   rw[hb]at h;have hf:c.f=f:=Bj hb;simp only[aA]at h;split at h
   ·rename_i x hx;simp only[ar,aH]at h;obtain⟨h1,h2,h3⟩:=h;obtain⟨y,hy⟩:=Option.isSome_iff_exists.1 h3;rw[hy]at h1 h2;simp only[aQ]at h1 h2;have:=hl c (by simp) x y hy;rw[h1,h2,hf]at this;exact this.weak (aw.B0 hD hx)
   ·exact ih h
theorem aL{cx:Cx K}(hD:bk cx.D)(l:List (aC K))(hl:∀c∈l,c.Ok cx.D cx.P)(he:cx.call=callOf cx.D l:=by exact rfl)(ha:cx.alt=fun _ _ _ _=>none:=by exact rfl)(ho:(fun(R:Type)=>cx.yM (R:=R))=fun(R:Type)(a b:Option R)=>sy a b:=by exact rfl):aD cx:=by
 refine⟨fun f args H r H' h=>?_,fun b f args H r H' h=>?_,fun R a b r h=>?_⟩
 ·rw[he]at h;exact BZ hD l hl f args H r H' h
 ·rw[ha]at h;cases h
 ·have:=congrFun ho R;rw[this]at h;exact ZU h
theorem aip{cx:Cx K}(hD:bk cx.D)(l la lw:List (aC K))(hl:∀c∈l,c.Ok cx.D cx.P)(hla:∀c∈la,c.Ok cx.D cx.P)(hlw:∀c∈lw,c.Ok cx.D cx.P)(he:cx.call=callOf cx.D l:=by exact rfl)(ha:cx.alt=fun b=>cond b (callOf cx.D la) (callOf cx.D lw):=by exact rfl)(ho:(fun(R:Type)=>cx.yM (R:=R))=fun(R:Type)(a b:Option R)=>sy a b:=by exact rfl):aD cx:=by
 refine⟨fun f args H r H' h=>?_,fun b f args H r H' h=>?_,fun R a b r h=>?_⟩
 ·rw[he]at h;exact BZ hD l hl f args H r H' h
 ·rw[ha]at h;cases b
  ·exact BZ hD lw hlw f args H r H' h
  ·exact BZ hD la hla f args H r H' h
 ·have:=congrFun ho R;rw[this]at h;exact ZU h
def aC.frz(D:bc K)(c:aC K):aC K:={c with out:=fun r=>(iF D (c.out r).2 (c.out r).1,[])}
structure Gx (K:cE) (D:bc K) (R:Type) where
 sh:aw K
 conv:sh.T->R
def Gx.fin{D:bc K}{R:Type}(d:Gx K D R)(v:AV K)(H:List (Ob K)):Option R:=match d.sh.dec D [v] H with
 |some x=>some (d.conv x)
 |none=>none
theorem aI{cx:Cx K}(hD:bk cx.D)(hc:aD cx)(hm:cx.P.follows .mixedOrders=true){c:aC K}{fz:Bool}{fn:Func}(hf:aaS cx.P c.f fn)(hl:∀b,fn.body=some b->jy cx b)
 (d:Gx K cx.D c.R) (ho:∀x,([(c.out (d.conv x)).1],(c.out (d.conv x)).2)=(d.sh.aW cx.D x,d.sh.aX cx.D x)) (he:∀x,Nx cx fz fn (c.sh.aW cx.D x) (c.sh.aX cx.D x) d.fin=c.run x):c.Ok cx.D cx.P:=by
 intro x r hr;rw[<-he x]at hr;obtain⟨v,H',h1,h2⟩:=aoq hD hc hm hf hl hr;unfold Gx.fin at h1;split at h1
 ·rename_i y hy;simp only[ar]at h1;have hw:=aw.B0 hD hy;have:=ho y;simp only[aH]at this;rw[<-this.1,<-this.2]at hw;rw[h1]at hw;refine⟨h2.1,fun ρ S w vals hs ha=>(h2.2 ρ S w vals hs ha).mono ?_⟩
  rintro e w' ⟨u,ρ',S',rfl,g1,g2,g3⟩
  have:=(hw.Nz _ _ _ [u] (.cons g2 .nil)).head;exact⟨u,ρ',S',rfl,hw.heap _ _ _ g1,this,g3.trans hw.step⟩
 ·cases h1
def NA(kp:Bool):Nat->List (Ob K)->List (Option Nat)×List (Option Nat)
 |_,[]=>([],[])
 |i,o::r=>match NA kp (i+1) r with
  |(a,b)=>match o with
   |.arr ..=>cond kp (some i::a,b) (none::a,some i::b)
   |.tree ..=>cond kp (some i::a,b) (none::a,some i::b)
   |_=>(some i::a,b)
def aaW(kp:Bool)(n n0:Nat)(ins:List Nat)(vals:List (AV K))(Hi:List (Ob K)):Option (St K):=
 match qS n0 ((NA kp 0 Hi).1++(NA kp 0 Hi).2) ins ⟨dI (List.replicate n .any) ins vals,Hi,true⟩with
 |some st=>vS n0 ins st
 |none=>none
def mC(st:St K)(ts:List Nat):List (AV K):=ts.map fun t=>st.tm.getD t .any
def bJ(D:bc K)(kp:Bool)(n n0:Nat)(ins outs:List Nat)(sh:aw K){Y:Type}(run:sh.T->Option Y)(out:Y->{R:Type}->(Ex->List (AV K)->List (Ob K)->R)->R):bA K:={
 n:=n
 ins:=ins
 outs:=outs
 run vals Hi k:=cond (Nat.beq Hi.length n0) (match aaW kp n n0 ins vals Hi with
  |some st=>match sh.dec D (mC st ins) st.H with
   |some x=>match run x with
    |some y=>out y k
    |none=>none
   |none=>none
  |none=>none) none}
def aaX(cx:Cx K)(n n0:Nat)(ins outs:List Nat)(sh:aw K){Y:Type}(next:sh.T->Option Y)(fin:Ex->List (AV K)->List (Ob K)->Option Y)(e:Ex)(s:St K):Option Y:=
 cond s.ok (cond (Nat.beq s.tm.length n) (match e with
  |.normal=>match tp cx s with
    |some (b,s1)=>cond b (match vS n0 ins s1 with
     |some s'=>match sh.dec cx.D (mC s' ins) s'.H with
      |some x=>next x
      |none=>none
     |none=>none) none
    |none=>none
  |e=>match tp cx s with
   |some (b,s1)=>cond b (match vS n0 outs s1 with
    |some s'=>fin e (mC s' outs) s'.H
    |none=>none) none
   |none=>none) none) none
def zr(D:bc K)(n:Nat)(ins:List Nat)(sh:aw K)(x:sh.T):St K:=⟨dI (List.replicate n .any) ins (sh.aW D x),sh.aX D x,true⟩
structure bH (K:cE) (Y:Type) where
 e:Ex
 sh:aw K
 conv:sh.T->Y
def Ex.same:Ex->Ex->Bool
 |.normal,.normal=>true
 |.exit a,.exit b=>Nat.beq a b
 |.ret,.ret=>true
 |_,_=>false
theorem Ex.same_eq{a b:Ex}(h:Ex.same a b=true):a=b:=by
 cases a<;>cases b<;>simp only[Ex.same]at h<;>first|rfl|cases h|(rw[Bj h])
def B5(D:bc K){Y:Type}:List (bH K Y)->Ex->List (AV K)->List (Ob K)->Option Y
 |[],_,_,_=>none
 |d::l,e,vs,H=>cond (Ex.same d.e e) (match d.sh.dec D vs H with
  |some x=>some (d.conv x)
  |none=>none) (B5 D l e vs H)
theorem aaY{D:bc K}:∀(l:List (Sh K))(vs:List (AV K))(x:Sh.Ts l),Sh.dz D l vs=some x->vs.length=l.length
 |[],vs,x,h=>by
   cases vs with
   |nil=>rfl
   |cons v r=>unfold Sh.dz at h;cases h
 |s::r,vs,x,h=>by
  cases vs with
  |nil=>unfold Sh.dz at h;cases h
  |cons v l=>
   unfold Sh.dz at h;split at h
   ·rename_i a b h1 h2;simp only[bX];rw[aaY r l b h2]
   ·cases h
theorem LR{D:bc K}:∀(l:List (Sh K))(x:Sh.Ts l),(Sh.encs D l x).length=l.length
 |[],x=>rfl
 |s::r,x=>by simp only[Sh.encs,bX];rw[LR r]
theorem NB{D:bc K}{sh:aw K}{vs:List (AV K)}{x:sh.T}(h:sh.dec D vs H=some x):(sh.aW D x).length=vs.length:=by
 unfold aw.dec at h;split at h
 ·rename_i a b h1 h2;unfold aw.aW;rw[LR,aaY _ _ _ h1]
 ·cases h
theorem NC{D:bc K}(hD:bk D){Y:Type}{out:Y->{R:Type}->(Ex->List (AV K)->List (Ob K)->R)->R}:∀(l:List (bH K Y)),(∀d∈l,d.e≠.normal/\∀x (R:Type) (k:Ex->List (AV K)->List (Ob K)->R),out (d.conv x) k=k d.e (d.sh.aW D x) (d.sh.aX D x))->
 ∀e vs H y,B5 D l e vs H=some y->e≠.normal/\∃vs' H',(∀(R:Type)(k:Ex->List (AV K)->List (Ob K)->R),out y k=k e vs' H')/\Wk D vs H vs' H'/\vs'.length=vs.length
 |[],_,e,vs,H,y,h=>by simp[B5]at h
 |d::l,hl,e,vs,H,y,h=>by
  unfold B5 at h;cases hs:Ex.same d.e e with
  |false=>rw[hs]at h;exact NC hD l (fun d hd=>hl d (by simp[hd])) e vs H y h
  |true=>
   rw[hs]at h;have he:=Ex.same_eq hs;simp only[aA]at h;split at h
   ·rename_i x hx;simp only[ar]at h;subst h;obtain⟨h1,h2⟩:=hl d (by simp);rw[he]at h1 h2;exact⟨h1,_,_,fun R k=>h2 x R k,aw.B0 hD hx,NB hx⟩
   ·cases h
theorem retag{cx:Cx K}{n0:Nat}{st:St K}{ts:List Nat}{n:Nat}(hn:st.tm.length=n)(h0:cV st.tm){vs':List (AV K)}(hw:Wk cx.D (mC st ts) st.H vs' H')(hlen:vs'.length=ts.length):
 Goes cx n0 st ⟨dI (List.replicate n .any) ts vs',H',st.ok⟩:=by
 intro ρ S a w hn0 bf;refine⟨by show n0<=H'.length;rw[hw.len];exact hn0,ρ,S,⟨hw.heap _ _ _ bf.heap,?_,bf.defers⟩,hw.step⟩;have hsz:a.tmps.size=n:=by rw[<-hn];exact bf.slots.len.symm
 have hrep:∀t,Rep cx.D ρ S w (st.tm.getD t .any) (a.tmps.getD t undef):=fun t=>by
  rw[g9,nc];cases hg:st.tm[t]? with
  |none=>exact .any _
  |some v=>
   obtain⟨x,hx,-⟩:=bf.slots.get hg;rw[hx];exact bf.slots.rep h0 hg hx
 have hus:aS cx.D ρ S w (mC st ts) (ts.map fun t=>a.tmps.getD t undef):=⟨by simp[mC],fun i v x h1 h2=>by
  simp only[mC,gq,dS]at h1 h2;obtain⟨t,e1,rfl⟩:=h1;obtain⟨t',e2,rfl⟩:=h2;rw[e1]at e2;simp at e2;subst e2;exact hrep t⟩
 have aot:=hw.Nz _ _ _ _ hus;refine Nh hsz fun i t v x h1 h2 h3=>aot.2 i v x h2 ?_
 simp only[gq,h1,lG];rw[nc,h3];rfl
theorem aaZ{D:bc K}:∀(l:List (Sh K))(x:Sh.Ts l)(i:Nat)(v:AV K),(Sh.encs D l x)[i]?=some v->v.jh=false
 |[],x,i,v,h=>by simp[Sh.encs]at h
 |s::r,x,i,v,h=>by
  cases i with
  |zero=>
   simp only[Sh.encs,List.getElem?_cons_zero,ar]at h;subst h;cases s<;>simp only[Sh.enc]<;>rfl
  |succ i=>exact aaZ r x.2 i v (by simpa [Sh.encs]using h)
theorem aou{n:Nat}{ds:List Nat}{l:List (AV K)}(h:∀(i:Nat) v,l[i]?=some v->v.jh=false):cV (dI (List.replicate n .any) ds l):=fun t g b v e=>by
 rcases zo ds l _ t _ e with h1|⟨i,-,h2⟩
 ·rw[il]at h1;split at h1<;>cases h1
 ·have:=h i _ h2;simp[AV.jh]at this
theorem ND{n0:Nat}{src:List (Option Nat)}{keep:List Nat}{st st':St K}(h:qS n0 src keep st=some st'):st'.tm.length=st.tm.length:=by
 unfold qS at h;split at h
 ·split at h
  ·simp only[ar]at h;subst h;simp[vV]
  ·cases h
 ·cases h
theorem Tr.goes{cx:Cx K}{n0:Nat}{c:Code}{st st1 st2:St K}{e:Ex}(h:Tr cx n0 c st e st1)(g:Goes cx n0 st1 st2):Tr cx n0 c st e st2:=fun ρ S a w hn bf=>by
 refine wp_mono (h ρ S a w hn bf) ?_
 rintro e' a' w' ⟨he,hn1,ρ1,S1,eD,hst1⟩
 obtain⟨hn2,ρ2,S2,BS,hst2⟩:=g ρ1 S1 a' w' hn1 eD;exact⟨he,hn2,ρ2,S2,BS,hst1.trans hst2⟩
section
variable {cx :Cx K}(hD:bk cx.D)(hc:aD cx)(hm:cx.P.follows .mixedOrders=true){c:Code}(hl:jy cx c){n n0:Nat}{ins outs:List Nat}{sh:aw K}{Y:Type}{run:Nat->sh.T->Option Y}
 {bG:List (bH K Y)} {out:Y->{R:Type}->(Ex->List (AV K)->List (Ob K)->R)->R}
 (h0:∀x,run 0 x=none) (hs:∀m x,fD cx c (zr cx.D n ins sh x) (aaX cx n n0 ins outs sh (run m) (B5 cx.D bG))=run (m+1) x)
 (hx:∀d∈bG,d.e≠.normal/\∀x (R:Type) (k:Ex->List (AV K)->List (Ob K)->R),out (d.conv x) k=k d.e (d.sh.aW cx.D x) (d.sh.aX cx.D x))
include hD hc hm hl h0 hs hx
theorem aa0{y:Y}:∀(m:Nat)(x:sh.T),run m x=some y->∃e vs Ho,(∀(R:Type)(k:Ex->List (AV K)->List (Ob K)->R),out y k=k e vs Ho)/\
 ∀(ρ0:List Value)(S0:Nat->Prop)(H0:List (Ob K))(w0:World)(ρ:List Value)(S:Nat->Prop)(a:Act)(w:World),n0<=(zr cx.D n ins sh x).H.length->Sat cx ρ S a w (zr cx.D n ins sh x)->Step cx.D n0 ρ0 S0 H0 w0 ρ S (zr cx.D n ins sh x).H w->
  Code.rounds cx.P c (fun e' a' w'=>e'=e.nk/\n0<=Ho.length/\∃ρ' S',Sat cx ρ' S' a' w' ⟨dI (List.replicate n .any) outs vs,Ho,true⟩/\Step cx.D n0 ρ0 S0 H0 w0 ρ' S' Ho w') m a w
 |0,x,h=>by rw[h0]at h;cases h
 |m+1,x,h=>by
  rw[<-hs m x]at h;obtain⟨e,s,h1,h2,h3⟩:=pv hD hc hm c hl _ _ _ h;unfold aaX at h1;have hno:cV (zr cx.D n ins sh x).tm:=aou (aaZ _ _);cases hok:s.ok with
  |false=>rw[hok]at h1;cases h1
  |true=>
   rw[hok]at h1;simp only[aA]at h1;obtain⟨n1,htr⟩:=h3 hok hno;cases hlen:Nat.beq s.tm.length n with
   |false=>rw[hlen]at h1;cases h1
   |true=>
   rw[hlen]at h1;simp only[aA]at h1;have hsn:s.tm.length=n:=Bj hlen;have key:∀keep s1 s' vs' pw,tp cx s=some (true,s1)->vS n0 keep s1=some s'->Wk cx.D (mC s' keep) s'.H vs' pw->vs'.length=keep.length->Tr cx n0 c (zr cx.D n ins sh x) e ⟨dI (List.replicate n .any) keep vs',pw,true⟩:=fun keep s1 s' vs' pw hcl hn hw hvl=>by
    have hr:qS n0 ((reach s1.H 64 (List.range n0++bp (keep.map fun t=>s1.tm.getD t .any)) []).map some) keep s1=some s':=hn;obtain⟨hk1,g1,g2⟩:=Gy (cx:=cx) hD hr;obtain⟨c1,c2,c3,c4⟩:=aa1 hD hcl;have gc:Goes cx n0 s s1:=fun ρ S a w hn bf=>by
     obtain⟨q1,q2⟩:=c4 n0 ρ S a w bf;exact⟨by rw[c3];exact hn,ρ,S,q1,q2⟩
    have hl2:s1.tm.length=n:=by rw[c1];exact hsn
    have hn2:cV s1.tm:=by rw[c1];exact n1
    have:=(htr n0).goes (gc.trans ((g2 hn2).trans (retag ((ND hr).trans hl2) g1 hw hvl)));rw[hk1,c2,hok]at this;exact this
   cases e with
   |normal=>
    dsimp only at h1;split at h1
    ·rename_i b s1 hcl;cases b with
     |false=>cases h1
     |true=>
     simp only[aA]at h1;split at h1
     ·rename_i s' hn;split at h1
      ·rename_i x' hx';obtain⟨e2,vs,Ho,q1,q2⟩:=aa0 m x' h1;refine⟨e2,vs,Ho,q1,fun ρ0 S0 H0 w0 ρ S a w hn0 bf hst=>?_⟩;rw[rounds_succ];refine wp_mono (key ins s1 s' _ _ hcl hn (aw.B0 hD hx') (by rw[NB hx'];simp[mC]) ρ S a w hn0 bf) ?_
       rintro e' a' w' ⟨rfl,hn1,ρ1,S1,eD,hst1⟩
       exact q2 ρ0 S0 H0 w0 ρ1 S1 a' w' hn1 eD (hst.trans hst1)
      ·cases h1
     ·cases h1
    ·cases h1
   |exit id=>
    dsimp only at h1;split at h1
    ·rename_i b s1 hcl;cases b with
     |false=>cases h1
     |true=>
     simp only[aA]at h1;split at h1
     ·rename_i s' hn;obtain⟨g1,vs',pw,g2,g3,g4⟩:=NC hD bG hx _ _ _ _ h1;refine⟨.exit id,vs',pw,g2,fun ρ0 S0 H0 w0 ρ S a w hn0 bf hst=>?_⟩;rw[rounds_succ];refine wp_mono (key outs s1 s' _ _ hcl hn g3 (by rw[g4];simp[mC]) ρ S a w hn0 bf) ?_
      rintro e' a' w' ⟨rfl,hn1,ρ1,S1,eD,hst1⟩
      exact⟨rfl,hn1,ρ1,S1,eD,hst.trans hst1⟩
     ·cases h1
    ·cases h1
   |ret=>
    dsimp only at h1;split at h1
    ·rename_i b s1 hcl;cases b with
     |false=>cases h1
     |true=>
     simp only[aA]at h1;split at h1
     ·rename_i s' hn;obtain⟨g1,vs',pw,g2,g3,g4⟩:=NC hD bG hx _ _ _ _ h1;refine⟨.ret,vs',pw,g2,fun ρ0 S0 H0 w0 ρ S a w hn0 bf hst=>?_⟩;rw[rounds_succ];refine wp_mono (key outs s1 s' _ _ hcl hn g3 (by rw[g4];simp[mC]) ρ S a w hn0 bf) ?_
      rintro e' a' w' ⟨rfl,hn1,ρ1,S1,eD,hst1⟩
      exact⟨rfl,hn1,ρ1,S1,eD,hst.trans hst1⟩
     ·cases h1
    ·cases h1
theorem bN(kp:Bool)(N:Nat):bC cx c (bJ cx.D kp n n0 ins outs sh (run N) out):=by
 intro vals Hi R k r h;simp only[bJ]at h;cases hb:Nat.beq Hi.length n0 with
 |false=>rw[hb]at h;cases h
 |true=>
  rw[hb]at h;have hlen:Hi.length=n0:=Bj hb;simp only[aA]at h;split at h
  ·rename_i st hst;split at h
   ·rename_i x hx1;split at h
    ·rename_i y hy;obtain⟨e,vs,Ho,q1,q2⟩:=aa0 hD hc hm hl h0 hs hx N x hy;rw[q1]at h;refine⟨e,vs,Ho,h,?_⟩;unfold aaW at hst;split at hst
     ·rename_i st1 hst1;have hst':qS n0 ((reach st1.H 64 (List.range n0++bp (ins.map fun t=>st1.tm.getD t .any)) []).map some) ins st1=some st:=hst;obtain⟨k1,g1,g2⟩:=Gy (cx:=cx) hD hst1;obtain⟨k2,g3,g4⟩:=Gy (cx:=cx) hD hst';intro ρ S a w hn0 bf;have hno:cV (dI (List.replicate n (AV.any:AV K)) ins vals):=fun t g b v e=>by
       rcases zo ins vals _ t _ e with h1|⟨i,h1,-⟩
       ·rw[il]at h1;split at h1<;>cases h1
       ·unfold qS at hst1;split at hst1
        ·split at hst1
         ·rename_i ws H1 hv hm1;obtain⟨gl,gg⟩:=vW _ _ hv;have hi:i<ws.length:=by rw[gl];simp;exact(bo.1 h1).1
          obtain⟨v0,q1,q2⟩:=gg i _ (bZ hi);simp only[gq,h1,lG,ar]at q1;rw[g9,e]at q1;simp only[aQ]at q1;subst q1;simp[eH]at q2
         ·cases hst1
        ·cases hst1
      have hlen1:st1.tm.length=n:=by rw[ND hst1];simp[vV]
      have hlen2:st.tm.length=n:=by rw[ND hst'];exact hlen1
      have hw:=aw.B0 hD hx1;have hr:=retag (cx:=cx) (n0:=n0) hlen2 g3 hw (by rw[NB hx1];simp[mC]);have hok:st.ok=true:=by rw[k2,k1]
      rw[hok]at hr;rw[hlen];obtain⟨hn1,ρ1,S1,eD,hst2⟩:=((g2 hno).trans ((g4 g1).trans hr)) ρ S a w (by show n0<=Hi.length;omega) bf;exact wp_loop_rounds N (q2 ρ S Hi w ρ1 S1 a w hn1 eD hst2)
     ·cases hst
    ·cases h
   ·cases h
  ·cases h
end
def kz:Code->List Code
 |.loop c=>[c]
 |.seq a b=>kz a++kz b
 |.cond _ a b=>kz a++kz b
 |.block _ c=>kz c
 |_=>[]
def bF(c:Code)(i:Nat):Code:=(kz c).getD i .skip
theorem zt{cx:Cx K}:∀(c:Code),(∀b∈kz c,∀L,cx.loop (keyOf b)=some L->bC cx b L)->jy cx c
 |.loop c,h=>fun L hL=>h c (by simp[kz]) L hL
 |.seq a b,h=>⟨zt a fun x hx=>h x (by simp[kz,hx]),zt b fun x hx=>h x (by simp[kz,hx])⟩
 |.cond _ a b,h=>⟨zt a fun x hx=>h x (by simp[kz,hx]),zt b fun x hx=>h x (by simp[kz,hx])⟩
 |.block _ c,h=>zt c h
 |.skip,_|.exit _,_|.ret,_|.region ..,_|.scope ..,_|.rangeFunc ..,_|.goto ..,_|.label ..,_|.refuse ..,_=>trivial
def NF(cx:Cx K)(c:Code):Prop:=∃L,cx.loop (keyOf c)=some L/\bC cx c L
theorem NF.mk{cx:Cx K}{c:Code}{L:bA K}(h:cx.loop (keyOf c)=some L)(ho:bC cx c L):NF cx c:=⟨L,h,ho⟩
theorem bQ{cx:Cx K}{c:Code}(n:Nat)(hn:(kz c).length=n)(h:∀i,i<n->NF cx (bF c i)):jy cx c:=
 zt c fun b hb L hL=>by
  obtain⟨i,hi,rfl⟩:=oQ hb;obtain⟨L',h1,h2⟩:=h i (by omega);have e:bF c i=(kz c)[i]:=by simp[bF,g9,bZ hi]
  rw[e]at h1 h2;rw[h1]at hL;simp only[ar]at hL;subst hL;exact h2
theorem aG{cx:Cx K}{c:Code}(hn:(kz c).length=0):jy cx c:=bQ 0 hn fun i hi=>absurd hi (en i)
theorem bR{p:Nat->Prop}(h:p 0):∀i,i<1->p i:=fun i hi=>by
 have:i=0:=by omega
 subst this;exact h
theorem lt_succ{p:Nat->Prop}{n:Nat}(h:∀i,i<n->p i)(hn:p n):∀i,i<n+1->p i:=fun i hi=>by
 by_cases he:i=n
 ·subst he;exact hn
 ·exact h i (by omega)
def bI(fn:Func):Code:=match fn.body with
 |some c=>c
 |none=>.skip
theorem aJ{cx:Cx K}{fn:Func}(h:jy cx (bI fn)):∀c,fn.body=some c->jy cx c:=fun c hc=>by
 have:bI fn=c:=by unfold bI;rw[hc]
 rw[<-this];exact h
theorem ax{α:Type _}{p:α->Prop}:∀c∈([]:List α),p c:=fun c h=>by simp at h
theorem ai{α:Type _}{p:α->Prop}{a:α}{l:List α}(h:p a)(t:∀c∈l,p c):∀c∈a::l,p c:=fun c hc=>by
 rcases dY.1 hc with rfl|hc
 ·exact h
 ·exact t c hc
theorem bP{i:Nat}:Ex.exit i≠.normal:=fun h=>by cases h
theorem dj:Ex.ret≠.normal:=fun h=>by cases h
theorem ez{D:bc K}{P:Program}{c:aC K}(h:∀x,c.run x=none):c.Ok D P:=fun x r hr=>by rw[h]at hr;cases hr
theorem aa2:∃n:Nat,2^63<=n:=⟨2^63,bg _⟩
noncomputable def ah:Nat:=Classical.choose aa2
theorem cC:2^63<=ah:=Classical.choose_spec aa2
end Go.V
