/-
  A FUNCTION, A LOOP, by a plain definition that they are shown to be equal to.
-/
import Derived.Test.YtalddlopgnfpaaaGreatDoorXWshape
set_option linter.unusedVariables false
namespace Go.V
open Go
variable {K :cy}{ρ ρ':List Value}{S S':Nat->Prop}{w w':World}{H H':List (Ob K)}
def lY(dp:K.U->Bool)(H:List (Ob K))(cs:List (List (Option K.U))):AV K->AV K×List (Ob K)
 |.aX l=>(.aX (dY dp H cs l).1,(dY dp H cs l).2)
 |v=>((dY dp H cs [v]).1.headD v,(dY dp H cs [v]).2)
def forgets:List Bool->List (AV K)->List (AV K)
 |[],vs=>vs
 |_::_,[]=>[]
 |true::r,_::vs=>.any::forgets r vs
 |false::r,v::vs=>v::forgets r vs
def CC:List Bool->AV K->AV K
 |[],v=>v
 |l,.aX vs=>.aX (forgets l vs)
 |true::_,_=>.any
 |false::_,v=>v
theorem IS{D:aY K}:∀(l:List Bool)(vs:List (AV K))(us:List Value),aP D ρ S w vs us->aP D ρ S w (forgets l vs) us
 |[],vs,us,h=>by simpa only[forgets]using h
 |_::_,[],us,h=>by simpa only[forgets]using h
 |b::r,v::vs,us,h=>by
  obtain⟨u,t,rfl,h1,h2⟩:=h.fc;cases b
  ·exact .cons h1 (IS r vs t h2)
  ·exact .cons (.any u) (IS r vs t h2)
theorem agX{D:aY K}(l:List Bool)(v:AV K)(u:Value)(h:Rep D ρ S w v u):Rep D ρ S w (CC l v) u:=by
 unfold CC;split
 ·exact h
 ·cases h with
  |aX hl hh=>
   have:=IS l _ _ ⟨hl,hh⟩;exact .aX this.1 this.2
 ·exact .any _
 ·exact h
def IT(cx:Cx K)(fz:Bool)(fn:Func)(n0:Nat){R:Type}(fin:AV K->List (Ob K)->Option R)(e:Ex)(st:St K):Option R:=
 match e with
 |.exit _=>none
 |_=>match resV cx fn st with
  |some v0=>let v:=CC cx.TU v0
   cond st.ok (cond fz (match Cc cx.mv n0 (dm (gW st.H (hands v)) v) (gW st.H (hands v))with
    |some (v',H')=>fin v' H'
    |none=>none) (match Cc cx.mv n0 (lY cx.deep st.H cx.ir v).1 (lY cx.deep st.H cx.ir v).2 with
    |some (v',H')=>fin v' H'
    |none=>none)) none
  |none=>none
def IU(cx:Cx K)(fz:Bool)(fn:Func)(args:List (AV K))(H:List (Ob K)){R:Type}(fin:AV K->List (Ob K)->Option R):Option R:=
 match fn.body with
 |some c=>eL cx c ⟨args++List.replicate (fn.ntmps-args.length) .any,H,true⟩ (IT cx fz fn H.length fin)
 |none=>none
structure UZ (P:Program) (f:FuncId) (fn:Func):Prop where
 get:P.funcs[f]?=some fn
 name:(fn.name== "runtime.NumGoroutine")=false
theorem IV{D:aY K}(dp:K.U->Bool):∀(css:List (List (Option K.U)))(l:List (AV K))(H:List (Ob K))(ρ:List Value)(vs:List Value),aD D ρ S w H->aP D ρ S w l vs->wj D S w H ρ vs (dY dp H css l)
 |[],l,H,ρ,vs,hs,hr=>⟨ρ,by simpa [dY]using hs,by simpa [dY]using hr,by simpa [dY]using Step.refl,fun _ _ h=>h,by simp[dY],fun _ _ h=>by simpa [dY]using h⟩
 |cs::css,[],H,ρ,vs,hs,hr=>⟨ρ,by simpa [dY]using hs,by simpa [dY]using hr,by simpa [dY]using Step.refl,fun _ _ h=>h,by simp[dY],fun _ _ h=>by simpa [dY]using h⟩
 |cs::css,v::r,H,ρ,vs,hs,hr=>by
  obtain⟨u,t,rfl,h1,h2⟩:=hr.fc;have fin:∀(v':AV K)(p:List (AV K)×List (Ob K))(us:List Value),(∀ρ',aP D ρ' S w p.1 us->Rep D ρ' S w v' u)->wj D S w H ρ us p->wj D S w H ρ (u::t) (v'::(dY dp p.2 css r).1,(dY dp p.2 css r).2):=fun v' p us hv hp=>by
   obtain⟨ρ1,g1,g2,g3,g4,g5,g6⟩:=hp;obtain⟨ρ2,k1,k2,k3,k4,k5,k6⟩:=IV dp css r p.2 ρ1 t g1 (h2.mono (fun _ h=>h) (fun _ _=>rfl) g4);exact⟨ρ2,k1,.cons ((hv ρ1 g2).mono (fun _ h=>h) (fun _ _=>rfl) k4) k2,g3.trans (k3.weaken g5),fun h r hr=>k4 h r (g4 h r hr),lG g5 k5,fun h o ho=>k6 h o (g6 h o ho)⟩
  have one:∀v,Rep D ρ S w v u->dY dp H (cs::css) (v::r)=((thaw dp H cs [v]).1.headD v::(dY dp (thaw dp H cs [v]).2 css r).1,(dY dp (thaw dp H cs [v]).2 css r).2)->wj D S w H ρ (u::t) (dY dp H (cs::css) (v::r)):=fun v h1 e=>by
   rw[e];refine fin _ _ [u] (fun ρ' hr'=>?_) (te dp cs [v] H ρ [u] hs (.cons h1 .nil));generalize hq:(thaw dp H cs [v]).1=q at hr';cases q with
   |nil=>have:=hr'.1;simp at this
   |cons x y=>exact hr'.head
  cases v with
  |agg l=>
   cases h1 with
   |agg hl hh=>
    have e:dY dp H (cs::css) (.agg l::r)=(.agg (thaw dp H cs l).1::(dY dp (thaw dp H cs l).2 css r).1,(dY dp (thaw dp H cs l).2 css r).2):=rfl;rw[e];exact fin _ _ _ (fun ρ' hr'=>.agg hr'.1 hr'.2) (te dp cs l H ρ _ hs ⟨hl,hh⟩)
  |_=>exact one _ h1 rfl
theorem agY{D:aY K}(dp:K.U->Bool)(cs:List (List (Option K.U)))(v:AV K)(hs:aD D ρ S w H){u:Value}(hr:Rep D ρ S w v u):
 ∃ρ',aD D ρ' S w (lY dp H cs v).2/\Rep D ρ' S w (lY dp H cs v).1 u/\Step D H.length ρ S H w ρ' S (lY dp H cs v).2 w/\H.length<=(lY dp H cs v).2.length:=by
 have one:∀v,Rep D ρ S w v u->lY dp H cs v=((dY dp H cs [v]).1.headD v,(dY dp H cs [v]).2)->∃ρ',aD D ρ' S w (lY dp H cs v).2/\Rep D ρ' S w (lY dp H cs v).1 u/\Step D H.length ρ S H w ρ' S (lY dp H cs v).2 w/\H.length<=(lY dp H cs v).2.length:=fun v hr e=>by
  rw[e];obtain⟨ρ',g1,g2,g3,g4,g5,g6⟩:=IV dp cs [v] H ρ [u] hs (.cons hr .nil);refine⟨ρ',g1,?_,g3,g5⟩;generalize hq:(dY dp H cs [v]).1=q at g2;cases q with
  |nil=>have:=g2.1;simp at this
  |cons x y=>exact g2.head
 cases v with
 |aX l=>
  cases hr with
  |aX hl hh=>
   obtain⟨ρ',g1,g2,g3,g4,g5,g6⟩:=IV dp cs l H ρ _ hs ⟨hl,hh⟩;exact⟨ρ',g1,.aX g2.1 g2.2,g3,g5⟩
 |_=>exact one _ hr rfl
theorem agZ{cx:Cx K}(hD:bh cx.D){fz:Bool}{fn:Func}{n0:Nat}{R:Type}{fin:AV K->List (Ob K)->Option R}{e:Ex}{st:St K}{r:R}(h:IT cx fz fn n0 fin e st=some r):
 st.ok=true/\(∀i,e≠.exit i)/\∃v v' H',resV cx fn st=some v/\fin v' H'=some r/\∀ρ S w,n0<=st.H.length->aD cx.D ρ S w st.H->∀u,Rep cx.D ρ S w v u->∃ρ' S',aD cx.D ρ' S' w H'/\Rep cx.D ρ' S' w v' u/\Step cx.D n0 ρ S st.H w ρ' S' H' w:=by
 have key:∀(v0:AV K)(H0:List (Ob K)) v' H',Cc cx.mv n0 v0 H0=some (v',H')->∀ρ S w,n0<=H0.length->aD cx.D ρ S w H0->∀u,Rep cx.D ρ S w v0 u->∃ρ',aD cx.D ρ' S w H'/\Rep cx.D ρ' S w v' u/\Step cx.D n0 ρ S H0 w ρ' S H' w:=fun v0 H0 v' H' hp ρ S w hn hs u hr=>by
  unfold Cc Ij at hp;split at hp
  ·rename_i hk;simp only[aU,aZ]at hk;split at hp
   ·rename_i v'' H1 hv' hH';simp only[ak,aS]at hp;obtain⟨rfl,rfl⟩:=hp;obtain⟨s1,s2,s3,s4⟩:=U0 hD hs hn hk.1 hk.2 hH';exact⟨_,s1,qA hD s3 _ _ u hv' hr,s2⟩
   ·cases hp
  ·cases hp
 unfold IT at h;split at h
 ·cases h
 ·rename_i hne;split at h
  ·rename_i v0 hv0;dsimp only at h;generalize hv:CC cx.TU v0=v at h;have U1:∀{ρ S w}{u:Value},Rep cx.D ρ S w v0 u->Rep cx.D ρ S w v u:=fun hr=>by rw[<-hv];exact agX _ _ _ hr
   cases hok:st.ok with
   |false=>rw[hok]at h;cases h
   |true=>
    rw[hok]at h;simp only[cE]at h;refine⟨rfl,hne,?_⟩;cases fz with
    |false=>
     simp only[aW]at h;split at h
     ·rename_i v' H' hp;exact⟨v0,v',H',hv0,h,fun ρ S w hn hs u hr0=>by
       have hr:=U1 hr0;obtain⟨ρ1,t1,t2,t3,t4⟩:=agY cx.deep cx.ir v hs hr;obtain⟨ρ',a,b,c⟩:=key _ _ _ _ hp ρ1 S w (lG hn t4) t1 u t2;exact⟨ρ',S,a,b,(t3.weaken hn).trans c⟩⟩
     ·cases h
    |true=>
     simp only[cE]at h;split at h
     ·rename_i v' H' hp;exact⟨v0,v',H',hv0,h,fun ρ S w hn hs u hr0=>by
       have hr:=U1 hr0;obtain⟨S1,g1,g2,g3⟩:=BL (n0:=n0) (hands v) hs;obtain⟨ρ',a,b,c⟩:=key _ _ _ _ hp ρ S1 w (by omega) g1 u (nr g1 _ _ (hr.mono g2.s1 (fun _ _=>rfl) (fun _ _ h=>h)));exact⟨ρ',S1,a,b,g2.trans c⟩⟩
     ·cases h
  ·cases h
theorem ag0{cx:Cx K}(hD:bh cx.D)(hc:aF cx)(hm:cx.P.follows .mixedOrders=true){fz:Bool}{f:FuncId}{fn:Func}(hf:UZ cx.P f fn)(hl:∀c,fn.body=some c->iM cx c)
 {args:List (AV K)} {R:Type} {fin:AV K->List (Ob K)->Option R} {r:R} (h:IU cx fz fn args H fin=some r):∃v H',fin v H'=some r/\RC cx.D cx.P f args H v H':=by
 unfold IU at h;split at h
 ·rename_i c hb;obtain⟨e,st,h1,-,h3⟩:=nB hD hc hm c (hl c hb) _ _ _ h;obtain⟨hok,hne,v,v',H',hv,hr,hfin⟩:=agZ hD h1;refine⟨v',H',hr,⟨fn,hf.get,hf.name,by rw[hb];rfl⟩,fun ρ S w vals hs ha=>?_⟩;have h0:cK (args++List.replicate (fn.ntmps-args.length) (AV.any:AV K)):=fun t g b y e=>by
   rcases du t args.length with hlt|hge
   ·rw[cu hlt]at e;obtain⟨x,-,hx⟩:=ha.get e;cases hx
   ·rw[aB hge,gh]at e;split at e<;>cases e
  obtain⟨n1,htr⟩:=h3 hok h0;refine calls_of_wp hf.get hb ?_;have ba:Sat cx ρ S {tmps:=vals.toArray++Array.replicate (fn.ntmps-vals.toArray.size) undef,defers:=[]} w ⟨args++List.replicate (fn.ntmps-args.length) .any,H,true⟩:=⟨hs,⟨by simp[ha.1],fun t v x h1 h2=>.i4 (by
   rcases du t args.length with hlt|hge
   ·rw[cu hlt]at h1;rw[Array.getElem?_append_left (by simpa [<-ha.1]using hlt)]at h2;exact ha.2 t v x h1 (by simpa using h2)
   ·rw[aB hge,gh]at h1;split at h1
    ·simp at h1;subst h1;exact .any x
    ·cases h1)⟩,rfl⟩
  refine wp_mono (htr H.length ρ S _ w (bn _) ba) ?_
  rintro e' a' w' ⟨rfl,hn,ρ1,S1,dQ,hst1⟩
  obtain⟨u,hu,hr1⟩:=ag1 hD n1 dQ hv;have U2:∃u' ρ' S',Ending.returned u=.returned u'/\aD cx.D ρ' S' w' H'/\Rep cx.D ρ' S' w' v' u'/\Step cx.D H.length ρ S H w ρ' S' H' w':=by
   obtain⟨ρ2,S2,q1,q2,q3⟩:=hfin ρ1 S1 w' hn dQ.heap u hr1;exact⟨u,ρ2,S2,rfl,q1,q2,hst1.trans q3⟩
  cases e with
  |exit i=>exact absurd rfl (hne i)
  |normal=>exact⟨dQ.defers,u,hu,U2⟩
  |ret=>exact⟨dQ.defers,u,hu,U2⟩
 ·cases h
structure aE (K:cy) where
 f:FuncId
 sh:aA K
 R:Type
 run:sh.T->Option R
 dflt:R
 out:R->AV K×List (Ob K)
def aE.Ok(D:aY K)(P:Program)(c:aE K):Prop:=∀x r,c.run x=some r->RC D P c.f (c.sh.bj D x) (c.sh.bk D x) (c.out r).1 (c.out r).2
def callOf(D:aY K):List (aE K)->FuncId->List (AV K)->List (Ob K)->Option (AV K×List (Ob K)×Bool)
 |[],_,_,_=>none
 |c::l,f,args,H=>cond (Nat.beq c.f f) (match c.sh.dec D args H with
  |some x=>some ((c.out ((c.run x).getD c.dflt)).1,(c.out ((c.run x).getD c.dflt)).2,(c.run x).isSome)
  |none=>callOf D l f args H) (callOf D l f args H)
theorem RC.weak{D:aY K}{P:Program}{f:FuncId}{args args':List (AV K)}{r:AV K}{Ho:List (Ob K)}(hw:Wk D args H args' H')(h:RC D P f args' H' r Ho):RC D P f args H r Ho:=by
 refine⟨h.1,fun ρ S w vals hs ha=>(h.2 ρ S w vals (hw.heap _ _ _ hs) (hw.IW _ _ _ _ ha)).mono ?_⟩
 rintro e w' ⟨u,ρ',S',rfl,h1,h2,h3⟩
 rw[hw.len]at h3;exact⟨u,ρ',S',rfl,h1,h2,hw.step.trans h3⟩
theorem U3{D:aY K}(hD:bh D){P:Program}:∀(l:List (aE K)),(∀c∈l,c.Ok D P)->∀f args H r H',callOf D l f args H=some (r,H',true)->RC D P f args H r H'
 |[],_,f,args,H,r,H',h=>by simp[callOf]at h
 |c::l,hl,f,args,H,r,H',h=>by
  have ih:=U3 hD l (fun c hc=>hl c (by simp[hc])) f args H r H';unfold callOf at h;cases hb:Nat.beq c.f f with
  |false=>rw[hb]at h;exact ih h
  |true=>
   rw[hb]at h;have hf:c.f=f:=yc hb;simp only[cE]at h;split at h
   ·rename_i x hx;simp only[ak,aS]at h;obtain⟨h1,h2,h3⟩:=h;obtain⟨y,hy⟩:=Option.isSome_iff_exists.1 h3;rw[hy]at h1 h2;simp only[aC]at h1 h2;have:=hl c (by simp) x y hy;rw[h1,h2,hf]at this;exact this.weak (aA.yL hD hx)
   ·exact ih h
theorem aL{cx:Cx K}(hD:bh cx.D)(l:List (aE K))(hl:∀c∈l,c.Ok cx.D cx.P)(he:cx.call=callOf cx.D l:=by exact rfl)(ha:cx.alt=fun _ _ _ _=>none:=by exact rfl)(ho:(fun(R:Type)=>cx.Ht (R:=R))=fun(R:Type)(a b:Option R)=>HZ a b:=by exact rfl):aF cx:=by
 refine⟨fun f args H r H' h=>?_,fun b f args H r H' h=>?_,fun R a b r h=>?_⟩
 ·rw[he]at h;exact U3 hD l hl f args H r H' h
 ·rw[ha]at h;cases h
 ·have:=congrFun ho R;rw[this]at h;exact agf h
def aE.frz(D:aY K)(c:aE K):aE K:={c with out:=fun r=>(gI D (c.out r).2 (c.out r).1,[])}
structure CE (K:cy) (D:aY K) (R:Type) where
 sh:aA K
 conv:sh.T->R
def CE.fin{D:aY K}{R:Type}(d:CE K D R)(v:AV K)(H:List (Ob K)):Option R:=match d.sh.dec D [v] H with
 |some x=>some (d.conv x)
 |none=>none
theorem aN{cx:Cx K}(hD:bh cx.D)(hc:aF cx)(hm:cx.P.follows .mixedOrders=true){c:aE K}{fz:Bool}{fn:Func}(hf:UZ cx.P c.f fn)(hl:∀b,fn.body=some b->iM cx b)
 (d:CE K cx.D c.R) (ho:∀x,([(c.out (d.conv x)).1],(c.out (d.conv x)).2)=(d.sh.bj cx.D x,d.sh.bk cx.D x)) (he:∀x,IU cx fz fn (c.sh.bj cx.D x) (c.sh.bk cx.D x) d.fin=c.run x):c.Ok cx.D cx.P:=by
 intro x r hr;rw[<-he x]at hr;obtain⟨v,H',h1,h2⟩:=ag0 hD hc hm hf hl hr;unfold CE.fin at h1;split at h1
 ·rename_i y hy;simp only[ak]at h1;have hw:=aA.yL hD hy;have:=ho y;simp only[aS]at this;rw[<-this.1,<-this.2]at hw;rw[h1]at hw;refine⟨h2.1,fun ρ S w vals hs ha=>(h2.2 ρ S w vals hs ha).mono ?_⟩
  rintro e w' ⟨u,ρ',S',rfl,g1,g2,g3⟩
  have:=(hw.IW _ _ _ [u] (.cons g2 .nil)).head;exact⟨u,ρ',S',rfl,hw.heap _ _ _ g1,this,g3.trans hw.step⟩
 ·cases h1
def IX(kp:Bool):Nat->List (Ob K)->List (Option Nat)×List (Option Nat)
 |_,[]=>([],[])
 |i,o::r=>match IX kp (i+1) r with
  |(a,b)=>match o with
   |.arr ..=>cond kp (some i::a,b) (none::a,some i::b)
   |.tree ..=>cond kp (some i::a,b) (none::a,some i::b)
   |_=>(some i::a,b)
def U4(kp:Bool)(n n0:Nat)(ins:List Nat)(vals:List (AV K))(Hi:List (Ob K)):Option (St K):=
 match oZ n0 ((IX kp 0 Hi).1++(IX kp 0 Hi).2) ins ⟨dn (List.replicate n .any) ins vals,Hi,true⟩with
 |some st=>s6 n0 ins st
 |none=>none
def kU(st:St K)(ts:List Nat):List (AV K):=ts.map fun t=>st.tm.getD t .any
def bZ(D:aY K)(kp:Bool)(n n0:Nat)(ins outs:List Nat)(sh:aA K){Y:Type}(run:sh.T->Option Y)(out:Y->{R:Type}->(Ex->List (AV K)->List (Ob K)->R)->R):bQ K:={
 n:=n
 ins:=ins
 outs:=outs
 run vals Hi k:=cond (Nat.beq Hi.length n0) (match U4 kp n n0 ins vals Hi with
  |some st=>match sh.dec D (kU st ins) st.H with
   |some x=>match run x with
    |some y=>out y k
    |none=>none
   |none=>none
  |none=>none) none}
def U5(cx:Cx K)(n n0:Nat)(ins outs:List Nat)(sh:aA K){Y:Type}(next:sh.T->Option Y)(fin:Ex->List (AV K)->List (Ob K)->Option Y)(e:Ex)(s:St K):Option Y:=
 cond s.ok (cond (Nat.beq s.tm.length n) (match e with
  |.normal=>match qK cx s with
    |some (b,s1)=>cond b (match s6 n0 ins s1 with
     |some s'=>match sh.dec cx.D (kU s' ins) s'.H with
      |some x=>next x
      |none=>none
     |none=>none) none
    |none=>none
  |e=>match qK cx s with
   |some (b,s1)=>cond b (match s6 n0 outs s1 with
    |some s'=>fin e (kU s' outs) s'.H
    |none=>none) none
   |none=>none) none) none
def wk(D:aY K)(n:Nat)(ins:List Nat)(sh:aA K)(x:sh.T):St K:=⟨dn (List.replicate n .any) ins (sh.bj D x),sh.bk D x,true⟩
structure bV (K:cy) (Y:Type) where
 e:Ex
 sh:aA K
 conv:sh.T->Y
def Ex.same:Ex->Ex->Bool
 |.normal,.normal=>true
 |.exit a,.exit b=>Nat.beq a b
 |.ret,.ret=>true
 |_,_=>false
theorem Ex.same_eq{a b:Ex}(h:Ex.same a b=true):a=b:=by
 cases a<;>cases b<;>simp only[Ex.same]at h<;>first|rfl|cases h|(rw[yc h])
def yM(D:aY K){Y:Type}:List (bV K Y)->Ex->List (AV K)->List (Ob K)->Option Y
 |[],_,_,_=>none
 |d::l,e,vs,H=>cond (Ex.same d.e e) (match d.sh.dec D vs H with
  |some x=>some (d.conv x)
  |none=>none) (yM D l e vs H)
theorem U6{D:aY K}:∀(l:List (Sh K))(vs:List (AV K))(x:Sh.Ts l),Sh.df D l vs=some x->vs.length=l.length
 |[],vs,x,h=>by
   cases vs with
   |nil=>rfl
   |cons v r=>unfold Sh.df at h;cases h
 |s::r,vs,x,h=>by
  cases vs with
  |nil=>unfold Sh.df at h;cases h
  |cons v l=>
   unfold Sh.df at h;split at h
   ·rename_i a b h1 h2;simp only[bY];rw[U6 r l b h2]
   ·cases h
theorem HE{D:aY K}:∀(l:List (Sh K))(x:Sh.Ts l),(Sh.encs D l x).length=l.length
 |[],x=>rfl
 |s::r,x=>by simp only[Sh.encs,bY];rw[HE r]
theorem IY{D:aY K}{sh:aA K}{vs:List (AV K)}{x:sh.T}(h:sh.dec D vs H=some x):(sh.bj D x).length=vs.length:=by
 unfold aA.dec at h;split at h
 ·rename_i a b h1 h2;unfold aA.bj;rw[HE,U6 _ _ _ h1]
 ·cases h
theorem IZ{D:aY K}(hD:bh D){Y:Type}{out:Y->{R:Type}->(Ex->List (AV K)->List (Ob K)->R)->R}:∀(l:List (bV K Y)),(∀d∈l,d.e≠.normal/\∀x (R:Type) (k:Ex->List (AV K)->List (Ob K)->R),out (d.conv x) k=k d.e (d.sh.bj D x) (d.sh.bk D x))->
 ∀e vs H y,yM D l e vs H=some y->e≠.normal/\∃vs' H',(∀(R:Type)(k:Ex->List (AV K)->List (Ob K)->R),out y k=k e vs' H')/\Wk D vs H vs' H'/\vs'.length=vs.length
 |[],_,e,vs,H,y,h=>by simp[yM]at h
 |d::l,hl,e,vs,H,y,h=>by
  unfold yM at h;cases hs:Ex.same d.e e with
  |false=>rw[hs]at h;exact IZ hD l (fun d hd=>hl d (by simp[hd])) e vs H y h
  |true=>
   rw[hs]at h;have he:=Ex.same_eq hs;simp only[cE]at h;split at h
   ·rename_i x hx;simp only[ak]at h;subst h;obtain⟨h1,h2⟩:=hl d (by simp);rw[he]at h1 h2;exact⟨h1,_,_,fun R k=>h2 x R k,aA.yL hD hx,IY hx⟩
   ·cases h
theorem retag{cx:Cx K}{n0:Nat}{st:St K}{ts:List Nat}{n:Nat}(hn:st.tm.length=n)(h0:cK st.tm){vs':List (AV K)}(hw:Wk cx.D (kU st ts) st.H vs' H')(hlen:vs'.length=ts.length):
 Goes cx n0 st ⟨dn (List.replicate n .any) ts vs',H',st.ok⟩:=by
 intro ρ S a w hn0 ba;refine⟨by show n0<=H'.length;rw[hw.len];exact hn0,ρ,S,⟨hw.heap _ _ _ ba.heap,?_,ba.defers⟩,hw.step⟩;have hsz:a.tmps.size=n:=by rw[<-hn];exact ba.slots.len.symm
 have hrep:∀t,Rep cx.D ρ S w (st.tm.getD t .any) (a.tmps.getD t undef):=fun t=>by
  rw[fR,lN];cases hg:st.tm[t]? with
  |none=>exact .any _
  |some v=>
   obtain⟨x,hx,-⟩:=ba.slots.get hg;rw[hx];exact ba.slots.rep h0 hg hx
 have hus:aP cx.D ρ S w (kU st ts) (ts.map fun t=>a.tmps.getD t undef):=⟨by simp[kU],fun i v x h1 h2=>by
  simp only[kU,fu,dB]at h1 h2;obtain⟨t,e1,rfl⟩:=h1;obtain⟨t',e2,rfl⟩:=h2;rw[e1]at e2;simp at e2;subst e2;exact hrep t⟩
 have ag2:=hw.IW _ _ _ _ hus;refine IF hsz fun i t v x h1 h2 h3=>ag2.2 i v x h2 ?_
 simp only[fu,h1,ka];rw[lN,h3];rfl
theorem U7{D:aY K}:∀(l:List (Sh K))(x:Sh.Ts l)(i:Nat)(v:AV K),(Sh.encs D l x)[i]?=some v->v.il=false
 |[],x,i,v,h=>by simp[Sh.encs]at h
 |s::r,x,i,v,h=>by
  cases i with
  |zero=>
   simp only[Sh.encs,List.getElem?_cons_zero,ak]at h;subst h;cases s<;>simp only[Sh.enc]<;>rfl
  |succ i=>exact U7 r x.2 i v (by simpa [Sh.encs]using h)
theorem ag3{n:Nat}{ds:List Nat}{l:List (AV K)}(h:∀(i:Nat) v,l[i]?=some v->v.il=false):cK (dn (List.replicate n .any) ds l):=fun t g b v e=>by
 rcases wh ds l _ t _ e with h1|⟨i,-,h2⟩
 ·rw[gh]at h1;split at h1<;>cases h1
 ·have:=h i _ h2;simp[AV.il]at this
theorem I0{n0:Nat}{src:List (Option Nat)}{keep:List Nat}{st st':St K}(h:oZ n0 src keep st=some st'):st'.tm.length=st.tm.length:=by
 unfold oZ at h;split at h
 ·split at h
  ·simp only[ak]at h;subst h;simp[s9]
  ·cases h
 ·cases h
theorem Tr.goes{cx:Cx K}{n0:Nat}{c:Code}{st st1 st2:St K}{e:Ex}(h:Tr cx n0 c st e st1)(g:Goes cx n0 st1 st2):Tr cx n0 c st e st2:=fun ρ S a w hn ba=>by
 refine wp_mono (h ρ S a w hn ba) ?_
 rintro e' a' w' ⟨he,hn1,ρ1,S1,dQ,hst1⟩
 obtain⟨hn2,ρ2,S2,yF,hst2⟩:=g ρ1 S1 a' w' hn1 dQ;exact⟨he,hn2,ρ2,S2,yF,hst1.trans hst2⟩
section
variable {cx :Cx K}(hD:bh cx.D)(hc:aF cx)(hm:cx.P.follows .mixedOrders=true){c:Code}(hl:iM cx c){n n0:Nat}{ins outs:List Nat}{sh:aA K}{Y:Type}{run:Nat->sh.T->Option Y}
 {bU:List (bV K Y)} {out:Y->{R:Type}->(Ex->List (AV K)->List (Ob K)->R)->R}
 (h0:∀x,run 0 x=none) (hs:∀m x,eL cx c (wk cx.D n ins sh x) (U5 cx n n0 ins outs sh (run m) (yM cx.D bU))=run (m+1) x)
 (hx:∀d∈bU,d.e≠.normal/\∀x (R:Type) (k:Ex->List (AV K)->List (Ob K)->R),out (d.conv x) k=k d.e (d.sh.bj cx.D x) (d.sh.bk cx.D x))
include hD hc hm hl h0 hs hx
theorem U8{y:Y}:∀(m:Nat)(x:sh.T),run m x=some y->∃e vs Ho,(∀(R:Type)(k:Ex->List (AV K)->List (Ob K)->R),out y k=k e vs Ho)/\
 ∀(ρ0:List Value)(S0:Nat->Prop)(H0:List (Ob K))(w0:World)(ρ:List Value)(S:Nat->Prop)(a:Act)(w:World),n0<=(wk cx.D n ins sh x).H.length->Sat cx ρ S a w (wk cx.D n ins sh x)->Step cx.D n0 ρ0 S0 H0 w0 ρ S (wk cx.D n ins sh x).H w->
  Code.rounds cx.P c (fun e' a' w'=>e'=e.lS/\n0<=Ho.length/\∃ρ' S',Sat cx ρ' S' a' w' ⟨dn (List.replicate n .any) outs vs,Ho,true⟩/\Step cx.D n0 ρ0 S0 H0 w0 ρ' S' Ho w') m a w
 |0,x,h=>by rw[h0]at h;cases h
 |m+1,x,h=>by
  rw[<-hs m x]at h;obtain⟨e,s,h1,h2,h3⟩:=nB hD hc hm c hl _ _ _ h;unfold U5 at h1;have hno:cK (wk cx.D n ins sh x).tm:=ag3 (U7 _ _);cases hok:s.ok with
  |false=>rw[hok]at h1;cases h1
  |true=>
   rw[hok]at h1;simp only[cE]at h1;obtain⟨n1,htr⟩:=h3 hok hno;cases hlen:Nat.beq s.tm.length n with
   |false=>rw[hlen]at h1;cases h1
   |true=>
   rw[hlen]at h1;simp only[cE]at h1;have hsn:s.tm.length=n:=yc hlen;have key:∀keep s1 s' vs' nC,qK cx s=some (true,s1)->s6 n0 keep s1=some s'->Wk cx.D (kU s' keep) s'.H vs' nC->vs'.length=keep.length->Tr cx n0 c (wk cx.D n ins sh x) e ⟨dn (List.replicate n .any) keep vs',nC,true⟩:=fun keep s1 s' vs' nC hcl hn hw hvl=>by
    have hr:oZ n0 ((reach s1.H 64 (List.range n0++bo (keep.map fun t=>s1.tm.getD t .any)) []).map some) keep s1=some s':=hn;obtain⟨hk1,g1,g2⟩:=CG (cx:=cx) hD hr;obtain⟨c1,c2,c3,c4⟩:=U9 hD hcl;have gc:Goes cx n0 s s1:=fun ρ S a w hn ba=>by
     obtain⟨q1,q2⟩:=c4 n0 ρ S a w ba;exact⟨by rw[c3];exact hn,ρ,S,q1,q2⟩
    have hl2:s1.tm.length=n:=by rw[c1];exact hsn
    have hn2:cK s1.tm:=by rw[c1];exact n1
    have:=(htr n0).goes (gc.trans ((g2 hn2).trans (retag ((I0 hr).trans hl2) g1 hw hvl)));rw[hk1,c2,hok]at this;exact this
   cases e with
   |normal=>
    dsimp only at h1;split at h1
    ·rename_i b s1 hcl;cases b with
     |false=>cases h1
     |true=>
     simp only[cE]at h1;split at h1
     ·rename_i s' hn;split at h1
      ·rename_i x' hx';obtain⟨e2,vs,Ho,q1,q2⟩:=U8 m x' h1;refine⟨e2,vs,Ho,q1,fun ρ0 S0 H0 w0 ρ S a w hn0 ba hst=>?_⟩;rw[rounds_succ];refine wp_mono (key ins s1 s' _ _ hcl hn (aA.yL hD hx') (by rw[IY hx'];simp[kU]) ρ S a w hn0 ba) ?_
       rintro e' a' w' ⟨rfl,hn1,ρ1,S1,dQ,hst1⟩
       exact q2 ρ0 S0 H0 w0 ρ1 S1 a' w' hn1 dQ (hst.trans hst1)
      ·cases h1
     ·cases h1
    ·cases h1
   |exit id=>
    dsimp only at h1;split at h1
    ·rename_i b s1 hcl;cases b with
     |false=>cases h1
     |true=>
     simp only[cE]at h1;split at h1
     ·rename_i s' hn;obtain⟨g1,vs',nC,g2,g3,g4⟩:=IZ hD bU hx _ _ _ _ h1;refine⟨.exit id,vs',nC,g2,fun ρ0 S0 H0 w0 ρ S a w hn0 ba hst=>?_⟩;rw[rounds_succ];refine wp_mono (key outs s1 s' _ _ hcl hn g3 (by rw[g4];simp[kU]) ρ S a w hn0 ba) ?_
      rintro e' a' w' ⟨rfl,hn1,ρ1,S1,dQ,hst1⟩
      exact⟨rfl,hn1,ρ1,S1,dQ,hst.trans hst1⟩
     ·cases h1
    ·cases h1
   |ret=>
    dsimp only at h1;split at h1
    ·rename_i b s1 hcl;cases b with
     |false=>cases h1
     |true=>
     simp only[cE]at h1;split at h1
     ·rename_i s' hn;obtain⟨g1,vs',nC,g2,g3,g4⟩:=IZ hD bU hx _ _ _ _ h1;refine⟨.ret,vs',nC,g2,fun ρ0 S0 H0 w0 ρ S a w hn0 ba hst=>?_⟩;rw[rounds_succ];refine wp_mono (key outs s1 s' _ _ hcl hn g3 (by rw[g4];simp[kU]) ρ S a w hn0 ba) ?_
      rintro e' a' w' ⟨rfl,hn1,ρ1,S1,dQ,hst1⟩
      exact⟨rfl,hn1,ρ1,S1,dQ,hst.trans hst1⟩
     ·cases h1
    ·cases h1
theorem cg(kp:Bool)(N:Nat):bR cx c (bZ cx.D kp n n0 ins outs sh (run N) out):=by
 intro vals Hi R k r h;simp only[bZ]at h;cases hb:Nat.beq Hi.length n0 with
 |false=>rw[hb]at h;cases h
 |true=>
  rw[hb]at h;have hlen:Hi.length=n0:=yc hb;simp only[cE]at h;split at h
  ·rename_i st hst;split at h
   ·rename_i x hx1;split at h
    ·rename_i y hy;obtain⟨e,vs,Ho,q1,q2⟩:=U8 hD hc hm hl h0 hs hx N x hy;rw[q1]at h;refine⟨e,vs,Ho,h,?_⟩;unfold U4 at hst;split at hst
     ·rename_i st1 hst1;have hst':oZ n0 ((reach st1.H 64 (List.range n0++bo (ins.map fun t=>st1.tm.getD t .any)) []).map some) ins st1=some st:=hst;obtain⟨k1,g1,g2⟩:=CG (cx:=cx) hD hst1;obtain⟨k2,g3,g4⟩:=CG (cx:=cx) hD hst';intro ρ S a w hn0 ba;have hno:cK (dn (List.replicate n (AV.any:AV K)) ins vals):=fun t g b v e=>by
       rcases wh ins vals _ t _ e with h1|⟨i,h1,-⟩
       ·rw[gh]at h1;split at h1<;>cases h1
       ·unfold oZ at hst1;split at hst1
        ·split at hst1
         ·rename_i ws H1 hv hm1;obtain⟨gl,gg⟩:=ta _ _ hv;have hi:i<ws.length:=by rw[gl];simp;exact(bg.1 h1).1
          obtain⟨v0,q1,q2⟩:=gg i _ (bI hi);simp only[fu,h1,ka,ak]at q1;rw[fR,e]at q1;simp only[aC]at q1;subst q1;simp[dV]at q2
         ·cases hst1
        ·cases hst1
      have hlen1:st1.tm.length=n:=by rw[I0 hst1];simp[s9]
      have hlen2:st.tm.length=n:=by rw[I0 hst'];exact hlen1
      have hw:=aA.yL hD hx1;have hr:=retag (cx:=cx) (n0:=n0) hlen2 g3 hw (by rw[IY hx1];simp[kU]);have hok:st.ok=true:=by rw[k2,k1]
      rw[hok]at hr;rw[hlen];obtain⟨hn1,ρ1,S1,dQ,hst2⟩:=((g2 hno).trans ((g4 g1).trans hr)) ρ S a w (by show n0<=Hi.length;omega) ba;exact wp_loop_rounds N (q2 ρ S Hi w ρ1 S1 a w hn1 dQ hst2)
     ·cases hst
    ·cases h
   ·cases h
  ·cases h
end
def jy:Code->List Code
 |.loop c=>[c]
 |.seq a b=>jy a++jy b
 |.cond _ a b=>jy a++jy b
 |.block _ c=>jy c
 |_=>[]
def bT(c:Code)(i:Nat):Code:=(jy c).getD i .skip
theorem wo{cx:Cx K}:∀(c:Code),(∀b∈jy c,∀L,cx.loop (keyOf b)=some L->bR cx b L)->iM cx c
 |.loop c,h=>fun L hL=>h c (by simp[jy]) L hL
 |.seq a b,h=>⟨wo a fun x hx=>h x (by simp[jy,hx]),wo b fun x hx=>h x (by simp[jy,hx])⟩
 |.cond _ a b,h=>⟨wo a fun x hx=>h x (by simp[jy,hx]),wo b fun x hx=>h x (by simp[jy,hx])⟩
 |.block _ c,h=>wo c h
 |.skip,_|.exit _,_|.ret,_|.region ..,_|.scope ..,_|.rangeFunc ..,_|.goto ..,_|.label ..,_|.refuse ..,_=>trivial
def I1(cx:Cx K)(c:Code):Prop:=∃L,cx.loop (keyOf c)=some L/\bR cx c L
theorem I1.mk{cx:Cx K}{c:Code}{L:bQ K}(h:cx.loop (keyOf c)=some L)(ho:bR cx c L):I1 cx c:=⟨L,h,ho⟩
theorem cn{cx:Cx K}{c:Code}(n:Nat)(hn:(jy c).length=n)(h:∀i,i<n->I1 cx (bT c i)):iM cx c:=
 wo c fun b hb L hL=>by
  obtain⟨i,hi,rfl⟩:=m7 hb;obtain⟨L',h1,h2⟩:=h i (by omega);have e:bT c i=(jy c)[i]:=by simp[bT,fR,bI hi]
  rw[e]at h1 h2;rw[h1]at hL;simp only[ak]at hL;subst hL;exact h2
theorem aJ{cx:Cx K}{c:Code}(hn:(jy c).length=0):iM cx c:=cn 0 hn fun i hi=>absurd hi (jD i)
theorem ct{p:Nat->Prop}(h:p 0):∀i,i<1->p i:=fun i hi=>by
 have:i=0:=by omega
 subst this;exact h
theorem lt_succ{p:Nat->Prop}{n:Nat}(h:∀i,i<n->p i)(hn:p n):∀i,i<n+1->p i:=fun i hi=>by
 by_cases he:i=n
 ·subst he;exact hn
 ·exact h i (by omega)
def bW(fn:Func):Code:=match fn.body with
 |some c=>c
 |none=>.skip
theorem aO{cx:Cx K}{fn:Func}(h:iM cx (bW fn)):∀c,fn.body=some c->iM cx c:=fun c hc=>by
 have:bW fn=c:=by unfold bW;rw[hc]
 rw[<-this];exact h
theorem az{α:Type _}{p:α->Prop}:∀c∈([]:List α),p c:=fun c h=>by simp at h
theorem aj{α:Type _}{p:α->Prop}{a:α}{l:List α}(h:p a)(t:∀c∈l,p c):∀c∈a::l,p c:=fun c hc=>by
 rcases dP.1 hc with rfl|hc
 ·exact h
 ·exact t c hc
theorem cm{i:Nat}:Ex.exit i≠.normal:=fun h=>by cases h
theorem dG:Ex.ret≠.normal:=fun h=>by cases h
theorem fp{D:aY K}{P:Program}{c:aE K}(h:∀x,c.run x=none):c.Ok D P:=fun x r hr=>by rw[h]at hr;cases hr
theorem Va:∃n:Nat,2^63<=n:=⟨2^63,bn _⟩
noncomputable def ai:Nat:=Classical.choose Va
theorem cJ:2^63<=ai:=Classical.choose_spec Va
end Go.V
