/-
  A FUNCTION, A LOOP, by a plain definition that they are shown to be equal to.
-/
import Derived.Test.YtghkckfhaljjjaaGreatDoorXWshape
set_option linter.unusedVariables false
namespace Go.V
open Go
variable {K :dh}{ρ ρ':List Value}{S S':Nat->Prop}{w w':World}{H H':List (Ob K)}
def nu(dp:K.U->Bool)(H:List (Ob K))(cs:List (List (Option K.U))):AV K->AV K×List (Ob K)
 |.bC l=>(.bC (fK dp H cs l).1,(fK dp H cs l).2)
 |v=>((fK dp H cs [v]).1.headD v,(fK dp H cs [v]).2)
def forgets:List Bool->List (AV K)->List (AV K)
 |[],vs=>vs
 |_::_,[]=>[]
 |true::r,_::vs=>.any::forgets r vs
 |false::r,v::vs=>v::forgets r vs
def D1:List Bool->AV K->AV K
 |[],v=>v
 |l,.bC vs=>.bC (forgets l vs)
 |true::_,_=>.any
 |false::_,v=>v
theorem JX{D:bH K}:∀(l:List Bool)(vs:List (AV K))(us:List Value),bh D ρ S w vs us->bh D ρ S w (forgets l vs) us
 |[],vs,us,h=>by simpa only[forgets]using h
 |_::_,[],us,h=>by simpa only[forgets]using h
 |b::r,v::vs,us,h=>by
  obtain⟨u,t,rfl,h1,h2⟩:=h.gp;cases b
  ·exact .cons h1 (JX r vs t h2)
  ·exact .cons (.any u) (JX r vs t h2)
theorem ae9{D:bH K}(l:List Bool)(v:AV K)(u:Value)(h:Rep D ρ S w v u):Rep D ρ S w (D1 l v) u:=by
 unfold D1;split
 ·exact h
 ·cases h with
  |bC hl hh=>
   have:=JX l _ _ ⟨hl,hh⟩;exact .bC this.1 this.2
 ·exact .any _
 ·exact h
def JY(cx:Cx K)(fz:Bool)(fn:Func)(n0:Nat){R:Type}(fin:AV K->List (Ob K)->Option R)(e:Ex)(st:St K):Option R:=
 match e with
 |.exit _=>none
 |_=>match resV cx fn st with
  |some v0=>let v:=D1 cx.ON v0
   cond st.ok (cond fz (match DK cx.mv n0 (eE (iZ st.H (hands v)) v) (iZ st.H (hands v))with
    |some (v',H')=>fin v' H'
    |none=>none) (match DK cx.mv n0 (nu cx.deep st.H cx.iq v).1 (nu cx.deep st.H cx.iq v).2 with
    |some (v',H')=>fin v' H'
    |none=>none)) none
  |none=>none
def D2(cx:Cx K)(fz:Bool)(fn:Func)(args:List (AV K))(H:List (Ob K)){R:Type}(fin:AV K->List (Ob K)->Option R):Option R:=
 match fn.body with
 |some c=>gi cx c ⟨args++List.replicate (fn.ntmps-args.length) .any,H,true⟩ (JY cx fz fn H.length fin)
 |none=>none
structure P2 (P:Program) (f:FuncId) (fn:Func):Prop where
 get:P.funcs[f]?=some fn
 name:(fn.name== "runtime.NumGoroutine")=false
theorem JZ{D:bH K}(dp:K.U->Bool):∀(css:List (List (Option K.U)))(l:List (AV K))(H:List (Ob K))(ρ:List Value)(vs:List Value),aS D ρ S w H->bh D ρ S w l vs->wK D S w H ρ vs (fK dp H css l)
 |[],l,H,ρ,vs,hs,hr=>⟨ρ,by simpa [fK]using hs,by simpa [fK]using hr,by simpa [fK]using Step.refl,fun _ _ h=>h,by simp[fK],fun _ _ h=>by simpa [fK]using h⟩
 |cs::css,[],H,ρ,vs,hs,hr=>⟨ρ,by simpa [fK]using hs,by simpa [fK]using hr,by simpa [fK]using Step.refl,fun _ _ h=>h,by simp[fK],fun _ _ h=>by simpa [fK]using h⟩
 |cs::css,v::r,H,ρ,vs,hs,hr=>by
  obtain⟨u,t,rfl,h1,h2⟩:=hr.gp;have fin:∀(v':AV K)(p:List (AV K)×List (Ob K))(us:List Value),(∀ρ',bh D ρ' S w p.1 us->Rep D ρ' S w v' u)->wK D S w H ρ us p->wK D S w H ρ (u::t) (v'::(fK dp p.2 css r).1,(fK dp p.2 css r).2):=fun v' p us hv hp=>by
   obtain⟨ρ1,g1,g2,g3,g4,g5,g6⟩:=hp;obtain⟨ρ2,k1,k2,k3,k4,k5,k6⟩:=JZ dp css r p.2 ρ1 t g1 (h2.mono (fun _ h=>h) (fun _ _=>rfl) g4);exact⟨ρ2,k1,.cons ((hv ρ1 g2).mono (fun _ h=>h) (fun _ _=>rfl) k4) k2,g3.trans (k3.weaken g5),fun h r hr=>k4 h r (g4 h r hr),lU g5 k5,fun h o ho=>k6 h o (g6 h o ho)⟩
  have one:∀v,Rep D ρ S w v u->fK dp H (cs::css) (v::r)=((thaw dp H cs [v]).1.headD v::(fK dp (thaw dp H cs [v]).2 css r).1,(fK dp (thaw dp H cs [v]).2 css r).2)->wK D S w H ρ (u::t) (fK dp H (cs::css) (v::r)):=fun v h1 e=>by
   rw[e];refine fin _ _ [u] (fun ρ' hr'=>?_) (uD dp cs [v] H ρ [u] hs (.cons h1 .nil));generalize hq:(thaw dp H cs [v]).1=q at hr';cases q with
   |nil=>have:=hr'.1;simp at this
   |cons x y=>exact hr'.head
  cases v with
  |agg l=>
   cases h1 with
   |agg hl hh=>
    have e:fK dp H (cs::css) (.agg l::r)=(.agg (thaw dp H cs l).1::(fK dp (thaw dp H cs l).2 css r).1,(fK dp (thaw dp H cs l).2 css r).2):=rfl;rw[e];exact fin _ _ _ (fun ρ' hr'=>.agg hr'.1 hr'.2) (uD dp cs l H ρ _ hs ⟨hl,hh⟩)
  |_=>exact one _ h1 rfl
theorem afa{D:bH K}(dp:K.U->Bool)(cs:List (List (Option K.U)))(v:AV K)(hs:aS D ρ S w H){u:Value}(hr:Rep D ρ S w v u):
 ∃ρ',aS D ρ' S w (nu dp H cs v).2/\Rep D ρ' S w (nu dp H cs v).1 u/\Step D H.length ρ S H w ρ' S (nu dp H cs v).2 w/\H.length<=(nu dp H cs v).2.length:=by
 have one:∀v,Rep D ρ S w v u->nu dp H cs v=((fK dp H cs [v]).1.headD v,(fK dp H cs [v]).2)->∃ρ',aS D ρ' S w (nu dp H cs v).2/\Rep D ρ' S w (nu dp H cs v).1 u/\Step D H.length ρ S H w ρ' S (nu dp H cs v).2 w/\H.length<=(nu dp H cs v).2.length:=fun v hr e=>by
  rw[e];obtain⟨ρ',g1,g2,g3,g4,g5,g6⟩:=JZ dp cs [v] H ρ [u] hs (.cons hr .nil);refine⟨ρ',g1,?_,g3,g5⟩;generalize hq:(fK dp H cs [v]).1=q at g2;cases q with
  |nil=>have:=g2.1;simp at this
  |cons x y=>exact g2.head
 cases v with
 |bC l=>
  cases hr with
  |bC hl hh=>
   obtain⟨ρ',g1,g2,g3,g4,g5,g6⟩:=JZ dp cs l H ρ _ hs ⟨hl,hh⟩;exact⟨ρ',g1,.bC g2.1 g2.2,g3,g5⟩
 |_=>exact one _ hr rfl
theorem afb{cx:Cx K}(hD:bR cx.D){fz:Bool}{fn:Func}{n0:Nat}{R:Type}{fin:AV K->List (Ob K)->Option R}{e:Ex}{st:St K}{r:R}(h:JY cx fz fn n0 fin e st=some r):
 st.ok=true/\(∀i,e≠.exit i)/\∃v v' H',resV cx fn st=some v/\fin v' H'=some r/\∀ρ S w,n0<=st.H.length->aS cx.D ρ S w st.H->∀u,Rep cx.D ρ S w v u->∃ρ' S',aS cx.D ρ' S' w H'/\Rep cx.D ρ' S' w v' u/\Step cx.D n0 ρ S st.H w ρ' S' H' w:=by
 have key:∀(v0:AV K)(H0:List (Ob K)) v' H',DK cx.mv n0 v0 H0=some (v',H')->∀ρ S w,n0<=H0.length->aS cx.D ρ S w H0->∀u,Rep cx.D ρ S w v0 u->∃ρ',aS cx.D ρ' S w H'/\Rep cx.D ρ' S w v' u/\Step cx.D n0 ρ S H0 w ρ' S H' w:=fun v0 H0 v' H' hp ρ S w hn hs u hr=>by
  unfold DK Jo at hp;split at hp
  ·rename_i hk;simp only[cG,bB]at hk;split at hp
   ·rename_i v'' H1 hv' hH';simp only[av,aZ]at hp;obtain⟨rfl,rfl⟩:=hp;obtain⟨s1,s2,s3,s4⟩:=P3 hD hs hn hk.1 hk.2 hH';exact⟨_,s1,rl hD s3 _ _ u hv' hr,s2⟩
   ·cases hp
  ·cases hp
 unfold JY at h;split at h
 ·cases h
 ·rename_i hne;split at h
  ·rename_i v0 hv0;dsimp only at h;generalize hv:D1 cx.ON v0=v at h;have P4:∀{ρ S w}{u:Value},Rep cx.D ρ S w v0 u->Rep cx.D ρ S w v u:=fun hr=>by rw[<-hv];exact ae9 _ _ _ hr
   cases hok:st.ok with
   |false=>rw[hok]at h;cases h
   |true=>
    rw[hok]at h;simp only[ae]at h;refine⟨rfl,hne,?_⟩;cases fz with
    |false=>
     simp only[aR]at h;split at h
     ·rename_i v' H' hp;exact⟨v0,v',H',hv0,h,fun ρ S w hn hs u hr0=>by
       have hr:=P4 hr0;obtain⟨ρ1,t1,t2,t3,t4⟩:=afa cx.deep cx.iq v hs hr;obtain⟨ρ',a,b,c⟩:=key _ _ _ _ hp ρ1 S w (lU hn t4) t1 u t2;exact⟨ρ',S,a,b,(t3.weaken hn).trans c⟩⟩
     ·cases h
    |true=>
     simp only[ae]at h;split at h
     ·rename_i v' H' hp;exact⟨v0,v',H',hv0,h,fun ρ S w hn hs u hr0=>by
       have hr:=P4 hr0;obtain⟨S1,g1,g2,g3⟩:=CY (n0:=n0) (hands v) hs;obtain⟨ρ',a,b,c⟩:=key _ _ _ _ hp ρ S1 w (by omega) g1 u (oi g1 _ _ (hr.mono g2.s1 (fun _ _=>rfl) (fun _ _ h=>h)));exact⟨ρ',S1,a,b,g2.trans c⟩⟩
     ·cases h
  ·cases h
theorem afc{cx:Cx K}(hD:bR cx.D)(hc:aP cx)(hm:cx.P.follows .mixedOrders=true){fz:Bool}{f:FuncId}{fn:Func}(hf:P2 cx.P f fn)(hl:∀c,fn.body=some c->ju cx c)
 {args:List (AV K)} {R:Type} {fin:AV K->List (Ob K)->Option R} {r:R} (h:D2 cx fz fn args H fin=some r):∃v H',fin v H'=some r/\RC cx.D cx.P f args H v H':=by
 unfold D2 at h;split at h
 ·rename_i c hb;obtain⟨e,st,h1,-,h3⟩:=oy hD hc hm c (hl c hb) _ _ _ h;obtain⟨hok,hne,v,v',H',hv,hr,hfin⟩:=afb hD h1;refine⟨v',H',hr,⟨fn,hf.get,hf.name,by rw[hb];rfl⟩,fun ρ S w vals hs ha=>?_⟩;have h0:dC (args++List.replicate (fn.ntmps-args.length) (AV.any:AV K)):=fun t g b y e=>by
   rcases cP t args.length with hlt|hge
   ·rw[b9 hlt]at e;obtain⟨x,-,hx⟩:=ha.get e;cases hx
   ·rw[eR hge,m8]at e;split at e<;>cases e
  obtain⟨n1,htr⟩:=h3 hok h0;refine calls_of_wp hf.get hb ?_;have bM:Sat cx ρ S {tmps:=vals.toArray++Array.replicate (fn.ntmps-vals.toArray.size) undef,defers:=[]} w ⟨args++List.replicate (fn.ntmps-args.length) .any,H,true⟩:=⟨hs,⟨by simp[ha.1],fun t v x h1 h2=>.jR (by
   rcases cP t args.length with hlt|hge
   ·rw[b9 hlt]at h1;rw[Array.getElem?_append_left (by simpa [<-ha.1]using hlt)]at h2;exact ha.2 t v x h1 (by simpa using h2)
   ·rw[eR hge,m8]at h1;split at h1
    ·simp at h1;subst h1;exact .any x
    ·cases h1)⟩,rfl⟩
  refine wp_mono (htr H.length ρ S _ w (fh _) bM) ?_
  rintro e' a' w' ⟨rfl,hn,ρ1,S1,fC,hst1⟩
  obtain⟨u,hu,hr1⟩:=afd hD n1 fC hv;have P5:∃u' ρ' S',Ending.returned u=.returned u'/\aS cx.D ρ' S' w' H'/\Rep cx.D ρ' S' w' v' u'/\Step cx.D H.length ρ S H w ρ' S' H' w':=by
   obtain⟨ρ2,S2,q1,q2,q3⟩:=hfin ρ1 S1 w' hn fC.heap u hr1;exact⟨u,ρ2,S2,rfl,q1,q2,hst1.trans q3⟩
  cases e with
  |exit i=>exact absurd rfl (hne i)
  |normal=>exact⟨fC.defers,u,hu,P5⟩
  |ret=>exact⟨fC.defers,u,hu,P5⟩
 ·cases h
structure aG (K:dh) where
 f:FuncId
 sh:aK K
 R:Type
 run:sh.T->Option R
 dflt:R
 out:R->AV K×List (Ob K)
def aG.Ok(D:bH K)(P:Program)(c:aG K):Prop:=∀x r,c.run x=some r->RC D P c.f (c.sh.lX D x) (c.sh.mz D x) (c.out r).1 (c.out r).2
def callOf(D:bH K):List (aG K)->FuncId->List (AV K)->List (Ob K)->Option (AV K×List (Ob K)×Bool)
 |[],_,_,_=>none
 |c::l,f,args,H=>cond (Nat.beq c.f f) (match c.sh.dec D args H with
  |some x=>some ((c.out ((c.run x).getD c.dflt)).1,(c.out ((c.run x).getD c.dflt)).2,(c.run x).isSome)
  |none=>callOf D l f args H) (callOf D l f args H)
theorem RC.weak{D:bH K}{P:Program}{f:FuncId}{args args':List (AV K)}{r:AV K}{Ho:List (Ob K)}(hw:Wk D args H args' H')(h:RC D P f args' H' r Ho):RC D P f args H r Ho:=by
 refine⟨h.1,fun ρ S w vals hs ha=>(h.2 ρ S w vals (hw.heap _ _ _ hs) (hw.J0 _ _ _ _ ha)).mono ?_⟩
 rintro e w' ⟨u,ρ',S',rfl,h1,h2,h3⟩
 rw[hw.len]at h3;exact⟨u,ρ',S',rfl,h1,h2,hw.step.trans h3⟩
theorem P6{D:bH K}(hD:bR D){P:Program}:∀(l:List (aG K)),(∀c∈l,c.Ok D P)->∀f args H r H',callOf D l f args H=some (r,H',true)->RC D P f args H r H'
 |[],_,f,args,H,r,H',h=>by simp[callOf]at h
 |c::l,hl,f,args,H,r,H',h=>by
  have ih:=P6 hD l (fun c hc=>hl c (by simp[hc])) f args H r H';unfold callOf at h;cases hb:Nat.beq c.f f with
  |false=>rw[hb]at h;exact ih h
  |true=>
   rw[hb]at h;have hf:c.f=f:=wo hb;simp only[ae]at h;split at h
   ·rename_i x hx;simp only[av,aZ]at h;obtain⟨h1,h2,h3⟩:=h;obtain⟨y,hy⟩:=Option.isSome_iff_exists.1 h3;rw[hy]at h1 h2;simp only[ay]at h1 h2;have:=hl c (by simp) x y hy;rw[h1,h2,hf]at this;exact this.weak (aK.zk hD hx)
   ·exact ih h
theorem aV{cx:Cx K}(hD:bR cx.D)(l:List (aG K))(hl:∀c∈l,c.Ok cx.D cx.P)(he:cx.call=callOf cx.D l:=by exact rfl)(ha:cx.alt=fun _ _ _ _=>none:=by exact rfl)(ho:(fun(R:Type)=>cx.yD (R:=R))=fun(R:Type)(a b:Option R)=>I6 a b:=by exact rfl):aP cx:=by
 refine⟨fun f args H r H' h=>?_,fun b f args H r H' h=>?_,fun R a b r h=>?_⟩
 ·rw[he]at h;exact P6 hD l hl f args H r H' h
 ·rw[ha]at h;cases h
 ·have:=congrFun ho R;rw[this]at h;exact aes h
def aG.frz(D:bH K)(c:aG K):aG K:={c with out:=fun r=>(jo D (c.out r).2 (c.out r).1,[])}
structure zl (K:dh) (D:bH K) (R:Type) where
 sh:aK K
 conv:sh.T->R
def zl.fin{D:bH K}{R:Type}(d:zl K D R)(v:AV K)(H:List (Ob K)):Option R:=match d.sh.dec D [v] H with
 |some x=>some (d.conv x)
 |none=>none
theorem fP{cx:Cx K}(hD:bR cx.D)(hc:aP cx)(hm:cx.P.follows .mixedOrders=true){c:aG K}{fz:Bool}{fn:Func}(hf:P2 cx.P c.f fn)(hl:∀b,fn.body=some b->ju cx b)
 (d:zl K cx.D c.R) (ho:∀x,([(c.out (d.conv x)).1],(c.out (d.conv x)).2)=(d.sh.lX cx.D x,d.sh.mz cx.D x)) (he:∀x,D2 cx fz fn (c.sh.lX cx.D x) (c.sh.mz cx.D x) d.fin=c.run x):c.Ok cx.D cx.P:=by
 intro x r hr;rw[<-he x]at hr;obtain⟨v,H',h1,h2⟩:=afc hD hc hm hf hl hr;unfold zl.fin at h1;split at h1
 ·rename_i y hy;simp only[av]at h1;have hw:=aK.zk hD hy;have:=ho y;simp only[aZ]at this;rw[<-this.1,<-this.2]at hw;rw[h1]at hw;refine⟨h2.1,fun ρ S w vals hs ha=>(h2.2 ρ S w vals hs ha).mono ?_⟩
  rintro e w' ⟨u,ρ',S',rfl,g1,g2,g3⟩
  have:=(hw.J0 _ _ _ [u] (.cons g2 .nil)).head;exact⟨u,ρ',S',rfl,hw.heap _ _ _ g1,this,g3.trans hw.step⟩
 ·cases h1
def J1(kp:Bool):Nat->List (Ob K)->List (Option Nat)×List (Option Nat)
 |_,[]=>([],[])
 |i,o::r=>match J1 kp (i+1) r with
  |(a,b)=>match o with
   |.arr ..=>cond kp (some i::a,b) (none::a,some i::b)
   |.tree ..=>cond kp (some i::a,b) (none::a,some i::b)
   |_=>(some i::a,b)
def P7(kp:Bool)(n n0:Nat)(ins:List Nat)(vals:List (AV K))(Hi:List (Ob K)):Option (St K):=
 match qb n0 ((J1 kp 0 Hi).1++(J1 kp 0 Hi).2) ins ⟨ek (List.replicate n .any) ins vals,Hi,true⟩with
 |some st=>uw n0 ins st
 |none=>none
def mC(st:St K)(ts:List Nat):List (AV K):=ts.map fun t=>st.tm.getD t .any
def bJ(D:bH K)(kp:Bool)(n n0:Nat)(ins outs:List Nat)(sh:aK K){Y:Type}(run:sh.T->Option Y)(out:Y->{R:Type}->(Ex->List (AV K)->List (Ob K)->R)->R):bE K:={
 n:=n
 ins:=ins
 outs:=outs
 run vals Hi k:=cond (Nat.beq Hi.length n0) (match P7 kp n n0 ins vals Hi with
  |some st=>match sh.dec D (mC st ins) st.H with
   |some x=>match run x with
    |some y=>out y k
    |none=>none
   |none=>none
  |none=>none) none}
def P8(cx:Cx K)(n n0:Nat)(ins outs:List Nat)(sh:aK K){Y:Type}(next:sh.T->Option Y)(fin:Ex->List (AV K)->List (Ob K)->Option Y)(e:Ex)(s:St K):Option Y:=
 cond s.ok (cond (Nat.beq s.tm.length n) (match e with
  |.normal=>match rM cx s with
    |some (b,s1)=>cond b (match uw n0 ins s1 with
     |some s'=>match sh.dec cx.D (mC s' ins) s'.H with
      |some x=>next x
      |none=>none
     |none=>none) none
    |none=>none
  |e=>match rM cx s with
   |some (b,s1)=>cond b (match uw n0 outs s1 with
    |some s'=>fin e (mC s' outs) s'.H
    |none=>none) none
   |none=>none) none) none
def wL(D:bH K)(n:Nat)(ins:List Nat)(sh:aK K)(x:sh.T):St K:=⟨ek (List.replicate n .any) ins (sh.lX D x),sh.mz D x,true⟩
structure cz (K:dh) (Y:Type) where
 e:Ex
 sh:aK K
 conv:sh.T->Y
def Ex.same:Ex->Ex->Bool
 |.normal,.normal=>true
 |.exit a,.exit b=>Nat.beq a b
 |.ret,.ret=>true
 |_,_=>false
theorem Ex.same_eq{a b:Ex}(h:Ex.same a b=true):a=b:=by
 cases a<;>cases b<;>simp only[Ex.same]at h<;>first|rfl|cases h|(rw[wo h])
def zm(D:bH K){Y:Type}:List (cz K Y)->Ex->List (AV K)->List (Ob K)->Option Y
 |[],_,_,_=>none
 |d::l,e,vs,H=>cond (Ex.same d.e e) (match d.sh.dec D vs H with
  |some x=>some (d.conv x)
  |none=>none) (zm D l e vs H)
theorem P9{D:bH K}:∀(l:List (Sh K))(vs:List (AV K))(x:Sh.Ts l),Sh.d5 D l vs=some x->vs.length=l.length
 |[],vs,x,h=>by
   cases vs with
   |nil=>rfl
   |cons v r=>unfold Sh.d5 at h;cases h
 |s::r,vs,x,h=>by
  cases vs with
  |nil=>unfold Sh.d5 at h;cases h
  |cons v l=>
   unfold Sh.d5 at h;split at h
   ·rename_i a b h1 h2;simp only[ak];rw[P9 r l b h2]
   ·cases h
theorem II{D:bH K}:∀(l:List (Sh K))(x:Sh.Ts l),(Sh.encs D l x).length=l.length
 |[],x=>rfl
 |s::r,x=>by simp only[Sh.encs,ak];rw[II r]
theorem nY{D:bH K}{sh:aK K}{vs:List (AV K)}{x:sh.T}(h:sh.dec D vs H=some x):(sh.lX D x).length=vs.length:=by
 unfold aK.dec at h;split at h
 ·rename_i a b h1 h2;unfold aK.lX;rw[II,P9 _ _ _ h1]
 ·cases h
theorem J2{D:bH K}(hD:bR D){Y:Type}{out:Y->{R:Type}->(Ex->List (AV K)->List (Ob K)->R)->R}:∀(l:List (cz K Y)),(∀d∈l,d.e≠.normal/\∀x (R:Type) (k:Ex->List (AV K)->List (Ob K)->R),out (d.conv x) k=k d.e (d.sh.lX D x) (d.sh.mz D x))->
 ∀e vs H y,zm D l e vs H=some y->e≠.normal/\∃vs' H',(∀(R:Type)(k:Ex->List (AV K)->List (Ob K)->R),out y k=k e vs' H')/\Wk D vs H vs' H'/\vs'.length=vs.length
 |[],_,e,vs,H,y,h=>by simp[zm]at h
 |d::l,hl,e,vs,H,y,h=>by
  unfold zm at h;cases hs:Ex.same d.e e with
  |false=>rw[hs]at h;exact J2 hD l (fun d hd=>hl d (by simp[hd])) e vs H y h
  |true=>
   rw[hs]at h;have he:=Ex.same_eq hs;simp only[ae]at h;split at h
   ·rename_i x hx;simp only[av]at h;subst h;obtain⟨h1,h2⟩:=hl d (by simp);rw[he]at h1 h2;exact⟨h1,_,_,fun R k=>h2 x R k,aK.zk hD hx,nY hx⟩
   ·cases h
theorem retag{cx:Cx K}{n0:Nat}{st:St K}{ts:List Nat}{n:Nat}(hn:st.tm.length=n)(h0:dC st.tm){vs':List (AV K)}(hw:Wk cx.D (mC st ts) st.H vs' H')(hlen:vs'.length=ts.length):
 Goes cx n0 st ⟨ek (List.replicate n .any) ts vs',H',st.ok⟩:=by
 intro ρ S a w hn0 bM;refine⟨by show n0<=H'.length;rw[hw.len];exact hn0,ρ,S,⟨hw.heap _ _ _ bM.heap,?_,bM.defers⟩,hw.step⟩;have hsz:a.tmps.size=n:=by rw[<-hn];exact bM.slots.len.symm
 have hrep:∀t,Rep cx.D ρ S w (st.tm.getD t .any) (a.tmps.getD t undef):=fun t=>by
  rw[gn,gu];cases hg:st.tm[t]? with
  |none=>exact .any _
  |some v=>
   obtain⟨x,hx,-⟩:=bM.slots.get hg;rw[hx];exact bM.slots.rep h0 hg hx
 have hus:bh cx.D ρ S w (mC st ts) (ts.map fun t=>a.tmps.getD t undef):=⟨by simp[mC],fun i v x h1 h2=>by
  simp only[mC,ik,dy]at h1 h2;obtain⟨t,e1,rfl⟩:=h1;obtain⟨t',e2,rfl⟩:=h2;rw[e1]at e2;simp at e2;subst e2;exact hrep t⟩
 have afe:=hw.J0 _ _ _ _ hus;refine JK hsz fun i t v x h1 h2 h3=>afe.2 i v x h2 ?_
 simp only[ik,h1,iC];rw[gu,h3];rfl
theorem Qa{D:bH K}:∀(l:List (Sh K))(x:Sh.Ts l)(i:Nat)(v:AV K),(Sh.encs D l x)[i]?=some v->v.jr=false
 |[],x,i,v,h=>by simp[Sh.encs]at h
 |s::r,x,i,v,h=>by
  cases i with
  |zero=>
   simp only[Sh.encs,List.getElem?_cons_zero,av]at h;subst h;cases s<;>simp only[Sh.enc]<;>rfl
  |succ i=>exact Qa r x.2 i v (by simpa [Sh.encs]using h)
theorem aff{n:Nat}{ds:List Nat}{l:List (AV K)}(h:∀(i:Nat) v,l[i]?=some v->v.jr=false):dC (ek (List.replicate n .any) ds l):=fun t g b v e=>by
 rcases wI ds l _ t _ e with h1|⟨i,-,h2⟩
 ·rw[m8]at h1;split at h1<;>cases h1
 ·have:=h i _ h2;simp[AV.jr]at this
theorem J3{n0:Nat}{src:List (Option Nat)}{keep:List Nat}{st st':St K}(h:qb n0 src keep st=some st'):st'.tm.length=st.tm.length:=by
 unfold qb at h;split at h
 ·split at h
  ·simp only[av]at h;subst h;simp[uz]
  ·cases h
 ·cases h
theorem Tr.goes{cx:Cx K}{n0:Nat}{c:Code}{st st1 st2:St K}{e:Ex}(h:Tr cx n0 c st e st1)(g:Goes cx n0 st1 st2):Tr cx n0 c st e st2:=fun ρ S a w hn bM=>by
 refine wp_mono (h ρ S a w hn bM) ?_
 rintro e' a' w' ⟨he,hn1,ρ1,S1,fC,hst1⟩
 obtain⟨hn2,ρ2,S2,zf,hst2⟩:=g ρ1 S1 a' w' hn1 fC;exact⟨he,hn2,ρ2,S2,zf,hst1.trans hst2⟩
section
variable {cx :Cx K}(hD:bR cx.D)(hc:aP cx)(hm:cx.P.follows .mixedOrders=true){c:Code}(hl:ju cx c){n n0:Nat}{ins outs:List Nat}{sh:aK K}{Y:Type}{run:Nat->sh.T->Option Y}
 {bG:List (cz K Y)} {out:Y->{R:Type}->(Ex->List (AV K)->List (Ob K)->R)->R}
 (h0:∀x,run 0 x=none) (hs:∀m x,gi cx c (wL cx.D n ins sh x) (P8 cx n n0 ins outs sh (run m) (zm cx.D bG))=run (m+1) x)
 (hx:∀d∈bG,d.e≠.normal/\∀x (R:Type) (k:Ex->List (AV K)->List (Ob K)->R),out (d.conv x) k=k d.e (d.sh.lX cx.D x) (d.sh.mz cx.D x))
include hD hc hm hl h0 hs hx
theorem Qb{y:Y}:∀(m:Nat)(x:sh.T),run m x=some y->∃e vs Ho,(∀(R:Type)(k:Ex->List (AV K)->List (Ob K)->R),out y k=k e vs Ho)/\
 ∀(ρ0:List Value)(S0:Nat->Prop)(H0:List (Ob K))(w0:World)(ρ:List Value)(S:Nat->Prop)(a:Act)(w:World),n0<=(wL cx.D n ins sh x).H.length->Sat cx ρ S a w (wL cx.D n ins sh x)->Step cx.D n0 ρ0 S0 H0 w0 ρ S (wL cx.D n ins sh x).H w->
  Code.rounds cx.P c (fun e' a' w'=>e'=e.ng/\n0<=Ho.length/\∃ρ' S',Sat cx ρ' S' a' w' ⟨ek (List.replicate n .any) outs vs,Ho,true⟩/\Step cx.D n0 ρ0 S0 H0 w0 ρ' S' Ho w') m a w
 |0,x,h=>by rw[h0]at h;cases h
 |m+1,x,h=>by
  rw[<-hs m x]at h;obtain⟨e,s,h1,h2,h3⟩:=oy hD hc hm c hl _ _ _ h;unfold P8 at h1;have hno:dC (wL cx.D n ins sh x).tm:=aff (Qa _ _);cases hok:s.ok with
  |false=>rw[hok]at h1;cases h1
  |true=>
   rw[hok]at h1;simp only[ae]at h1;obtain⟨n1,htr⟩:=h3 hok hno;cases hlen:Nat.beq s.tm.length n with
   |false=>rw[hlen]at h1;cases h1
   |true=>
   rw[hlen]at h1;simp only[ae]at h1;have hsn:s.tm.length=n:=wo hlen;have key:∀keep s1 s' vs' oC,rM cx s=some (true,s1)->uw n0 keep s1=some s'->Wk cx.D (mC s' keep) s'.H vs' oC->vs'.length=keep.length->Tr cx n0 c (wL cx.D n ins sh x) e ⟨ek (List.replicate n .any) keep vs',oC,true⟩:=fun keep s1 s' vs' oC hcl hn hw hvl=>by
    have hr:qb n0 ((reach s1.H 64 (List.range n0++cr (keep.map fun t=>s1.tm.getD t .any)) []).map some) keep s1=some s':=hn;obtain⟨hk1,g1,g2⟩:=D3 (cx:=cx) hD hr;obtain⟨c1,c2,c3,c4⟩:=Qc hD hcl;have gc:Goes cx n0 s s1:=fun ρ S a w hn bM=>by
     obtain⟨q1,q2⟩:=c4 n0 ρ S a w bM;exact⟨by rw[c3];exact hn,ρ,S,q1,q2⟩
    have hl2:s1.tm.length=n:=by rw[c1];exact hsn
    have hn2:dC s1.tm:=by rw[c1];exact n1
    have:=(htr n0).goes (gc.trans ((g2 hn2).trans (retag ((J3 hr).trans hl2) g1 hw hvl)));rw[hk1,c2,hok]at this;exact this
   cases e with
   |normal=>
    dsimp only at h1;split at h1
    ·rename_i b s1 hcl;cases b with
     |false=>cases h1
     |true=>
     simp only[ae]at h1;split at h1
     ·rename_i s' hn;split at h1
      ·rename_i x' hx';obtain⟨e2,vs,Ho,q1,q2⟩:=Qb m x' h1;refine⟨e2,vs,Ho,q1,fun ρ0 S0 H0 w0 ρ S a w hn0 bM hst=>?_⟩;rw[rounds_succ];refine wp_mono (key ins s1 s' _ _ hcl hn (aK.zk hD hx') (by rw[nY hx'];simp[mC]) ρ S a w hn0 bM) ?_
       rintro e' a' w' ⟨rfl,hn1,ρ1,S1,fC,hst1⟩
       exact q2 ρ0 S0 H0 w0 ρ1 S1 a' w' hn1 fC (hst.trans hst1)
      ·cases h1
     ·cases h1
    ·cases h1
   |exit id=>
    dsimp only at h1;split at h1
    ·rename_i b s1 hcl;cases b with
     |false=>cases h1
     |true=>
     simp only[ae]at h1;split at h1
     ·rename_i s' hn;obtain⟨g1,vs',oC,g2,g3,g4⟩:=J2 hD bG hx _ _ _ _ h1;refine⟨.exit id,vs',oC,g2,fun ρ0 S0 H0 w0 ρ S a w hn0 bM hst=>?_⟩;rw[rounds_succ];refine wp_mono (key outs s1 s' _ _ hcl hn g3 (by rw[g4];simp[mC]) ρ S a w hn0 bM) ?_
      rintro e' a' w' ⟨rfl,hn1,ρ1,S1,fC,hst1⟩
      exact⟨rfl,hn1,ρ1,S1,fC,hst.trans hst1⟩
     ·cases h1
    ·cases h1
   |ret=>
    dsimp only at h1;split at h1
    ·rename_i b s1 hcl;cases b with
     |false=>cases h1
     |true=>
     simp only[ae]at h1;split at h1
     ·rename_i s' hn;obtain⟨g1,vs',oC,g2,g3,g4⟩:=J2 hD bG hx _ _ _ _ h1;refine⟨.ret,vs',oC,g2,fun ρ0 S0 H0 w0 ρ S a w hn0 bM hst=>?_⟩;rw[rounds_succ];refine wp_mono (key outs s1 s' _ _ hcl hn g3 (by rw[g4];simp[mC]) ρ S a w hn0 bM) ?_
      rintro e' a' w' ⟨rfl,hn1,ρ1,S1,fC,hst1⟩
      exact⟨rfl,hn1,ρ1,S1,fC,hst.trans hst1⟩
     ·cases h1
    ·cases h1
theorem bK(kp:Bool)(N:Nat):bF cx c (bJ cx.D kp n n0 ins outs sh (run N) out):=by
 intro vals Hi R k r h;simp only[bJ]at h;cases hb:Nat.beq Hi.length n0 with
 |false=>rw[hb]at h;cases h
 |true=>
  rw[hb]at h;have hlen:Hi.length=n0:=wo hb;simp only[ae]at h;split at h
  ·rename_i st hst;split at h
   ·rename_i x hx1;split at h
    ·rename_i y hy;obtain⟨e,vs,Ho,q1,q2⟩:=Qb hD hc hm hl h0 hs hx N x hy;rw[q1]at h;refine⟨e,vs,Ho,h,?_⟩;unfold P7 at hst;split at hst
     ·rename_i st1 hst1;have hst':qb n0 ((reach st1.H 64 (List.range n0++cr (ins.map fun t=>st1.tm.getD t .any)) []).map some) ins st1=some st:=hst;obtain⟨k1,g1,g2⟩:=D3 (cx:=cx) hD hst1;obtain⟨k2,g3,g4⟩:=D3 (cx:=cx) hD hst';intro ρ S a w hn0 bM;have hno:dC (ek (List.replicate n (AV.any:AV K)) ins vals):=fun t g b v e=>by
       rcases wI ins vals _ t _ e with h1|⟨i,h1,-⟩
       ·rw[m8]at h1;split at h1<;>cases h1
       ·unfold qb at hst1;split at hst1
        ·split at hst1
         ·rename_i ws H1 hv hm1;obtain⟨gl,gg⟩:=uA _ _ hv;have hi:i<ws.length:=by rw[gl];simp;exact(bD.1 h1).1
          obtain⟨v0,q1,q2⟩:=gg i _ (cH hi);simp only[ik,h1,iC,av]at q1;rw[gn,e]at q1;simp only[ay]at q1;subst q1;simp[fH]at q2
         ·cases hst1
        ·cases hst1
      have hlen1:st1.tm.length=n:=by rw[J3 hst1];simp[uz]
      have hlen2:st.tm.length=n:=by rw[J3 hst'];exact hlen1
      have hw:=aK.zk hD hx1;have hr:=retag (cx:=cx) (n0:=n0) hlen2 g3 hw (by rw[nY hx1];simp[mC]);have hok:st.ok=true:=by rw[k2,k1]
      rw[hok]at hr;rw[hlen];obtain⟨hn1,ρ1,S1,fC,hst2⟩:=((g2 hno).trans ((g4 g1).trans hr)) ρ S a w (by show n0<=Hi.length;omega) bM;exact wp_loop_rounds N (q2 ρ S Hi w ρ1 S1 a w hn1 fC hst2)
     ·cases hst
    ·cases h
   ·cases h
  ·cases h
end
def kJ:Code->List Code
 |.loop c=>[c]
 |.seq a b=>kJ a++kJ b
 |.cond _ a b=>kJ a++kJ b
 |.block _ c=>kJ c
 |_=>[]
def bq(c:Code)(i:Nat):Code:=(kJ c).getD i .skip
theorem wM{cx:Cx K}:∀(c:Code),(∀b∈kJ c,∀L,cx.loop (keyOf b)=some L->bF cx b L)->ju cx c
 |.loop c,h=>fun L hL=>h c (by simp[kJ]) L hL
 |.seq a b,h=>⟨wM a fun x hx=>h x (by simp[kJ,hx]),wM b fun x hx=>h x (by simp[kJ,hx])⟩
 |.cond _ a b,h=>⟨wM a fun x hx=>h x (by simp[kJ,hx]),wM b fun x hx=>h x (by simp[kJ,hx])⟩
 |.block _ c,h=>wM c h
 |.skip,_|.exit _,_|.ret,_|.region ..,_|.scope ..,_|.rangeFunc ..,_|.goto ..,_|.label ..,_|.refuse ..,_=>trivial
def J4(cx:Cx K)(c:Code):Prop:=∃L,cx.loop (keyOf c)=some L/\bF cx c L
theorem J4.mk{cx:Cx K}{c:Code}{L:bE K}(h:cx.loop (keyOf c)=some L)(ho:bF cx c L):J4 cx c:=⟨L,h,ho⟩
theorem bP{cx:Cx K}{c:Code}(n:Nat)(hn:(kJ c).length=n)(h:∀i,i<n->J4 cx (bq c i)):ju cx c:=
 wM c fun b hb L hL=>by
  obtain⟨i,hi,rfl⟩:=vY hb;obtain⟨L',h1,h2⟩:=h i (by omega);have e:bq c i=(kJ c)[i]:=by simp[bq,gn,cH hi]
  rw[e]at h1 h2;rw[h1]at hL;simp only[av]at hL;subst hL;exact h2
theorem aL{cx:Cx K}{c:Code}(hn:(kJ c).length=0):ju cx c:=bP 0 hn fun i hi=>absurd hi (Dw i)
theorem bQ{p:Nat->Prop}(h:p 0):∀i,i<1->p i:=fun i hi=>by
 have:i=0:=by omega
 subst this;exact h
theorem lt_succ{p:Nat->Prop}{n:Nat}(h:∀i,i<n->p i)(hn:p n):∀i,i<n+1->p i:=fun i hi=>by
 by_cases he:i=n
 ·subst he;exact hn
 ·exact h i (by omega)
def bI(fn:Func):Code:=match fn.body with
 |some c=>c
 |none=>.skip
theorem aO{cx:Cx K}{fn:Func}(h:ju cx (bI fn)):∀c,fn.body=some c->ju cx c:=fun c hc=>by
 have:bI fn=c:=by unfold bI;rw[hc]
 rw[<-this];exact h
theorem aA{α:Type _}{p:α->Prop}:∀c∈([]:List α),p c:=fun c h=>by simp at h
theorem af{α:Type _}{p:α->Prop}{a:α}{l:List α}(h:p a)(t:∀c∈l,p c):∀c∈a::l,p c:=fun c hc=>by
 rcases jm.1 hc with rfl|hc
 ·exact h
 ·exact t c hc
theorem bL{i:Nat}:Ex.exit i≠.normal:=fun h=>by cases h
theorem cO:Ex.ret≠.normal:=fun h=>by cases h
theorem nw{D:bH K}{P:Program}{c:aG K}(h:∀x,c.run x=none):c.Ok D P:=fun x r hr=>by rw[h]at hr;cases hr
theorem Qd:∃n:Nat,2^63<=n:=⟨2^63,fh _⟩
noncomputable def ad:Nat:=Classical.choose Qd
theorem bz:2^63<=ad:=Classical.choose_spec Qd
end Go.V
