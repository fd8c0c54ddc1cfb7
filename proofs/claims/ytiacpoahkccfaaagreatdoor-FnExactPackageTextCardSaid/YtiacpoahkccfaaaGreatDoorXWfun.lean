/-
  A FUNCTION, A LOOP, by a plain definition that they are shown to be equal to.
-/
import Derived.Test.YtiacpoahkccfaaaGreatDoorXWshape
set_option linter.unusedVariables false
namespace Go.V
open Go
variable {K :dh}{ρ ρ':List Value}{S S':Nat->Prop}{w w':World}{H H':List (Ob K)}
def nD(dp:K.U->Bool)(H:List (Ob K))(cs:List (List (Option K.U))):AV K->AV K×List (Ob K)
 |.bD l=>(.bD (fV dp H cs l).1,(fV dp H cs l).2)
 |v=>((fV dp H cs [v]).1.headD v,(fV dp H cs [v]).2)
def forgets:List Bool->List (AV K)->List (AV K)
 |[],vs=>vs
 |_::_,[]=>[]
 |true::r,_::vs=>.any::forgets r vs
 |false::r,v::vs=>v::forgets r vs
def D9:List Bool->AV K->AV K
 |[],v=>v
 |l,.bD vs=>.bD (forgets l vs)
 |true::_,_=>.any
 |false::_,v=>v
theorem JP{D:bF K}:∀(l:List Bool)(vs:List (AV K))(us:List Value),bc D ρ S w vs us->bc D ρ S w (forgets l vs) us
 |[],vs,us,h=>by simpa only[forgets]using h
 |_::_,[],us,h=>by simpa only[forgets]using h
 |b::r,v::vs,us,h=>by
  obtain⟨u,t,rfl,h1,h2⟩:=h.gB;cases b
  ·exact .cons h1 (JP r vs t h2)
  ·exact .cons (.any u) (JP r vs t h2)
theorem aey{D:bF K}(l:List Bool)(v:AV K)(u:Value)(h:Rep D ρ S w v u):Rep D ρ S w (D9 l v) u:=by
 unfold D9;split
 ·exact h
 ·cases h with
  |bD hl hh=>
   have:=JP l _ _ ⟨hl,hh⟩;exact .bD this.1 this.2
 ·exact .any _
 ·exact h
def JQ(cx:Cx K)(fz:Bool)(fn:Func)(n0:Nat){R:Type}(fin:AV K->List (Ob K)->Option R)(e:Ex)(st:St K):Option R:=
 match e with
 |.exit _=>none
 |_=>match resV cx fn st with
  |some v0=>let v:=D9 cx.Oy v0
   cond st.ok (cond fz (match DX cx.mv n0 (eE (ja st.H (hands v)) v) (ja st.H (hands v))with
    |some (v',H')=>fin v' H'
    |none=>none) (match DX cx.mv n0 (nD cx.deep st.H cx.iG v).1 (nD cx.deep st.H cx.iG v).2 with
    |some (v',H')=>fin v' H'
    |none=>none)) none
  |none=>none
def Ea(cx:Cx K)(fz:Bool)(fn:Func)(args:List (AV K))(H:List (Ob K)){R:Type}(fin:AV K->List (Ob K)->Option R):Option R:=
 match fn.body with
 |some c=>gw cx c ⟨args++List.replicate (fn.ntmps-args.length) .any,H,true⟩ (JQ cx fz fn H.length fin)
 |none=>none
structure PM (P:Program) (f:FuncId) (fn:Func):Prop where
 get:P.funcs[f]?=some fn
 name:(fn.name== "runtime.NumGoroutine")=false
theorem JR{D:bF K}(dp:K.U->Bool):∀(css:List (List (Option K.U)))(l:List (AV K))(H:List (Ob K))(ρ:List Value)(vs:List Value),aT D ρ S w H->bc D ρ S w l vs->xh D S w H ρ vs (fV dp H css l)
 |[],l,H,ρ,vs,hs,hr=>⟨ρ,by simpa [fV]using hs,by simpa [fV]using hr,by simpa [fV]using Step.refl,fun _ _ h=>h,by simp[fV],fun _ _ h=>by simpa [fV]using h⟩
 |cs::css,[],H,ρ,vs,hs,hr=>⟨ρ,by simpa [fV]using hs,by simpa [fV]using hr,by simpa [fV]using Step.refl,fun _ _ h=>h,by simp[fV],fun _ _ h=>by simpa [fV]using h⟩
 |cs::css,v::r,H,ρ,vs,hs,hr=>by
  obtain⟨u,t,rfl,h1,h2⟩:=hr.gB;have fin:∀(v':AV K)(p:List (AV K)×List (Ob K))(us:List Value),(∀ρ',bc D ρ' S w p.1 us->Rep D ρ' S w v' u)->xh D S w H ρ us p->xh D S w H ρ (u::t) (v'::(fV dp p.2 css r).1,(fV dp p.2 css r).2):=fun v' p us hv hp=>by
   obtain⟨ρ1,g1,g2,g3,g4,g5,g6⟩:=hp;obtain⟨ρ2,k1,k2,k3,k4,k5,k6⟩:=JR dp css r p.2 ρ1 t g1 (h2.mono (fun _ h=>h) (fun _ _=>rfl) g4);exact⟨ρ2,k1,.cons ((hv ρ1 g2).mono (fun _ h=>h) (fun _ _=>rfl) k4) k2,g3.trans (k3.weaken g5),fun h r hr=>k4 h r (g4 h r hr),mD g5 k5,fun h o ho=>k6 h o (g6 h o ho)⟩
  have one:∀v,Rep D ρ S w v u->fV dp H (cs::css) (v::r)=((thaw dp H cs [v]).1.headD v::(fV dp (thaw dp H cs [v]).2 css r).1,(fV dp (thaw dp H cs [v]).2 css r).2)->xh D S w H ρ (u::t) (fV dp H (cs::css) (v::r)):=fun v h1 e=>by
   rw[e];refine fin _ _ [u] (fun ρ' hr'=>?_) (uX dp cs [v] H ρ [u] hs (.cons h1 .nil));generalize hq:(thaw dp H cs [v]).1=q at hr';cases q with
   |nil=>have:=hr'.1;simp at this
   |cons x y=>exact hr'.head
  cases v with
  |agg l=>
   cases h1 with
   |agg hl hh=>
    have e:fV dp H (cs::css) (.agg l::r)=(.agg (thaw dp H cs l).1::(fV dp (thaw dp H cs l).2 css r).1,(fV dp (thaw dp H cs l).2 css r).2):=rfl;rw[e];exact fin _ _ _ (fun ρ' hr'=>.agg hr'.1 hr'.2) (uX dp cs l H ρ _ hs ⟨hl,hh⟩)
  |_=>exact one _ h1 rfl
theorem aez{D:bF K}(dp:K.U->Bool)(cs:List (List (Option K.U)))(v:AV K)(hs:aT D ρ S w H){u:Value}(hr:Rep D ρ S w v u):
 ∃ρ',aT D ρ' S w (nD dp H cs v).2/\Rep D ρ' S w (nD dp H cs v).1 u/\Step D H.length ρ S H w ρ' S (nD dp H cs v).2 w/\H.length<=(nD dp H cs v).2.length:=by
 have one:∀v,Rep D ρ S w v u->nD dp H cs v=((fV dp H cs [v]).1.headD v,(fV dp H cs [v]).2)->∃ρ',aT D ρ' S w (nD dp H cs v).2/\Rep D ρ' S w (nD dp H cs v).1 u/\Step D H.length ρ S H w ρ' S (nD dp H cs v).2 w/\H.length<=(nD dp H cs v).2.length:=fun v hr e=>by
  rw[e];obtain⟨ρ',g1,g2,g3,g4,g5,g6⟩:=JR dp cs [v] H ρ [u] hs (.cons hr .nil);refine⟨ρ',g1,?_,g3,g5⟩;generalize hq:(fV dp H cs [v]).1=q at g2;cases q with
  |nil=>have:=g2.1;simp at this
  |cons x y=>exact g2.head
 cases v with
 |bD l=>
  cases hr with
  |bD hl hh=>
   obtain⟨ρ',g1,g2,g3,g4,g5,g6⟩:=JR dp cs l H ρ _ hs ⟨hl,hh⟩;exact⟨ρ',g1,.bD g2.1 g2.2,g3,g5⟩
 |_=>exact one _ hr rfl
theorem aeA{cx:Cx K}(hD:bQ cx.D){fz:Bool}{fn:Func}{n0:Nat}{R:Type}{fin:AV K->List (Ob K)->Option R}{e:Ex}{st:St K}{r:R}(h:JQ cx fz fn n0 fin e st=some r):
 st.ok=true/\(∀i,e≠.exit i)/\∃v v' H',resV cx fn st=some v/\fin v' H'=some r/\∀ρ S w,n0<=st.H.length->aT cx.D ρ S w st.H->∀u,Rep cx.D ρ S w v u->∃ρ' S',aT cx.D ρ' S' w H'/\Rep cx.D ρ' S' w v' u/\Step cx.D n0 ρ S st.H w ρ' S' H' w:=by
 have key:∀(v0:AV K)(H0:List (Ob K)) v' H',DX cx.mv n0 v0 H0=some (v',H')->∀ρ S w,n0<=H0.length->aT cx.D ρ S w H0->∀u,Rep cx.D ρ S w v0 u->∃ρ',aT cx.D ρ' S w H'/\Rep cx.D ρ' S w v' u/\Step cx.D n0 ρ S H0 w ρ' S H' w:=fun v0 H0 v' H' hp ρ S w hn hs u hr=>by
  unfold DX Jh at hp;split at hp
  ·rename_i hk;simp only[cC,cz]at hk;split at hp
   ·rename_i v'' H1 hv' hH';simp only[ay,aR]at hp;obtain⟨rfl,rfl⟩:=hp;obtain⟨s1,s2,s3,s4⟩:=PN hD hs hn hk.1 hk.2 hH';exact⟨_,s1,rD hD s3 _ _ u hv' hr,s2⟩
   ·cases hp
  ·cases hp
 unfold JQ at h;split at h
 ·cases h
 ·rename_i hne;split at h
  ·rename_i v0 hv0;dsimp only at h;generalize hv:D9 cx.Oy v0=v at h;have PO:∀{ρ S w}{u:Value},Rep cx.D ρ S w v0 u->Rep cx.D ρ S w v u:=fun hr=>by rw[<-hv];exact aey _ _ _ hr
   cases hok:st.ok with
   |false=>rw[hok]at h;cases h
   |true=>
    rw[hok]at h;simp only[ae]at h;refine⟨rfl,hne,?_⟩;cases fz with
    |false=>
     simp only[aj]at h;split at h
     ·rename_i v' H' hp;exact⟨v0,v',H',hv0,h,fun ρ S w hn hs u hr0=>by
       have hr:=PO hr0;obtain⟨ρ1,t1,t2,t3,t4⟩:=aez cx.deep cx.iG v hs hr;obtain⟨ρ',a,b,c⟩:=key _ _ _ _ hp ρ1 S w (mD hn t4) t1 u t2;exact⟨ρ',S,a,b,(t3.weaken hn).trans c⟩⟩
     ·cases h
    |true=>
     simp only[ae]at h;split at h
     ·rename_i v' H' hp;exact⟨v0,v',H',hv0,h,fun ρ S w hn hs u hr0=>by
       have hr:=PO hr0;obtain⟨S1,g1,g2,g3⟩:=Dh (n0:=n0) (hands v) hs;obtain⟨ρ',a,b,c⟩:=key _ _ _ _ hp ρ S1 w (by omega) g1 u (ow g1 _ _ (hr.mono g2.s1 (fun _ _=>rfl) (fun _ _ h=>h)));exact⟨ρ',S1,a,b,g2.trans c⟩⟩
     ·cases h
  ·cases h
theorem aeB{cx:Cx K}(hD:bQ cx.D)(hc:aV cx)(hm:cx.P.follows .mixedOrders=true){fz:Bool}{f:FuncId}{fn:Func}(hf:PM cx.P f fn)(hl:∀c,fn.body=some c->jx cx c)
 {args:List (AV K)} {R:Type} {fin:AV K->List (Ob K)->Option R} {r:R} (h:Ea cx fz fn args H fin=some r):∃v H',fin v H'=some r/\RC cx.D cx.P f args H v H':=by
 unfold Ea at h;split at h
 ·rename_i c hb;obtain⟨e,st,h1,-,h3⟩:=oL hD hc hm c (hl c hb) _ _ _ h;obtain⟨hok,hne,v,v',H',hv,hr,hfin⟩:=aeA hD h1;refine⟨v',H',hr,⟨fn,hf.get,hf.name,by rw[hb];rfl⟩,fun ρ S w vals hs ha=>?_⟩;have h0:dG (args++List.replicate (fn.ntmps-args.length) (AV.any:AV K)):=fun t g b y e=>by
   rcases cP t args.length with hlt|hge
   ·rw[cT hlt]at e;obtain⟨x,-,hx⟩:=ha.get e;cases hx
   ·rw[cM hge,acN]at e;split at e<;>cases e
  obtain⟨n1,htr⟩:=h3 hok h0;refine calls_of_wp hf.get hb ?_;have bI:Sat cx ρ S {tmps:=vals.toArray++Array.replicate (fn.ntmps-vals.toArray.size) undef,defers:=[]} w ⟨args++List.replicate (fn.ntmps-args.length) .any,H,true⟩:=⟨hs,⟨by simp[ha.1],fun t v x h1 h2=>.jZ (by
   rcases cP t args.length with hlt|hge
   ·rw[cT hlt]at h1;rw[Array.getElem?_append_left (by simpa [<-ha.1]using hlt)]at h2;exact ha.2 t v x h1 (by simpa using h2)
   ·rw[cM hge,acN]at h1;split at h1
    ·simp at h1;subst h1;exact .any x
    ·cases h1)⟩,rfl⟩
  refine wp_mono (htr H.length ρ S _ w (cw _) bI) ?_
  rintro e' a' w' ⟨rfl,hn,ρ1,S1,fH,hst1⟩
  obtain⟨u,hu,hr1⟩:=aeC hD n1 fH hv;have PQ:∃u' ρ' S',Ending.returned u=.returned u'/\aT cx.D ρ' S' w' H'/\Rep cx.D ρ' S' w' v' u'/\Step cx.D H.length ρ S H w ρ' S' H' w':=by
   obtain⟨ρ2,S2,q1,q2,q3⟩:=hfin ρ1 S1 w' hn fH.heap u hr1;exact⟨u,ρ2,S2,rfl,q1,q2,hst1.trans q3⟩
  cases e with
  |exit i=>exact absurd rfl (hne i)
  |normal=>exact⟨fH.defers,u,hu,PQ⟩
  |ret=>exact⟨fH.defers,u,hu,PQ⟩
 ·cases h
structure aI (K:dh) where
 f:FuncId
 sh:aL K
 R:Type
 run:sh.T->Option R
 dflt:R
 out:R->AV K×List (Ob K)
def aI.Ok(D:bF K)(P:Program)(c:aI K):Prop:=∀x r,c.run x=some r->RC D P c.f (c.sh.ma D x) (c.sh.mJ D x) (c.out r).1 (c.out r).2
def callOf(D:bF K):List (aI K)->FuncId->List (AV K)->List (Ob K)->Option (AV K×List (Ob K)×Bool)
 |[],_,_,_=>none
 |c::l,f,args,H=>cond (Nat.beq c.f f) (match c.sh.dec D args H with
  |some x=>some ((c.out ((c.run x).getD c.dflt)).1,(c.out ((c.run x).getD c.dflt)).2,(c.run x).isSome)
  |none=>callOf D l f args H) (callOf D l f args H)
theorem RC.weak{D:bF K}{P:Program}{f:FuncId}{args args':List (AV K)}{r:AV K}{Ho:List (Ob K)}(hw:Wk D args H args' H')(h:RC D P f args' H' r Ho):RC D P f args H r Ho:=by
 refine⟨h.1,fun ρ S w vals hs ha=>(h.2 ρ S w vals (hw.heap _ _ _ hs) (hw.JS _ _ _ _ ha)).mono ?_⟩
 rintro e w' ⟨u,ρ',S',rfl,h1,h2,h3⟩
 rw[hw.len]at h3;exact⟨u,ρ',S',rfl,h1,h2,hw.step.trans h3⟩
theorem PS{D:bF K}(hD:bQ D){P:Program}:∀(l:List (aI K)),(∀c∈l,c.Ok D P)->∀f args H r H',callOf D l f args H=some (r,H',true)->RC D P f args H r H'
 |[],_,f,args,H,r,H',h=>by simp[callOf]at h
 |c::l,hl,f,args,H,r,H',h=>by
  have ih:=PS hD l (fun c hc=>hl c (by simp[hc])) f args H r H';unfold callOf at h;cases hb:Nat.beq c.f f with
  |false=>rw[hb]at h;exact ih h
  |true=>
   rw[hb]at h;have hf:c.f=f:=rQ hb;simp only[ae]at h;split at h
   ·rename_i x hx;simp only[ay,aR]at h;obtain⟨h1,h2,h3⟩:=h;obtain⟨y,hy⟩:=Option.isSome_iff_exists.1 h3;rw[hy]at h1 h2;simp only[aw]at h1 h2;have:=hl c (by simp) x y hy;rw[h1,h2,hf]at this;exact this.weak (aL.zL hD hx)
   ·exact ih h
theorem aZ{cx:Cx K}(hD:bQ cx.D)(l:List (aI K))(hl:∀c∈l,c.Ok cx.D cx.P)(he:cx.call=callOf cx.D l:=by exact rfl)(ha:cx.alt=fun _ _ _ _=>none:=by exact rfl)(ho:(fun(R:Type)=>cx.y6 (R:=R))=fun(R:Type)(a b:Option R)=>I0 a b:=by exact rfl):aV cx:=by
 refine⟨fun f args H r H' h=>?_,fun b f args H r H' h=>?_,fun R a b r h=>?_⟩
 ·rw[he]at h;exact PS hD l hl f args H r H' h
 ·rw[ha]at h;cases h
 ·have:=congrFun ho R;rw[this]at h;exact adR h
def aI.frz(D:bF K)(c:aI K):aI K:={c with out:=fun r=>(jq D (c.out r).2 (c.out r).1,[])}
structure zM (K:dh) (D:bF K) (R:Type) where
 sh:aL K
 conv:sh.T->R
def zM.fin{D:bF K}{R:Type}(d:zM K D R)(v:AV K)(H:List (Ob K)):Option R:=match d.sh.dec D [v] H with
 |some x=>some (d.conv x)
 |none=>none
theorem f9{cx:Cx K}(hD:bQ cx.D)(hc:aV cx)(hm:cx.P.follows .mixedOrders=true){c:aI K}{fz:Bool}{fn:Func}(hf:PM cx.P c.f fn)(hl:∀b,fn.body=some b->jx cx b)
 (d:zM K cx.D c.R) (ho:∀x,([(c.out (d.conv x)).1],(c.out (d.conv x)).2)=(d.sh.ma cx.D x,d.sh.mJ cx.D x)) (he:∀x,Ea cx fz fn (c.sh.ma cx.D x) (c.sh.mJ cx.D x) d.fin=c.run x):c.Ok cx.D cx.P:=by
 intro x r hr;rw[<-he x]at hr;obtain⟨v,H',h1,h2⟩:=aeB hD hc hm hf hl hr;unfold zM.fin at h1;split at h1
 ·rename_i y hy;simp only[ay]at h1;have hw:=aL.zL hD hy;have:=ho y;simp only[aR]at this;rw[<-this.1,<-this.2]at hw;rw[h1]at hw;refine⟨h2.1,fun ρ S w vals hs ha=>(h2.2 ρ S w vals hs ha).mono ?_⟩
  rintro e w' ⟨u,ρ',S',rfl,g1,g2,g3⟩
  have:=(hw.JS _ _ _ [u] (.cons g2 .nil)).head;exact⟨u,ρ',S',rfl,hw.heap _ _ _ g1,this,g3.trans hw.step⟩
 ·cases h1
def JU(kp:Bool):Nat->List (Ob K)->List (Option Nat)×List (Option Nat)
 |_,[]=>([],[])
 |i,o::r=>match JU kp (i+1) r with
  |(a,b)=>match o with
   |.arr ..=>cond kp (some i::a,b) (none::a,some i::b)
   |.tree ..=>cond kp (some i::a,b) (none::a,some i::b)
   |_=>(some i::a,b)
def PT(kp:Bool)(n n0:Nat)(ins:List Nat)(vals:List (AV K))(Hi:List (Ob K)):Option (St K):=
 match qq n0 ((JU kp 0 Hi).1++(JU kp 0 Hi).2) ins ⟨eG (List.replicate n .any) ins vals,Hi,true⟩with
 |some st=>uQ n0 ins st
 |none=>none
def mK(st:St K)(ts:List Nat):List (AV K):=ts.map fun t=>st.tm.getD t .any
def bM(D:bF K)(kp:Bool)(n n0:Nat)(ins outs:List Nat)(sh:aL K){Y:Type}(run:sh.T->Option Y)(out:Y->{R:Type}->(Ex->List (AV K)->List (Ob K)->R)->R):bG K:={
 n:=n
 ins:=ins
 outs:=outs
 run vals Hi k:=cond (Nat.beq Hi.length n0) (match PT kp n n0 ins vals Hi with
  |some st=>match sh.dec D (mK st ins) st.H with
   |some x=>match run x with
    |some y=>out y k
    |none=>none
   |none=>none
  |none=>none) none}
def PU(cx:Cx K)(n n0:Nat)(ins outs:List Nat)(sh:aL K){Y:Type}(next:sh.T->Option Y)(fin:Ex->List (AV K)->List (Ob K)->Option Y)(e:Ex)(s:St K):Option Y:=
 cond s.ok (cond (Nat.beq s.tm.length n) (match e with
  |.normal=>match rW cx s with
    |some (b,s1)=>cond b (match uQ n0 ins s1 with
     |some s'=>match sh.dec cx.D (mK s' ins) s'.H with
      |some x=>next x
      |none=>none
     |none=>none) none
    |none=>none
  |e=>match rW cx s with
   |some (b,s1)=>cond b (match uQ n0 outs s1 with
    |some s'=>fin e (mK s' outs) s'.H
    |none=>none) none
   |none=>none) none) none
def xi(D:bF K)(n:Nat)(ins:List Nat)(sh:aL K)(x:sh.T):St K:=⟨eG (List.replicate n .any) ins (sh.ma D x),sh.mJ D x,true⟩
structure cH (K:dh) (Y:Type) where
 e:Ex
 sh:aL K
 conv:sh.T->Y
def Ex.same:Ex->Ex->Bool
 |.normal,.normal=>true
 |.exit a,.exit b=>Nat.beq a b
 |.ret,.ret=>true
 |_,_=>false
theorem Ex.same_eq{a b:Ex}(h:Ex.same a b=true):a=b:=by
 cases a<;>cases b<;>simp only[Ex.same]at h<;>first|rfl|cases h|(rw[rQ h])
def zN(D:bF K){Y:Type}:List (cH K Y)->Ex->List (AV K)->List (Ob K)->Option Y
 |[],_,_,_=>none
 |d::l,e,vs,H=>cond (Ex.same d.e e) (match d.sh.dec D vs H with
  |some x=>some (d.conv x)
  |none=>none) (zN D l e vs H)
theorem PV{D:bF K}:∀(l:List (Sh K))(vs:List (AV K))(x:Sh.Ts l),Sh.eg D l vs=some x->vs.length=l.length
 |[],vs,x,h=>by
   cases vs with
   |nil=>rfl
   |cons v r=>unfold Sh.eg at h;cases h
 |s::r,vs,x,h=>by
  cases vs with
  |nil=>unfold Sh.eg at h;cases h
  |cons v l=>
   unfold Sh.eg at h;split at h
   ·rename_i a b h1 h2;simp only[aU];rw[PV r l b h2]
   ·cases h
theorem IH{D:bF K}:∀(l:List (Sh K))(x:Sh.Ts l),(Sh.encs D l x).length=l.length
 |[],x=>rfl
 |s::r,x=>by simp only[Sh.encs,aU];rw[IH r]
theorem oj{D:bF K}{sh:aL K}{vs:List (AV K)}{x:sh.T}(h:sh.dec D vs H=some x):(sh.ma D x).length=vs.length:=by
 unfold aL.dec at h;split at h
 ·rename_i a b h1 h2;unfold aL.ma;rw[IH,PV _ _ _ h1]
 ·cases h
theorem JV{D:bF K}(hD:bQ D){Y:Type}{out:Y->{R:Type}->(Ex->List (AV K)->List (Ob K)->R)->R}:∀(l:List (cH K Y)),(∀d∈l,d.e≠.normal/\∀x (R:Type) (k:Ex->List (AV K)->List (Ob K)->R),out (d.conv x) k=k d.e (d.sh.ma D x) (d.sh.mJ D x))->
 ∀e vs H y,zN D l e vs H=some y->e≠.normal/\∃vs' H',(∀(R:Type)(k:Ex->List (AV K)->List (Ob K)->R),out y k=k e vs' H')/\Wk D vs H vs' H'/\vs'.length=vs.length
 |[],_,e,vs,H,y,h=>by simp[zN]at h
 |d::l,hl,e,vs,H,y,h=>by
  unfold zN at h;cases hs:Ex.same d.e e with
  |false=>rw[hs]at h;exact JV hD l (fun d hd=>hl d (by simp[hd])) e vs H y h
  |true=>
   rw[hs]at h;have he:=Ex.same_eq hs;simp only[ae]at h;split at h
   ·rename_i x hx;simp only[ay]at h;subst h;obtain⟨h1,h2⟩:=hl d (by simp);rw[he]at h1 h2;exact⟨h1,_,_,fun R k=>h2 x R k,aL.zL hD hx,oj hx⟩
   ·cases h
theorem retag{cx:Cx K}{n0:Nat}{st:St K}{ts:List Nat}{n:Nat}(hn:st.tm.length=n)(h0:dG st.tm){vs':List (AV K)}(hw:Wk cx.D (mK st ts) st.H vs' H')(hlen:vs'.length=ts.length):
 Goes cx n0 st ⟨eG (List.replicate n .any) ts vs',H',st.ok⟩:=by
 intro ρ S a w hn0 bI;refine⟨by show n0<=H'.length;rw[hw.len];exact hn0,ρ,S,⟨hw.heap _ _ _ bI.heap,?_,bI.defers⟩,hw.step⟩;have hsz:a.tmps.size=n:=by rw[<-hn];exact bI.slots.len.symm
 have hrep:∀t,Rep cx.D ρ S w (st.tm.getD t .any) (a.tmps.getD t undef):=fun t=>by
  rw[fh,ib];cases hg:st.tm[t]? with
  |none=>exact .any _
  |some v=>
   obtain⟨x,hx,-⟩:=bI.slots.get hg;rw[hx];exact bI.slots.rep h0 hg hx
 have hus:bc cx.D ρ S w (mK st ts) (ts.map fun t=>a.tmps.getD t undef):=⟨by simp[mK],fun i v x h1 h2=>by
  simp only[mK,fU,fu]at h1 h2;obtain⟨t,e1,rfl⟩:=h1;obtain⟨t',e2,rfl⟩:=h2;rw[e1]at e2;simp at e2;subst e2;exact hrep t⟩
 have aeD:=hw.JS _ _ _ _ hus;refine JD hsz fun i t v x h1 h2 h3=>aeD.2 i v x h2 ?_
 simp only[fU,h1,lx];rw[ib,h3];rfl
theorem PW{D:bF K}:∀(l:List (Sh K))(x:Sh.Ts l)(i:Nat)(v:AV K),(Sh.encs D l x)[i]?=some v->v.jt=false
 |[],x,i,v,h=>by simp[Sh.encs]at h
 |s::r,x,i,v,h=>by
  cases i with
  |zero=>
   simp only[Sh.encs,List.getElem?_cons_zero,ay]at h;subst h;cases s<;>simp only[Sh.enc]<;>rfl
  |succ i=>exact PW r x.2 i v (by simpa [Sh.encs]using h)
theorem aeE{n:Nat}{ds:List Nat}{l:List (AV K)}(h:∀(i:Nat) v,l[i]?=some v->v.jt=false):dG (eG (List.replicate n .any) ds l):=fun t g b v e=>by
 rcases xf ds l _ t _ e with h1|⟨i,-,h2⟩
 ·rw[acN]at h1;split at h1<;>cases h1
 ·have:=h i _ h2;simp[AV.jt]at this
theorem JW{n0:Nat}{src:List (Option Nat)}{keep:List Nat}{st st':St K}(h:qq n0 src keep st=some st'):st'.tm.length=st.tm.length:=by
 unfold qq at h;split at h
 ·split at h
  ·simp only[ay]at h;subst h;simp[uT]
  ·cases h
 ·cases h
theorem Tr.goes{cx:Cx K}{n0:Nat}{c:Code}{st st1 st2:St K}{e:Ex}(h:Tr cx n0 c st e st1)(g:Goes cx n0 st1 st2):Tr cx n0 c st e st2:=fun ρ S a w hn bI=>by
 refine wp_mono (h ρ S a w hn bI) ?_
 rintro e' a' w' ⟨he,hn1,ρ1,S1,fH,hst1⟩
 obtain⟨hn2,ρ2,S2,zF,hst2⟩:=g ρ1 S1 a' w' hn1 fH;exact⟨he,hn2,ρ2,S2,zF,hst1.trans hst2⟩
section
variable {cx :Cx K}(hD:bQ cx.D)(hc:aV cx)(hm:cx.P.follows .mixedOrders=true){c:Code}(hl:jx cx c){n n0:Nat}{ins outs:List Nat}{sh:aL K}{Y:Type}{run:Nat->sh.T->Option Y}
 {bK:List (cH K Y)} {out:Y->{R:Type}->(Ex->List (AV K)->List (Ob K)->R)->R}
 (h0:∀x,run 0 x=none) (hs:∀m x,gw cx c (xi cx.D n ins sh x) (PU cx n n0 ins outs sh (run m) (zN cx.D bK))=run (m+1) x)
 (hx:∀d∈bK,d.e≠.normal/\∀x (R:Type) (k:Ex->List (AV K)->List (Ob K)->R),out (d.conv x) k=k d.e (d.sh.ma cx.D x) (d.sh.mJ cx.D x))
include hD hc hm hl h0 hs hx
theorem PX{y:Y}:∀(m:Nat)(x:sh.T),run m x=some y->∃e vs Ho,(∀(R:Type)(k:Ex->List (AV K)->List (Ob K)->R),out y k=k e vs Ho)/\
 ∀(ρ0:List Value)(S0:Nat->Prop)(H0:List (Ob K))(w0:World)(ρ:List Value)(S:Nat->Prop)(a:Act)(w:World),n0<=(xi cx.D n ins sh x).H.length->Sat cx ρ S a w (xi cx.D n ins sh x)->Step cx.D n0 ρ0 S0 H0 w0 ρ S (xi cx.D n ins sh x).H w->
  Code.rounds cx.P c (fun e' a' w'=>e'=e.nw/\n0<=Ho.length/\∃ρ' S',Sat cx ρ' S' a' w' ⟨eG (List.replicate n .any) outs vs,Ho,true⟩/\Step cx.D n0 ρ0 S0 H0 w0 ρ' S' Ho w') m a w
 |0,x,h=>by rw[h0]at h;cases h
 |m+1,x,h=>by
  rw[<-hs m x]at h;obtain⟨e,s,h1,h2,h3⟩:=oL hD hc hm c hl _ _ _ h;unfold PU at h1;have hno:dG (xi cx.D n ins sh x).tm:=aeE (PW _ _);cases hok:s.ok with
  |false=>rw[hok]at h1;cases h1
  |true=>
   rw[hok]at h1;simp only[ae]at h1;obtain⟨n1,htr⟩:=h3 hok hno;cases hlen:Nat.beq s.tm.length n with
   |false=>rw[hlen]at h1;cases h1
   |true=>
   rw[hlen]at h1;simp only[ae]at h1;have hsn:s.tm.length=n:=rQ hlen;have key:∀keep s1 s' vs' oM,rW cx s=some (true,s1)->uQ n0 keep s1=some s'->Wk cx.D (mK s' keep) s'.H vs' oM->vs'.length=keep.length->Tr cx n0 c (xi cx.D n ins sh x) e ⟨eG (List.replicate n .any) keep vs',oM,true⟩:=fun keep s1 s' vs' oM hcl hn hw hvl=>by
    have hr:qq n0 ((reach s1.H 64 (List.range n0++bT (keep.map fun t=>s1.tm.getD t .any)) []).map some) keep s1=some s':=hn;obtain⟨hk1,g1,g2⟩:=Eb (cx:=cx) hD hr;obtain⟨c1,c2,c3,c4⟩:=PY hD hcl;have gc:Goes cx n0 s s1:=fun ρ S a w hn bI=>by
     obtain⟨q1,q2⟩:=c4 n0 ρ S a w bI;exact⟨by rw[c3];exact hn,ρ,S,q1,q2⟩
    have hl2:s1.tm.length=n:=by rw[c1];exact hsn
    have hn2:dG s1.tm:=by rw[c1];exact n1
    have:=(htr n0).goes (gc.trans ((g2 hn2).trans (retag ((JW hr).trans hl2) g1 hw hvl)));rw[hk1,c2,hok]at this;exact this
   cases e with
   |normal=>
    dsimp only at h1;split at h1
    ·rename_i b s1 hcl;cases b with
     |false=>cases h1
     |true=>
     simp only[ae]at h1;split at h1
     ·rename_i s' hn;split at h1
      ·rename_i x' hx';obtain⟨e2,vs,Ho,q1,q2⟩:=PX m x' h1;refine⟨e2,vs,Ho,q1,fun ρ0 S0 H0 w0 ρ S a w hn0 bI hst=>?_⟩;rw[rounds_succ];refine wp_mono (key ins s1 s' _ _ hcl hn (aL.zL hD hx') (by rw[oj hx'];simp[mK]) ρ S a w hn0 bI) ?_
       rintro e' a' w' ⟨rfl,hn1,ρ1,S1,fH,hst1⟩
       exact q2 ρ0 S0 H0 w0 ρ1 S1 a' w' hn1 fH (hst.trans hst1)
      ·cases h1
     ·cases h1
    ·cases h1
   |exit id=>
    dsimp only at h1;split at h1
    ·rename_i b s1 hcl;cases b with
     |false=>cases h1
     |true=>
     simp only[ae]at h1;split at h1
     ·rename_i s' hn;obtain⟨g1,vs',oM,g2,g3,g4⟩:=JV hD bK hx _ _ _ _ h1;refine⟨.exit id,vs',oM,g2,fun ρ0 S0 H0 w0 ρ S a w hn0 bI hst=>?_⟩;rw[rounds_succ];refine wp_mono (key outs s1 s' _ _ hcl hn g3 (by rw[g4];simp[mK]) ρ S a w hn0 bI) ?_
      rintro e' a' w' ⟨rfl,hn1,ρ1,S1,fH,hst1⟩
      exact⟨rfl,hn1,ρ1,S1,fH,hst.trans hst1⟩
     ·cases h1
    ·cases h1
   |ret=>
    dsimp only at h1;split at h1
    ·rename_i b s1 hcl;cases b with
     |false=>cases h1
     |true=>
     simp only[ae]at h1;split at h1
     ·rename_i s' hn;obtain⟨g1,vs',oM,g2,g3,g4⟩:=JV hD bK hx _ _ _ _ h1;refine⟨.ret,vs',oM,g2,fun ρ0 S0 H0 w0 ρ S a w hn0 bI hst=>?_⟩;rw[rounds_succ];refine wp_mono (key outs s1 s' _ _ hcl hn g3 (by rw[g4];simp[mK]) ρ S a w hn0 bI) ?_
      rintro e' a' w' ⟨rfl,hn1,ρ1,S1,fH,hst1⟩
      exact⟨rfl,hn1,ρ1,S1,fH,hst.trans hst1⟩
     ·cases h1
    ·cases h1
theorem bN(kp:Bool)(N:Nat):bH cx c (bM cx.D kp n n0 ins outs sh (run N) out):=by
 intro vals Hi R k r h;simp only[bM]at h;cases hb:Nat.beq Hi.length n0 with
 |false=>rw[hb]at h;cases h
 |true=>
  rw[hb]at h;have hlen:Hi.length=n0:=rQ hb;simp only[ae]at h;split at h
  ·rename_i st hst;split at h
   ·rename_i x hx1;split at h
    ·rename_i y hy;obtain⟨e,vs,Ho,q1,q2⟩:=PX hD hc hm hl h0 hs hx N x hy;rw[q1]at h;refine⟨e,vs,Ho,h,?_⟩;unfold PT at hst;split at hst
     ·rename_i st1 hst1;have hst':qq n0 ((reach st1.H 64 (List.range n0++bT (ins.map fun t=>st1.tm.getD t .any)) []).map some) ins st1=some st:=hst;obtain⟨k1,g1,g2⟩:=Eb (cx:=cx) hD hst1;obtain⟨k2,g3,g4⟩:=Eb (cx:=cx) hD hst';intro ρ S a w hn0 bI;have hno:dG (eG (List.replicate n (AV.any:AV K)) ins vals):=fun t g b v e=>by
       rcases xf ins vals _ t _ e with h1|⟨i,h1,-⟩
       ·rw[acN]at h1;split at h1<;>cases h1
       ·unfold qq at hst1;split at hst1
        ·split at hst1
         ·rename_i ws H1 hv hm1;obtain⟨gl,gg⟩:=uU _ _ hv;have hi:i<ws.length:=by rw[gl];simp;exact(bg.1 h1).1
          obtain⟨v0,q1,q2⟩:=gg i _ (bB hi);simp only[fU,h1,lx,ay]at q1;rw[fh,e]at q1;simp only[aw]at q1;subst q1;simp[fP]at q2
         ·cases hst1
        ·cases hst1
      have hlen1:st1.tm.length=n:=by rw[JW hst1];simp[uT]
      have hlen2:st.tm.length=n:=by rw[JW hst'];exact hlen1
      have hw:=aL.zL hD hx1;have hr:=retag (cx:=cx) (n0:=n0) hlen2 g3 hw (by rw[oj hx1];simp[mK]);have hok:st.ok=true:=by rw[k2,k1]
      rw[hok]at hr;rw[hlen];obtain⟨hn1,ρ1,S1,fH,hst2⟩:=((g2 hno).trans ((g4 g1).trans hr)) ρ S a w (by show n0<=Hi.length;omega) bI;exact wp_loop_rounds N (q2 ρ S Hi w ρ1 S1 a w hn1 fH hst2)
     ·cases hst
    ·cases h
   ·cases h
  ·cases h
end
def kN:Code->List Code
 |.loop c=>[c]
 |.seq a b=>kN a++kN b
 |.cond _ a b=>kN a++kN b
 |.block _ c=>kN c
 |_=>[]
def bC(c:Code)(i:Nat):Code:=(kN c).getD i .skip
theorem xj{cx:Cx K}:∀(c:Code),(∀b∈kN c,∀L,cx.loop (keyOf b)=some L->bH cx b L)->jx cx c
 |.loop c,h=>fun L hL=>h c (by simp[kN]) L hL
 |.seq a b,h=>⟨xj a fun x hx=>h x (by simp[kN,hx]),xj b fun x hx=>h x (by simp[kN,hx])⟩
 |.cond _ a b,h=>⟨xj a fun x hx=>h x (by simp[kN,hx]),xj b fun x hx=>h x (by simp[kN,hx])⟩
 |.block _ c,h=>xj c h
 |.skip,_|.exit _,_|.ret,_|.region ..,_|.scope ..,_|.rangeFunc ..,_|.goto ..,_|.label ..,_|.refuse ..,_=>trivial
def JX(cx:Cx K)(c:Code):Prop:=∃L,cx.loop (keyOf c)=some L/\bH cx c L
theorem JX.mk{cx:Cx K}{c:Code}{L:bG K}(h:cx.loop (keyOf c)=some L)(ho:bH cx c L):JX cx c:=⟨L,h,ho⟩
theorem bU{cx:Cx K}{c:Code}(n:Nat)(hn:(kN c).length=n)(h:∀i,i<n->JX cx (bC c i)):jx cx c:=
 xj c fun b hb L hL=>by
  obtain⟨i,hi,rfl⟩:=oy hb;obtain⟨L',h1,h2⟩:=h i (by omega);have e:bC c i=(kN c)[i]:=by simp[bC,fh,bB hi]
  rw[e]at h1 h2;rw[h1]at hL;simp only[ay]at hL;subst hL;exact h2
theorem aN{cx:Cx K}{c:Code}(hn:(kN c).length=0):jx cx c:=bU 0 hn fun i hi=>absurd hi (wz i)
theorem bY{p:Nat->Prop}(h:p 0):∀i,i<1->p i:=fun i hi=>by
 have:i=0:=by omega
 subst this;exact h
theorem lt_succ{p:Nat->Prop}{n:Nat}(h:∀i,i<n->p i)(hn:p n):∀i,i<n+1->p i:=fun i hi=>by
 by_cases he:i=n
 ·subst he;exact hn
 ·exact h i (by omega)
def bL(fn:Func):Code:=match fn.body with
 |some c=>c
 |none=>.skip
theorem aS{cx:Cx K}{fn:Func}(h:jx cx (bL fn)):∀c,fn.body=some c->jx cx c:=fun c hc=>by
 have:bL fn=c:=by unfold bL;rw[hc]
 rw[<-this];exact h
theorem acW{α:Type _}{p:α->Prop}:∀c∈([]:List α),p c:=fun c h=>by simp at h
theorem af{α:Type _}{p:α->Prop}{a:α}{l:List α}(h:p a)(t:∀c∈l,p c):∀c∈a::l,p c:=fun c hc=>by
 rcases fF.1 hc with rfl|hc
 ·exact h
 ·exact t c hc
theorem bP{i:Nat}:Ex.exit i≠.normal:=fun h=>by cases h
theorem df:Ex.ret≠.normal:=fun h=>by cases h
theorem nE{D:bF K}{P:Program}{c:aI K}(h:∀x,c.run x=none):c.Ok D P:=fun x r hr=>by rw[h]at hr;cases hr
theorem PZ:∃n:Nat,2^63<=n:=⟨2^63,cw _⟩
noncomputable def ad:Nat:=Classical.choose PZ
theorem bA:2^63<=ad:=Classical.choose_spec PZ
end Go.V
