/-
  A FUNCTION, A LOOP, by a plain definition that they are shown to be equal to.
-/
import Derived.Test.YtcnhfiflhplokaaGreatDoorXWshape
set_option linter.unusedVariables false
namespace Go.V
open Go
variable {K :yG} {ρ ρ':List Value} {S S':Nat->Prop} {w w':World} {H H':List (Ob K)}
def JV (dp:K.U->Bool) (H:List (Ob K)) (cs:List (List (Option K.U))):AV K->AV K×List (Ob K)
 | .mJ l=>(.mJ (nX dp H cs l).1,(nX dp H cs l).2)
 |v=>((nX dp H cs [v]).1.headD v,(nX dp H cs [v]).2)
def forgets : List Bool->List (AV K)->List (AV K)
 | [],vs=>vs
 |_::_,[]=>[]
 |true::r,_::vs=> .any::forgets r vs
 |false::r,v::vs=>v::forgets r vs
def Us : List Bool->AV K->AV K
 | [],v=>v
 |l, .mJ vs=> .mJ (forgets l vs)
 |true::_,_=> .any
 |false::_,v=>v
theorem Ee {D:jl K}:∀(l:List Bool) (vs:List (AV K)) (us:List Value),bW D ρ S w vs us->bW D ρ S w (forgets l vs) us
 | [],vs,us,h=>by simpa only[forgets] using h
 |_::_,[],us,h=>by simpa only[forgets] using h
 |b::r,v::vs,us,h=>by
  obtain ⟨u,t,rfl,h1,h2⟩:=h.qh
  cases b
  ·exact .cons h1 (Ee r vs t h2)
  ·exact .cons (.any u) (Ee r vs t h2)
theorem X4 {D:jl K} (l:List Bool) (v:AV K) (u:Value) (h:Rep D ρ S w v u):Rep D ρ S w (Us l v) u:=by
 unfold Us;split
 ·exact h
 ·cases h with
  |mJ hl hh=>
   have:=Ee l _ _ ⟨hl,hh⟩;exact .mJ this.1 this.2
 ·exact .any _
 ·exact h
def ah8 (cx:Cx K) (fz:Bool) (fn:Func) (n0:Nat) {R:Type} (fin:AV K->List (Ob K)->Option R) (e:Ex) (st:St K):Option R:=
 match e with
 | .exit _=>none
 |_=>match resV cx fn st with
  |some v0=>let v:=Us cx.aje v0
   cond st.ok (cond fz (match adG cx.mv n0 (oZ (rJ st.H (hands v)) v) (rJ st.H (hands v)) with
    |some (v',H')=>fin v' H'
    |none=>none) (match adG cx.mv n0 (JV cx.deep st.H cx.rsl v).1 (JV cx.deep st.H cx.rsl v).2 with
    |some (v',H')=>fin v' H'
    |none=>none)) none
  |none=>none
def ah9 (cx:Cx K) (fz:Bool) (fn:Func) (args:List (AV K)) (H:List (Ob K)) {R:Type} (fin:AV K->List (Ob K)->Option R):Option R:=
 match fn.body with
 |some c=>pK cx c ⟨args++List.replicate (fn.ntmps-args.length) .any,H,true⟩ (ah8 cx fz fn H.length fin)
 |none=>none
structure ajr (P:Program) (f:FuncId) (fn:Func):Prop where
 get:P.funcs[f]? =some fn
 name:(fn.name== "runtime.NumGoroutine")=false
theorem JW {D:jl K} (dp:K.U->Bool):∀(css:List (List (Option K.U))) (l:List (AV K)) (H:List (Ob K)) (ρ:List Value) (vs:List Value),ak D ρ S w H->bW D ρ S w l vs->QR D S w H ρ vs (nX dp H css l)
 | [],l,H,ρ,vs,hs,hr=>⟨ρ,by simpa [nX] using hs,by simpa [nX] using hr,by simpa [nX] using Step.refl,fun _ _ h=>h,by simp[nX],fun _ _ h=>by simpa [nX] using h⟩
 |cs::css,[],H,ρ,vs,hs,hr=>⟨ρ,by simpa [nX] using hs,by simpa [nX] using hr,by simpa [nX] using Step.refl,fun _ _ h=>h,by simp[nX],fun _ _ h=>by simpa [nX] using h⟩
 |cs::css,v::r,H,ρ,vs,hs,hr=>by
  obtain ⟨u,t,rfl,h1,h2⟩:=hr.qh;have fin:∀(v':AV K) (p:List (AV K)×List (Ob K)) (us:List Value),(∀ρ',bW D ρ' S w p.1 us->Rep D ρ' S w v' u)->QR D S w H ρ us p->QR D S w H ρ (u::t) (v'::(nX dp p.2 css r).1,(nX dp p.2 css r).2):=fun v' p us hv hp=>by
   obtain ⟨ρ1,g1,g2,g3,g4,g5,g6⟩:=hp;obtain ⟨ρ2,k1,k2,k3,k4,k5,k6⟩:=JW dp css r p.2 ρ1 t g1 (h2.mono (fun _ h=>h) (fun _ _=>rfl) g4)
   exact ⟨ρ2,k1, .cons ((hv ρ1 g2).mono (fun _ h=>h) (fun _ _=>rfl) k4) k2,g3.trans (k3.weaken g5),fun h r hr=>k4 h r (g4 h r hr),Nat.le_trans g5 k5,fun h o ho=>k6 h o (g6 h o ho)⟩
  have one:∀v,Rep D ρ S w v u->nX dp H (cs::css) (v::r)=((thaw dp H cs [v]).1.headD v::(nX dp (thaw dp H cs [v]).2 css r).1,(nX dp (thaw dp H cs [v]).2 css r).2)->QR D S w H ρ (u::t) (nX dp H (cs::css) (v::r)):=fun v h1 e=>by
   rw[e];refine fin _ _ [u] (fun ρ' hr'=> ?_) (uJ dp cs [v] H ρ [u] hs (.cons h1 .nil))
   generalize hq:(thaw dp H cs [v]).1=q at hr'
   cases q with
   |nil=>have:=hr'.1;simp at this
   |cons x y=>exact hr'.head
  cases v with
  |agg l=>
   cases h1 with
   |agg hl hh=>
    have e:nX dp H (cs::css) (.agg l::r)=(.agg (thaw dp H cs l).1::(nX dp (thaw dp H cs l).2 css r).1,(nX dp (thaw dp H cs l).2 css r).2):=rfl;rw[e];exact fin _ _ _ (fun ρ' hr'=> .agg hr'.1 hr'.2) (uJ dp cs l H ρ _ hs ⟨hl,hh⟩)
  |_=>exact one _ h1 rfl
theorem abC {D:jl K} (dp:K.U->Bool) (cs:List (List (Option K.U))) (v:AV K) (hs:ak D ρ S w H) {u:Value} (hr:Rep D ρ S w v u):
 ∃ρ',ak D ρ' S w (JV dp H cs v).2 /\ Rep D ρ' S w (JV dp H cs v).1 u /\ Step D H.length ρ S H w ρ' S (JV dp H cs v).2 w /\ H.length<=(JV dp H cs v).2.length:=by
 have one:∀v,Rep D ρ S w v u->JV dp H cs v=((nX dp H cs [v]).1.headD v,(nX dp H cs [v]).2)->∃ρ',ak D ρ' S w (JV dp H cs v).2 /\ Rep D ρ' S w (JV dp H cs v).1 u /\ Step D H.length ρ S H w ρ' S (JV dp H cs v).2 w /\ H.length<=(JV dp H cs v).2.length:=fun v hr e=>by
  rw[e];obtain ⟨ρ',g1,g2,g3,g4,g5,g6⟩:=JW dp cs [v] H ρ [u] hs (.cons hr .nil);refine ⟨ρ',g1, ?_,g3,g5⟩
  generalize hq:(nX dp H cs [v]).1=q at g2
  cases q with
  |nil=>have:=g2.1;simp at this
  |cons x y=>exact g2.head
 cases v with
 |mJ l=>
  cases hr with
  |mJ hl hh=>
   obtain ⟨ρ',g1,g2,g3,g4,g5,g6⟩:=JW dp cs l H ρ _ hs ⟨hl,hh⟩;exact ⟨ρ',g1, .mJ g2.1 g2.2,g3,g5⟩
 |_=>exact one _ hr rfl
theorem acE {cx:Cx K} (hD:bU cx.D) {fz:Bool} {fn:Func} {n0:Nat} {R:Type} {fin:AV K->List (Ob K)->Option R} {e:Ex} {st:St K} {r:R} (h:ah8 cx fz fn n0 fin e st=some r):
 st.ok=true /\ (∀i,e≠ .exit i) /\ ∃v v' H',resV cx fn st=some v /\ fin v' H'=some r /\ ∀ρ S w,n0<=st.H.length->ak cx.D ρ S w st.H->∀u,Rep cx.D ρ S w v u->∃ρ' S',ak cx.D ρ' S' w H' /\ Rep cx.D ρ' S' w v' u /\ Step cx.D n0 ρ S st.H w ρ' S' H' w:=by
 have key:∀(v0:AV K) (H0:List (Ob K)) v' H',adG cx.mv n0 v0 H0=some (v',H')->∀ρ S w,n0<=H0.length->ak cx.D ρ S w H0->∀u,Rep cx.D ρ S w v0 u->∃ρ',ak cx.D ρ' S w H' /\ Rep cx.D ρ' S w v' u /\ Step cx.D n0 ρ S H0 w ρ' S H' w:=fun v0 H0 v' H' hp ρ S w hn hs u hr=>by
  unfold adG adF at hp;split at hp
  ·rename_i hk
   simp only[Bool.and_eq_true,decide_eq_true_eq] at hk;split at hp
   ·rename_i v'' H1 hv' hH'
    simp only[Option.some.injEq,Prod.mk.injEq] at hp;obtain ⟨rfl,rfl⟩:=hp;obtain ⟨s1,s2,s3,s4⟩:=Wp hD hs hn hk.1 hk.2 hH';exact ⟨_,s1,sD hD s3 _ _ u hv' hr,s2⟩
   ·cases hp
  ·cases hp
 unfold ah8 at h;split at h
 ·cases h
 ·rename_i hne
  split at h
  ·rename_i v0 hv0
   dsimp only at h
   generalize hv:Us cx.aje v0=v at h
   have fgt:∀{ρ S w} {u:Value},Rep cx.D ρ S w v0 u->Rep cx.D ρ S w v u:=fun hr=>by rw[<-hv];exact X4 _ _ _ hr
   cases hok:st.ok with
   |false=>rw[hok] at h;cases h
   |true=>
    rw[hok] at h;simp only[cond_true] at h;refine ⟨rfl,hne, ?_⟩
    cases fz with
    |false=>
     simp only[cond_false] at h;split at h
     ·rename_i v' H' hp
      exact ⟨v0,v',H',hv0,h,fun ρ S w hn hs u hr0=>by
       have hr:=fgt hr0;obtain ⟨ρ1,t1,t2,t3,t4⟩:=abC cx.deep cx.rsl v hs hr;obtain ⟨ρ',a,b,c⟩:=key _ _ _ _ hp ρ1 S w (Nat.le_trans hn t4) t1 u t2;exact ⟨ρ',S,a,b,(t3.weaken hn).trans c⟩⟩
     ·cases h
    |true=>
     simp only[cond_true] at h;split at h
     ·rename_i v' H' hp
      exact ⟨v0,v',H',hv0,h,fun ρ S w hn hs u hr0=>by
       have hr:=fgt hr0;obtain ⟨S1,g1,g2,g3⟩:=Gv (n0:=n0) (hands v) hs;obtain ⟨ρ',a,b,c⟩:=key _ _ _ _ hp ρ S1 w (by omega) g1 u (lG g1 _ _ (hr.mono g2.s1 (fun _ _=>rfl) (fun _ _ h=>h)))
       exact ⟨ρ',S1,a,b,g2.trans c⟩⟩
     ·cases h
  ·cases h
theorem acF {cx:Cx K} (hD:bU cx.D) (hc:aI cx) (hm:cx.P.follows .mixedOrders=true) {fz:Bool} {f:FuncId} {fn:Func} (hf:ajr cx.P f fn) (hl:∀c,fn.body=some c->mG cx c)
 {args:List (AV K)} {R:Type} {fin:AV K->List (Ob K)->Option R} {r:R} (h:ah9 cx fz fn args H fin=some r):∃v H',fin v H'=some r /\ RC cx.D cx.P f args H v H':=by
 unfold ah9 at h;split at h
 ·rename_i c hb
  obtain ⟨e,st,h1, -,h3⟩:=jT hD hc hm c (hl c hb) _ _ _ h;obtain ⟨hok,hne,v,v',H',hv,hr,hfin⟩:=acE hD h1;refine ⟨v',H',hr,⟨fn,hf.get,hf.name,by rw[hb];rfl⟩,fun ρ S w vals hs ha=> ?_⟩
  have h0:iK (args++List.replicate (fn.ntmps-args.length) (AV.any:AV K)):=fun t g b y e=>by
   rcases Nat.lt_or_ge t args.length with hlt |hge
   ·rw[List.getElem?_append_left hlt] at e
    obtain ⟨x, -,hx⟩:=ha.get e
    cases hx
   ·rw[List.getElem?_append_right hge,List.getElem?_replicate] at e
    split at e<;>cases e
  obtain ⟨n1,htr⟩:=h3 hok h0;refine calls_of_wp hf.get hb ?_;have dG:Sat cx ρ S {tmps:=vals.toArray++Array.replicate (fn.ntmps-vals.toArray.size) undef,defers:=[]} w ⟨args++List.replicate (fn.ntmps-args.length) .any,H,true⟩:=⟨hs,⟨by simp[ha.1],fun t v x h1 h2=> .rF (by
   rcases Nat.lt_or_ge t args.length with hlt |hge
   ·rw[List.getElem?_append_left hlt] at h1
    rw[Array.getElem?_append_left (by simpa [<-ha.1] using hlt)] at h2
    exact ha.2 t v x h1 (by simpa using h2)
   ·rw[List.getElem?_append_right hge,List.getElem?_replicate] at h1
    split at h1
    ·simp at h1;subst h1;exact .any x
    ·cases h1)⟩,rfl⟩
  refine wp_mono (htr H.length ρ S _ w (Nat.le_refl _) dG) ?_
  rintro e' a' w' ⟨rfl,hn,ρ1,S1,jS,hst1⟩
  obtain ⟨u,hu,hr1⟩:=Wq hD n1 jS hv;have Ws:∃u' ρ' S',Ending.returned u= .returned u' /\ ak cx.D ρ' S' w' H' /\ Rep cx.D ρ' S' w' v' u' /\ Step cx.D H.length ρ S H w ρ' S' H' w':=by
   obtain ⟨ρ2,S2,q1,q2,q3⟩:=hfin ρ1 S1 w' hn jS.heap u hr1;exact ⟨u,ρ2,S2,rfl,q1,q2,hst1.trans q3⟩
  cases e with
  |exit i=>exact absurd rfl (hne i)
  |normal=>exact ⟨jS.defers,u,hu,Ws⟩
  |ret=>exact ⟨jS.defers,u,hu,Ws⟩
 ·cases h
structure df (K:yG) where
 f:FuncId
 sh:eQ K
 R:Type
 run:sh.T->Option R
 dflt:R
 out:R->AV K×List (Ob K)
def df.Ok (D:jl K) (P:Program) (c:df K):Prop:=∀x r,c.run x=some r->RC D P c.f (c.sh.fA D x) (c.sh.eP D x) (c.out r).1 (c.out r).2
def callOf (D:jl K):List (df K)->FuncId->List (AV K)->List (Ob K)->Option (AV K×List (Ob K)×Bool)
 | [],_,_,_=>none
 |c::l,f,args,H=>cond (Nat.beq c.f f) (match c.sh.dec D args H with
  |some x=>some ((c.out ((c.run x).getD c.dflt)).1,(c.out ((c.run x).getD c.dflt)).2,(c.run x).isSome)
  |none=>callOf D l f args H) (callOf D l f args H)
theorem RC.weak {D:jl K} {P:Program} {f:FuncId} {args args':List (AV K)} {r:AV K} {Ho:List (Ob K)} (hw:Wk D args H args' H') (h:RC D P f args' H' r Ho):RC D P f args H r Ho:=by
 refine ⟨h.1,fun ρ S w vals hs ha=>(h.2 ρ S w vals (hw.heap _ _ _ hs) (hw.aia _ _ _ _ ha)).mono ?_⟩
 rintro e w' ⟨u,ρ',S',rfl,h1,h2,h3⟩
 rw[hw.len] at h3;exact ⟨u,ρ',S',rfl,h1,h2,hw.step.trans h3⟩
theorem ax {D:jl K} (hD:bU D) {P:Program}:∀(l:List (df K)),(∀c∈l,c.Ok D P)->∀f args H r H',callOf D l f args H=some (r,H',true)->RC D P f args H r H'
 | [],_,f,args,H,r,H',h=>by simp[callOf] at h
 |c::l,hl,f,args,H,r,H',h=>by
  have ih:=ax hD l (fun c hc=>hl c (by simp[hc])) f args H r H'
  unfold callOf at h
  cases hb:Nat.beq c.f f with
  |false=>rw[hb] at h;exact ih h
  |true=>
   rw[hb] at h;have hf:c.f=f:=Nat.eq_of_beq_eq_true hb;simp only[cond_true] at h;split at h
   ·rename_i x hx
    simp only[Option.some.injEq,Prod.mk.injEq] at h;obtain ⟨h1,h2,h3⟩:=h;obtain ⟨y,hy⟩:=Option.isSome_iff_exists.1 h3;rw[hy] at h1 h2;simp only[Option.getD_some] at h1 h2;have:=hl c (by simp) x y hy
    rw[h1,h2,hf] at this;exact this.weak (eQ.Wu hD hx)
   ·exact ih h
def df.frz (D:jl K) (c:df K):df K:={c with out:=fun r=>(FC D (c.out r).2 (c.out r).1,[])}
theorem df.aj9 {D:jl K} (hD:bU D) {P:Program} {c:df K} (h:c.Ok D P) (h0:c.sh.os=[]) (hcl:∀r,(FC D (c.out r).2 (c.out r).1).closed=true):(c.frz D).Ok D P:=by
 intro x r hr;have hH:c.sh.eP D x=[]:=by
  unfold eQ.eP;have:∀(l:List (dY K)) (y:dY.Ts l),l=[]->dY.encs D l y=[]:=fun l y e=>by subst e;rfl
  exact this _ _ h0
 obtain ⟨h1,h2⟩:=h x r hr;refine ⟨h1,fun ρ S w vals hs ha=>(h2 ρ S w vals hs ha).mono ?_⟩
 rintro e w' ⟨u,ρ',S',rfl,g1,g2,g3⟩
 show ∃u_1 ρ' S',Ending.returned u= .returned u_1 /\ ak D ρ' S' w' ([]:List (Ob K)) /\ Rep D ρ' S' w' (FC D (c.out r).2 (c.out r).1) u_1 /\ Step D (c.sh.eP D x).length ρ S (c.sh.eP D x) w ρ' S' ([]:List (Ob K)) w'
 change ak D ρ S w (c.sh.eP D x) at hs;rw[hH] at g3 hs ⊢;have hρ:ρ=[]:=by have:=hs.len;simpa using this
 refine ⟨u,[],fun b=>S' b \/ Own D w' ρ' (c.out r).2 b,rfl,⟨rfl,fun _ _ _ h=>by simp at h,fun _ _ _ _ _ _ _ h=>by simp at h,fun b ⟨_,_,_,h,_⟩=>by simp at h,fun b hb=>hb.elim (g1.slt b) fun h=>(g1.lt b h).1,D.base.mono (fun _ h=> .inl h) (fun _ _=>rfl) g1.base⟩,
  (VN hD g1 _ _ g2).closed hD (hcl r),⟨g3.os,g3.tape,g3.output,g3.size,g3.old,fun b ⟨_,_,_,h,_⟩=>by simp at h,fun b hb=> .inl (g3.s1 b hb),fun b hb=> ?_,fun h hh=>by simp at hh⟩⟩
 rcases hb with hb |hb
 ·exact g3.s2 b hb
 ·exact .inr (g3.own b hb)
structure ag0 (K:yG) (D:jl K) (R:Type) where
 sh:eQ K
 conv:sh.T->R
def ag0.fin {D:jl K} {R:Type} (d:ag0 K D R) (v:AV K) (H:List (Ob K)):Option R:=match d.sh.dec D [v] H with
 |some x=>some (d.conv x)
 |none=>none
theorem bG {cx:Cx K} (hD:bU cx.D) (hc:aI cx) (hm:cx.P.follows .mixedOrders=true) {c:df K} {fz:Bool} {fn:Func} (hf:ajr cx.P c.f fn) (hl:∀b,fn.body=some b->mG cx b)
 (d:ag0 K cx.D c.R) (ho:∀x,([(c.out (d.conv x)).1],(c.out (d.conv x)).2)=(d.sh.fA cx.D x,d.sh.eP cx.D x)) (he:∀x,ah9 cx fz fn (c.sh.fA cx.D x) (c.sh.eP cx.D x) d.fin=c.run x):c.Ok cx.D cx.P:=by
 intro x r hr;rw[<-he x] at hr;obtain ⟨v,H',h1,h2⟩:=acF hD hc hm hf hl hr;unfold ag0.fin at h1;split at h1
 ·rename_i y hy
  simp only[Option.some.injEq] at h1;have hw:=eQ.Wu hD hy;have:=ho y;simp only[Prod.mk.injEq] at this;rw[<-this.1,<-this.2] at hw;rw[h1] at hw;refine ⟨h2.1,fun ρ S w vals hs ha=>(h2.2 ρ S w vals hs ha).mono ?_⟩
  rintro e w' ⟨u,ρ',S',rfl,g1,g2,g3⟩
  have:=(hw.aia _ _ _ [u] (.cons g2 .nil)).head;exact ⟨u,ρ',S',rfl,hw.heap _ _ _ g1,this,g3.trans hw.step⟩
 ·cases h1
def Wv (kp:Bool):Nat->List (Ob K)->List (Option Nat)×List (Option Nat)
 |_,[]=>([],[])
 |i,o::r=>match Wv kp (i+1) r with
  |(a,b)=>match o with
   | .arr ..=>cond kp (some i::a,b) (none::a,some i::b)
   | .tree ..=>cond kp (some i::a,b) (none::a,some i::b)
   |_=>(some i::a,b)
def adJ (kp:Bool) (n n0:Nat) (ins:List Nat) (vals:List (AV K)) (Hi:List (Ob K)):Option (St K):=
 match ZH n0 ((Wv kp 0 Hi).1++(Wv kp 0 Hi).2) ins ⟨dW (List.replicate n .any) ins vals,Hi,true⟩ with
 |some st=>NK n0 ins st
 |none=>none
def DT (st:St K) (ts:List Nat):List (AV K):=ts.map fun t=>st.tm.getD t .any
def gU (D:jl K) (kp:Bool) (n n0:Nat) (ins outs:List Nat) (sh:eQ K) {Y:Type} (run:sh.T->Option Y) (out:Y->{R:Type}->(Ex->List (AV K)->List (Ob K)->R)->R):fJ K:={
 n:=n
 ins:=ins
 outs:=outs
 run vals Hi k:=cond (Nat.beq Hi.length n0) (match adJ kp n n0 ins vals Hi with
  |some st=>match sh.dec D (DT st ins) st.H with
   |some x=>match run x with
    |some y=>out y k
    |none=>none
   |none=>none
  |none=>none) none}
def adK (cx:Cx K) (n n0:Nat) (ins outs:List Nat) (sh:eQ K) {Y:Type} (next:sh.T->Option Y) (fin:Ex->List (AV K)->List (Ob K)->Option Y) (e:Ex) (s:St K):Option Y:=
 cond s.ok (cond (Nat.beq s.tm.length n) (match e with
  | .normal=>match NK n0 ins s with
    |some s'=>match sh.dec cx.D (DT s' ins) s'.H with
     |some x=>next x
     |none=>none
    |none=>none
  |e=>match NK n0 outs s with
   |some s'=>fin e (DT s' outs) s'.H
   |none=>none) none) none
def QS (D:jl K) (n:Nat) (ins:List Nat) (sh:eQ K) (x:sh.T):St K:=⟨dW (List.replicate n .any) ins (sh.fA D x),sh.eP D x,true⟩
structure gB (K:yG) (Y:Type) where
 e:Ex
 sh:eQ K
 conv:sh.T->Y
def Ex.same :Ex->Ex->Bool
 | .normal, .normal=>true
 | .exit a, .exit b=>Nat.beq a b
 | .ret, .ret=>true
 |_,_=>false
theorem Ex.same_eq {a b:Ex} (h:Ex.same a b=true):a=b:=by
 cases a<;>cases b<;>simp only[Ex.same] at h<;>first |rfl |cases h |(rw[Nat.eq_of_beq_eq_true h])
def PM (D:jl K) {Y:Type}:List (gB K Y)->Ex->List (AV K)->List (Ob K)->Option Y
 | [],_,_,_=>none
 |d::l,e,vs,H=>cond (Ex.same d.e e) (match d.sh.dec D vs H with
  |some x=>some (d.conv x)
  |none=>none) (PM D l e vs H)
theorem SH {D:jl K}:∀(l:List (Sh K)) (vs:List (AV K)) (x:Sh.Ts l),Sh.qj D l vs=some x->vs.length=l.length
 | [],vs,x,h=>by
   cases vs with
   |nil=>rfl
   |cons v r=>unfold Sh.qj at h;cases h
 |s::r,vs,x,h=>by
  cases vs with
  |nil=>unfold Sh.qj at h;cases h
  |cons v l=>
   unfold Sh.qj at h;split at h
   ·rename_i a b h1 h2;simp only[List.length_cons];rw[SH r l b h2]
   ·cases h
theorem JF {D:jl K}:∀(l:List (Sh K)) (x:Sh.Ts l),(Sh.encs D l x).length=l.length
 | [],x=>rfl
 |s::r,x=>by simp only[Sh.encs,List.length_cons];rw[JF r]
theorem ZQ {D:jl K} {sh:eQ K} {vs:List (AV K)} {x:sh.T} (h:sh.dec D vs H=some x):(sh.fA D x).length=vs.length:=by
 unfold eQ.dec at h;split at h
 ·rename_i a b h1 h2
  unfold eQ.fA;rw[JF,SH _ _ _ h1]
 ·cases h
theorem GN {D:jl K} (hD:bU D) {Y:Type} {out:Y->{R:Type}->(Ex->List (AV K)->List (Ob K)->R)->R}:∀(l:List (gB K Y)),(∀d∈l,d.e≠ .normal /\ ∀x (R:Type) (k:Ex->List (AV K)->List (Ob K)->R),out (d.conv x) k=k d.e (d.sh.fA D x) (d.sh.eP D x))->
 ∀e vs H y,PM D l e vs H=some y->e≠ .normal /\ ∃vs' H',(∀(R:Type) (k:Ex->List (AV K)->List (Ob K)->R),out y k=k e vs' H') /\ Wk D vs H vs' H' /\ vs'.length=vs.length
 | [],_,e,vs,H,y,h=>by simp[PM] at h
 |d::l,hl,e,vs,H,y,h=>by
  unfold PM at h
  cases hs:Ex.same d.e e with
  |false=>rw[hs] at h;exact GN hD l (fun d hd=>hl d (by simp[hd])) e vs H y h
  |true=>
   rw[hs] at h;have he:=Ex.same_eq hs;simp only[cond_true] at h;split at h
   ·rename_i x hx
    simp only[Option.some.injEq] at h;subst h;obtain ⟨h1,h2⟩:=hl d (by simp)
    rw[he] at h1 h2;exact ⟨h1,_,_,fun R k=>h2 x R k,eQ.Wu hD hx,ZQ hx⟩
   ·cases h
theorem ajs {st:St K} {ts:List Nat} {i t:Nat} {v:AV K} (h1:ts[i]? =some t) (h2:(DT st ts)[i]? =some v):v=st.tm.getD t .any:=by
 simp only[DT,List.getElem?_map,h1,Option.map_some,Option.some.injEq] at h2;exact h2.symm
theorem retag {cx:Cx K} {n0:Nat} {st:St K} {ts:List Nat} {n:Nat} (hn:st.tm.length=n) (h0:iK st.tm) {vs':List (AV K)} (hw:Wk cx.D (DT st ts) st.H vs' H') (hlen:vs'.length=ts.length):
 Goes cx n0 st ⟨dW (List.replicate n .any) ts vs',H',st.ok⟩:=by
 intro ρ S a w hn0 dG;refine ⟨by show n0<=H'.length;rw[hw.len];exact hn0,ρ,S,⟨hw.heap _ _ _ dG.heap, ?_,dG.defers⟩,hw.step⟩
 have hsz:a.tmps.size=n:=by rw[<-hn];exact dG.slots.len.symm
 have hrep:∀t,Rep cx.D ρ S w (st.tm.getD t .any) (a.tmps.getD t undef):=fun t=>by
  rw[List.getD_eq_getElem?_getD,Array.getD_eq_getD_getElem?]
  cases hg:st.tm[t]? with
  |none=>exact .any _
  |some v=>
   obtain ⟨x,hx, -⟩:=dG.slots.get hg;rw[hx];exact dG.slots.rep h0 hg hx
 have hus:bW cx.D ρ S w (DT st ts) (ts.map fun t=>a.tmps.getD t undef):=⟨by simp[DT],fun i v x h1 h2=>by
  simp only[DT,List.getElem?_map,Option.map_eq_some_iff] at h1 h2;obtain ⟨t,e1,rfl⟩:=h1;obtain ⟨t',e2,rfl⟩:=h2;rw[e1] at e2;simp at e2;subst e2;exact hrep t⟩
 have aka:=hw.aia _ _ _ _ hus;refine zI hsz fun i t v x h1 h2 h3=>aka.2 i v x h2 ?_
 simp only[List.getElem?_map,h1,Option.map_some];rw[Array.getD_eq_getD_getElem?,h3];rfl
theorem Wx {D:jl K}:∀(l:List (Sh K)) (x:Sh.Ts l) (i:Nat) (v:AV K),(Sh.encs D l x)[i]? =some v->v.xy=false
 | [],x,i,v,h=>by simp[Sh.encs] at h
 |s::r,x,i,v,h=>by
  cases i with
  |zero=>
   simp only[Sh.encs,List.getElem?_cons_zero,Option.some.injEq] at h;subst h
   cases s<;>simp only[Sh.enc]<;>rfl
  |succ i=>exact Wx r x.2 i v (by simpa [Sh.encs] using h)
theorem acG {n:Nat} {ds:List Nat} {l:List (AV K)} (h:∀(i:Nat) v,l[i]? =some v->v.xy=false):iK (dW (List.replicate n .any) ds l):=fun t g b v e=>by
 rcases vK ds l _ t _ e with h1 |⟨i, -,h2⟩
 ·rw[List.getElem?_replicate] at h1;split at h1<;>cases h1
 ·have:=h i _ h2;simp[AV.xy] at this
theorem Wy {n0:Nat} {src:List (Option Nat)} {keep:List Nat} {st st':St K} (h:ZH n0 src keep st=some st'):st'.tm.length=st.tm.length:=by
 unfold ZH at h;split at h
 ·split at h
  ·simp only[Option.some.injEq] at h;subst h
   simp[rM]
  ·cases h
 ·cases h
theorem Tr.goes {cx:Cx K} {n0:Nat} {c:Code} {st st1 st2:St K} {e:Ex} (h:Tr cx n0 c st e st1) (g:Goes cx n0 st1 st2):Tr cx n0 c st e st2:=fun ρ S a w hn dG=>by
 refine wp_mono (h ρ S a w hn dG) ?_
 rintro e' a' w' ⟨he,hn1,ρ1,S1,jS,hst1⟩
 obtain ⟨hn2,ρ2,S2,abu,hst2⟩:=g ρ1 S1 a' w' hn1 jS;exact ⟨he,hn2,ρ2,S2,abu,hst1.trans hst2⟩
section
variable {cx :Cx K} (hD:bU cx.D) (hc:aI cx) (hm:cx.P.follows .mixedOrders=true) {c:Code} (hl:mG cx c) {n n0:Nat} {ins outs:List Nat} {sh:eQ K} {Y:Type} {run:Nat->sh.T->Option Y}
 {fZ:List (gB K Y)} {out:Y->{R:Type}->(Ex->List (AV K)->List (Ob K)->R)->R}
 (h0:∀x,run 0 x=none) (hs:∀m x,pK cx c (QS cx.D n ins sh x) (adK cx n n0 ins outs sh (run m) (PM cx.D fZ))=run (m+1) x)
 (hx:∀d∈fZ,d.e≠ .normal /\ ∀x (R:Type) (k:Ex->List (AV K)->List (Ob K)->R),out (d.conv x) k=k d.e (d.sh.fA cx.D x) (d.sh.eP cx.D x))
include hD hc hm hl h0 hs hx
theorem PN {y:Y}:∀(m:Nat) (x:sh.T),run m x=some y->∃e vs Ho,(∀(R:Type) (k:Ex->List (AV K)->List (Ob K)->R),out y k=k e vs Ho) /\
 ∀(ρ0:List Value) (S0:Nat->Prop) (H0:List (Ob K)) (w0:World) (ρ:List Value) (S:Nat->Prop) (a:Act) (w:World),n0<=(QS cx.D n ins sh x).H.length->Sat cx ρ S a w (QS cx.D n ins sh x)->Step cx.D n0 ρ0 S0 H0 w0 ρ S (QS cx.D n ins sh x).H w->
  Code.rounds cx.P c (fun e' a' w'=>e'=e.Ci /\ n0<=Ho.length /\ ∃ρ' S',Sat cx ρ' S' a' w' ⟨dW (List.replicate n .any) outs vs,Ho,true⟩ /\ Step cx.D n0 ρ0 S0 H0 w0 ρ' S' Ho w') m a w
 |0,x,h=>by rw[h0] at h;cases h
 |m+1,x,h=>by
  rw[<-hs m x] at h;obtain ⟨e,s,h1,h2,h3⟩:=jT hD hc hm c hl _ _ _ h;unfold adK at h1;have hno:iK (QS cx.D n ins sh x).tm:=acG (Wx _ _)
  cases hok:s.ok with
  |false=>rw[hok] at h1;cases h1
  |true=>
   rw[hok] at h1;simp only[cond_true] at h1;obtain ⟨n1,htr⟩:=h3 hok hno
   cases hlen:Nat.beq s.tm.length n with
   |false=>rw[hlen] at h1;cases h1
   |true=>
   rw[hlen] at h1;simp only[cond_true] at h1;have hsn:s.tm.length=n:=Nat.eq_of_beq_eq_true hlen;have key:∀keep s' vs' H'',NK n0 keep s=some s'->Wk cx.D (DT s' keep) s'.H vs' H''->vs'.length=keep.length->Tr cx n0 c (QS cx.D n ins sh x) e ⟨dW (List.replicate n .any) keep vs',H'',true⟩:=fun keep s' vs' H'' hn hw hvl=>by
    have hr:ZH n0 ((reach s.H 64 (List.range n0++bI (keep.map fun t=>s.tm.getD t .any)) []).map some) keep s=some s':=hn
    obtain ⟨hk1,g1,g2⟩:=KE (cx:=cx) hD hr;have:=(htr n0).goes ((g2 n1).trans (retag ((Wy hr).trans hsn) g1 hw hvl));rw[hk1,hok] at this;exact this
   cases e with
   |normal=>
    dsimp only at h1;split at h1
    ·rename_i s' hn
     split at h1
     ·rename_i x' hx'
      obtain ⟨e2,vs,Ho,q1,q2⟩:=PN m x' h1;refine ⟨e2,vs,Ho,q1,fun ρ0 S0 H0 w0 ρ S a w hn0 dG hst=> ?_⟩
      rw[rounds_succ];refine wp_mono (key ins s' _ _ hn (eQ.Wu hD hx') (by rw[ZQ hx'];simp[DT]) ρ S a w hn0 dG) ?_
      rintro e' a' w' ⟨rfl,hn1,ρ1,S1,jS,hst1⟩
      exact q2 ρ0 S0 H0 w0 ρ1 S1 a' w' hn1 jS (hst.trans hst1)
     ·cases h1
    ·cases h1
   |exit id=>
    dsimp only at h1;split at h1
    ·rename_i s' hn
     obtain ⟨g1,vs',H'',g2,g3,g4⟩:=GN hD fZ hx _ _ _ _ h1;refine ⟨.exit id,vs',H'',g2,fun ρ0 S0 H0 w0 ρ S a w hn0 dG hst=> ?_⟩
     rw[rounds_succ];refine wp_mono (key outs s' _ _ hn g3 (by rw[g4];simp[DT]) ρ S a w hn0 dG) ?_
     rintro e' a' w' ⟨rfl,hn1,ρ1,S1,jS,hst1⟩
     exact ⟨rfl,hn1,ρ1,S1,jS,hst.trans hst1⟩
    ·cases h1
   |ret=>
    dsimp only at h1;split at h1
    ·rename_i s' hn
     obtain ⟨g1,vs',H'',g2,g3,g4⟩:=GN hD fZ hx _ _ _ _ h1;refine ⟨.ret,vs',H'',g2,fun ρ0 S0 H0 w0 ρ S a w hn0 dG hst=> ?_⟩
     rw[rounds_succ];refine wp_mono (key outs s' _ _ hn g3 (by rw[g4];simp[DT]) ρ S a w hn0 dG) ?_
     rintro e' a' w' ⟨rfl,hn1,ρ1,S1,jS,hst1⟩
     exact ⟨rfl,hn1,ρ1,S1,jS,hst.trans hst1⟩
    ·cases h1
theorem dE (kp:Bool) (N:Nat):dQ cx c (gU cx.D kp n n0 ins outs sh (run N) out):=by
 intro vals Hi R k r h;simp only[gU] at h
 cases hb:Nat.beq Hi.length n0 with
 |false=>rw[hb] at h;cases h
 |true=>
  rw[hb] at h;have hlen:Hi.length=n0:=Nat.eq_of_beq_eq_true hb;simp only[cond_true] at h;split at h
  ·rename_i st hst
   split at h
   ·rename_i x hx1
    split at h
    ·rename_i y hy
     obtain ⟨e,vs,Ho,q1,q2⟩:=PN hD hc hm hl h0 hs hx N x hy;rw[q1] at h;refine ⟨e,vs,Ho,h, ?_⟩;unfold adJ at hst;split at hst
     ·rename_i st1 hst1
      have hst':ZH n0 ((reach st1.H 64 (List.range n0++bI (ins.map fun t=>st1.tm.getD t .any)) []).map some) ins st1=some st:=hst
      obtain ⟨k1,g1,g2⟩:=KE (cx:=cx) hD hst1;obtain ⟨k2,g3,g4⟩:=KE (cx:=cx) hD hst';intro ρ S a w hn0 dG;have hno:iK (dW (List.replicate n (AV.any:AV K)) ins vals):=fun t g b v e=>by
       rcases vK ins vals _ t _ e with h1 |⟨i,h1, -⟩
       ·rw[List.getElem?_replicate] at h1;split at h1<;>cases h1
       ·unfold ZH at hst1
        split at hst1
        ·split at hst1
         ·rename_i ws H1 hv hm1
          obtain ⟨gl,gg⟩:=CE _ _ hv;have hi:i<ws.length:=by rw[gl];simp;exact (List.getElem?_eq_some_iff.1 h1).1
          obtain ⟨v0,q1,q2⟩:=gg i _ (List.getElem?_eq_getElem hi);simp only[List.getElem?_map,h1,Option.map_some,Option.some.injEq] at q1;rw[List.getD_eq_getElem?_getD,e] at q1;simp only[Option.getD_some] at q1;subst q1;simp[O9] at q2
         ·cases hst1
        ·cases hst1
      have hlen1:st1.tm.length=n:=by rw[Wy hst1];simp[rM]
      have hlen2:st.tm.length=n:=by rw[Wy hst'];exact hlen1
      have hw:=eQ.Wu hD hx1;have hr:=retag (cx:=cx) (n0:=n0) hlen2 g3 hw (by rw[ZQ hx1];simp[DT])
      have hok:st.ok=true:=by rw[k2,k1]
      rw[hok] at hr;rw[hlen];obtain ⟨hn1,ρ1,S1,jS,hst2⟩:=((g2 hno).trans ((g4 g1).trans hr)) ρ S a w (by show n0<=Hi.length;omega) dG
      exact wp_loop_rounds N (q2 ρ S Hi w ρ1 S1 a w hn1 jS hst2)
     ·cases hst
    ·cases h
   ·cases h
  ·cases h
end
def qm : Code->List Code
 | .loop c=>[c]
 | .seq a b=>qm a++qm b
 | .cond _ a b=>qm a++qm b
 | .block _ c=>qm c
 |_=>[]
def dX (c:Code) (i:Nat):Code:=(qm c).getD i .skip
theorem yt {cx:Cx K}:∀(c:Code),(∀b∈qm c,∀L,cx.loop (keyOf b)=some L->dQ cx b L)->mG cx c
 | .loop c,h=>fun L hL=>h c (by simp[qm]) L hL
 | .seq a b,h=>⟨yt a fun x hx=>h x (by simp[qm,hx]),yt b fun x hx=>h x (by simp[qm,hx])⟩
 | .cond _ a b,h=>⟨yt a fun x hx=>h x (by simp[qm,hx]),yt b fun x hx=>h x (by simp[qm,hx])⟩
 | .block _ c,h=>yt c h
 | .skip,_ | .exit _,_ | .ret,_ | .region ..,_ | .scope ..,_ | .rangeFunc ..,_ | .goto ..,_ | .label ..,_ | .refuse ..,_=>trivial
def acH (cx:Cx K) (c:Code):Prop:=∃L,cx.loop (keyOf c)=some L /\ dQ cx c L
theorem acH.mk {cx:Cx K} {c:Code} {L:fJ K} (h:cx.loop (keyOf c)=some L) (ho:dQ cx c L):acH cx c:=⟨L,h,ho⟩
theorem bK {cx:Cx K} {c:Code} (n:Nat) (hn:(qm c).length=n) (h:∀i,i<n->acH cx (dX c i)):mG cx c:=
 yt c fun b hb L hL=>by
  obtain ⟨i,hi,rfl⟩:=List.getElem_of_mem hb;obtain ⟨L',h1,h2⟩:=h i (by omega)
  have e:dX c i=(qm c)[i]:=by simp[dX,List.getD_eq_getElem?_getD,List.getElem?_eq_getElem hi]
  rw[e] at h1 h2;rw[h1] at hL;simp only[Option.some.injEq] at hL;subst hL;exact h2
theorem ay {cx:Cx K} {c:Code} (hn:(qm c).length=0):mG cx c:=bK 0 hn fun i hi=>absurd hi (Nat.not_lt_zero i)
theorem eF {p:Nat->Prop} (h:p 0):∀i,i<1->p i:=fun i hi=>by
 have:i=0:=by omega
 subst this;exact h
theorem lt_succ {p:Nat->Prop} {n:Nat} (h:∀i,i<n->p i) (hn:p n):∀i,i<n+1->p i:=fun i hi=>by
 by_cases he:i=n
 ·subst he;exact hn
 ·exact h i (by omega)
def ed (fn:Func):Code:=match fn.body with
 |some c=>c
 |none=> .skip
theorem bH {cx:Cx K} {fn:Func} (h:mG cx (ed fn)):∀c,fn.body=some c->mG cx c:=fun c hc=>by
 have:ed fn=c:=by unfold ed;rw[hc]
 rw[<-this];exact h
theorem bM {α:Type _} {p:α->Prop}:∀c∈([]:List α),p c:=fun c h=>by simp at h
theorem aB {α:Type _} {p:α->Prop} {a:α} {l:List α} (h:p a) (t:∀c∈l,p c):∀c∈a::l,p c:=fun c hc=>by
 rcases List.mem_cons.1 hc with rfl |hc
 ·exact h
 ·exact t c hc
theorem dF {i:Nat}:Ex.exit i≠ .normal:=fun h=>by cases h
theorem jq : Ex.ret≠ .normal:=fun h=>by cases h
theorem ja {D:jl K} {P:Program} {c:df K} (h:∀x,c.run x=none):c.Ok D P:=fun x r hr=>by rw[h] at hr;cases hr
theorem WA : ∃n:Nat,2^63<=n:=⟨2^63,Nat.le_refl _⟩
noncomputable def aG :Nat:=Classical.choose WA
theorem cZ : 2^63<=aG:=Classical.choose_spec WA
end Go.V
