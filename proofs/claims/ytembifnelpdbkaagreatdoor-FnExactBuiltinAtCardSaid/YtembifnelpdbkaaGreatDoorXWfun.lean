/-
  A FUNCTION, A LOOP, by a plain definition that they are shown to be equal to.
-/
import Derived.Test.YtembifnelpdbkaaGreatDoorXWshape
set_option linter.unusedVariables false
namespace Go.V
open Go
variable {K :Gf} {ρ ρ':List Value} {S S':Nat->Prop} {w w':World} {H H':List (Ob K)}
def Zq (dp:K.U->Bool) (H:List (Ob K)) (cs:List (List (Option K.U))):AV K->AV K×List (Ob K)
 | .nS l=>(.nS (tK dp H cs l).1,(tK dp H cs l).2)
 |v=>((tK dp H cs [v]).1.headD v,(tK dp H cs [v]).2)
def forgets : List Bool->List (AV K)->List (AV K)
 | [],vs=>vs
 |_::_,[]=>[]
 |true::r,_::vs=> .any::forgets r vs
 |false::r,v::vs=>v::forgets r vs
def ana : List Bool->AV K->AV K
 | [],v=>v
 |l, .nS vs=> .nS (forgets l vs)
 |true::_,_=> .any
 |false::_,v=>v
theorem OZ {D:lG K}:∀(l:List Bool) (vs:List (AV K)) (us:List Value),dM D ρ S w vs us->dM D ρ S w (forgets l vs) us
 | [],vs,us,h=>by simpa only[forgets] using h
 |_::_,[],us,h=>by simpa only[forgets] using h
 |b::r,v::vs,us,h=>by
  obtain ⟨u,t,rfl,h1,h2⟩:=h.uo
  cases b
  ·exact .cons h1 (OZ r vs t h2)
  ·exact .cons (.any u) (OZ r vs t h2)
theorem arA {D:lG K} (l:List Bool) (v:AV K) (u:Value) (h:Rep D ρ S w v u):Rep D ρ S w (ana l v) u:=by
 unfold ana;split
 ·exact h
 ·cases h with
  |nS hl hh=>
   have:=OZ l _ _ ⟨hl,hh⟩;exact .nS this.1 this.2
 ·exact .any _
 ·exact h
def aDO (cx:Cx K) (fz:Bool) (fn:Func) (n0:Nat) {R:Type} (fin:AV K->List (Ob K)->Option R) (e:Ex) (st:St K):Option R:=
 match e with
 | .exit _=>none
 |_=>match resV cx fn st with
  |some v0=>let v:=ana cx.aBT v0
   cond st.ok (cond fz (match ayv cx.mv n0 (qg (xB st.H (hands v)) v) (xB st.H (hands v)) with
    |some (v',H')=>fin v' H'
    |none=>none) (match ayv cx.mv n0 (Zq cx.deep st.H cx.rsl v).1 (Zq cx.deep st.H cx.rsl v).2 with
    |some (v',H')=>fin v' H'
    |none=>none)) none
  |none=>none
def aBS (cx:Cx K) (fz:Bool) (fn:Func) (args:List (AV K)) (H:List (Ob K)) {R:Type} (fin:AV K->List (Ob K)->Option R):Option R:=
 match fn.body with
 |some c=>wI cx c ⟨args++List.replicate (fn.ntmps-args.length) .any,H,true⟩ (aDO cx fz fn H.length fin)
 |none=>none
structure aC7 (P:Program) (f:FuncId) (fn:Func):Prop where
 get:P.funcs[f]? =some fn
 name:(fn.name== "runtime.NumGoroutine")=false
theorem Zr {D:lG K} (dp:K.U->Bool):∀(css:List (List (Option K.U))) (l:List (AV K)) (H:List (Ob K)) (ρ:List Value) (vs:List Value),aO D ρ S w H->dM D ρ S w l vs->ajC D S w H ρ vs (tK dp H css l)
 | [],l,H,ρ,vs,hs,hr=>⟨ρ,by simpa [tK] using hs,by simpa [tK] using hr,by simpa [tK] using Step.refl,fun _ _ h=>h,by simp[tK],fun _ _ h=>by simpa [tK] using h⟩
 |cs::css,[],H,ρ,vs,hs,hr=>⟨ρ,by simpa [tK] using hs,by simpa [tK] using hr,by simpa [tK] using Step.refl,fun _ _ h=>h,by simp[tK],fun _ _ h=>by simpa [tK] using h⟩
 |cs::css,v::r,H,ρ,vs,hs,hr=>by
  obtain ⟨u,t,rfl,h1,h2⟩:=hr.uo;have fin:∀(v':AV K) (p:List (AV K)×List (Ob K)) (us:List Value),(∀ρ',dM D ρ' S w p.1 us->Rep D ρ' S w v' u)->ajC D S w H ρ us p->ajC D S w H ρ (u::t) (v'::(tK dp p.2 css r).1,(tK dp p.2 css r).2):=fun v' p us hv hp=>by
   obtain ⟨ρ1,g1,g2,g3,g4,g5,g6⟩:=hp;obtain ⟨ρ2,k1,k2,k3,k4,k5,k6⟩:=Zr dp css r p.2 ρ1 t g1 (h2.mono (fun _ h=>h) (fun _ _=>rfl) g4)
   exact ⟨ρ2,k1, .cons ((hv ρ1 g2).mono (fun _ h=>h) (fun _ _=>rfl) k4) k2,g3.trans (k3.weaken g5),fun h r hr=>k4 h r (g4 h r hr),Nat.le_trans g5 k5,fun h o ho=>k6 h o (g6 h o ho)⟩
  have one:∀v,Rep D ρ S w v u->tK dp H (cs::css) (v::r)=((thaw dp H cs [v]).1.headD v::(tK dp (thaw dp H cs [v]).2 css r).1,(tK dp (thaw dp H cs [v]).2 css r).2)->ajC D S w H ρ (u::t) (tK dp H (cs::css) (v::r)):=fun v h1 e=>by
   rw[e];refine fin _ _ [u] (fun ρ' hr'=> ?_) (BR dp cs [v] H ρ [u] hs (.cons h1 .nil))
   generalize hq:(thaw dp H cs [v]).1=q at hr'
   cases q with
   |nil=>have:=hr'.1;simp at this
   |cons x y=>exact hr'.head
  cases v with
  |agg l=>
   cases h1 with
   |agg hl hh=>
    have e:tK dp H (cs::css) (.agg l::r)=(.agg (thaw dp H cs l).1::(tK dp (thaw dp H cs l).2 css r).1,(tK dp (thaw dp H cs l).2 css r).2):=rfl;rw[e];exact fin _ _ _ (fun ρ' hr'=> .agg hr'.1 hr'.2) (BR dp cs l H ρ _ hs ⟨hl,hh⟩)
  |_=>exact one _ h1 rfl
theorem awe {D:lG K} (dp:K.U->Bool) (cs:List (List (Option K.U))) (v:AV K) (hs:aO D ρ S w H) {u:Value} (hr:Rep D ρ S w v u):
 ∃ρ',aO D ρ' S w (Zq dp H cs v).2 /\ Rep D ρ' S w (Zq dp H cs v).1 u /\ Step D H.length ρ S H w ρ' S (Zq dp H cs v).2 w /\ H.length<=(Zq dp H cs v).2.length:=by
 have one:∀v,Rep D ρ S w v u->Zq dp H cs v=((tK dp H cs [v]).1.headD v,(tK dp H cs [v]).2)->∃ρ',aO D ρ' S w (Zq dp H cs v).2 /\ Rep D ρ' S w (Zq dp H cs v).1 u /\ Step D H.length ρ S H w ρ' S (Zq dp H cs v).2 w /\ H.length<=(Zq dp H cs v).2.length:=fun v hr e=>by
  rw[e];obtain ⟨ρ',g1,g2,g3,g4,g5,g6⟩:=Zr dp cs [v] H ρ [u] hs (.cons hr .nil);refine ⟨ρ',g1, ?_,g3,g5⟩
  generalize hq:(tK dp H cs [v]).1=q at g2
  cases q with
  |nil=>have:=g2.1;simp at this
  |cons x y=>exact g2.head
 cases v with
 |nS l=>
  cases hr with
  |nS hl hh=>
   obtain ⟨ρ',g1,g2,g3,g4,g5,g6⟩:=Zr dp cs l H ρ _ hs ⟨hl,hh⟩;exact ⟨ρ',g1, .nS g2.1 g2.2,g3,g5⟩
 |_=>exact one _ hr rfl
theorem axo {cx:Cx K} (hD:dL cx.D) {fz:Bool} {fn:Func} {n0:Nat} {R:Type} {fin:AV K->List (Ob K)->Option R} {e:Ex} {st:St K} {r:R} (h:aDO cx fz fn n0 fin e st=some r):
 st.ok=true /\ (∀i,e≠ .exit i) /\ ∃v v' H',resV cx fn st=some v /\ fin v' H'=some r /\ ∀ρ S w,n0<=st.H.length->aO cx.D ρ S w st.H->∀u,Rep cx.D ρ S w v u->∃ρ' S',aO cx.D ρ' S' w H' /\ Rep cx.D ρ' S' w v' u /\ Step cx.D n0 ρ S st.H w ρ' S' H' w:=by
 have key:∀(v0:AV K) (H0:List (Ob K)) v' H',ayv cx.mv n0 v0 H0=some (v',H')->∀ρ S w,n0<=H0.length->aO cx.D ρ S w H0->∀u,Rep cx.D ρ S w v0 u->∃ρ',aO cx.D ρ' S w H' /\ Rep cx.D ρ' S w v' u /\ Step cx.D n0 ρ S H0 w ρ' S H' w:=fun v0 H0 v' H' hp ρ S w hn hs u hr=>by
  unfold ayv aBb at hp;split at hp
  ·rename_i hk
   simp only[Bool.and_eq_true,decide_eq_true_eq] at hk;split at hp
   ·rename_i v'' H1 hv' hH'
    simp only[Option.some.injEq,Prod.mk.injEq] at hp;obtain ⟨rfl,rfl⟩:=hp;obtain ⟨s1,s2,s3,s4⟩:=awf hD hs hn hk.1 hk.2 hH';exact ⟨_,s1,CG hD s3 _ _ u hv' hr,s2⟩
   ·cases hp
  ·cases hp
 unfold aDO at h;split at h
 ·cases h
 ·rename_i hne
  split at h
  ·rename_i v0 hv0
   dsimp only at h
   generalize hv:ana cx.aBT v0=v at h
   have fgt:∀{ρ S w} {u:Value},Rep cx.D ρ S w v0 u->Rep cx.D ρ S w v u:=fun hr=>by rw[<-hv];exact arA _ _ _ hr
   cases hok:st.ok with
   |false=>rw[hok] at h;cases h
   |true=>
    rw[hok] at h;simp only[cond_true] at h;refine ⟨rfl,hne, ?_⟩
    cases fz with
    |false=>
     simp only[cond_false] at h;split at h
     ·rename_i v' H' hp
      exact ⟨v0,v',H',hv0,h,fun ρ S w hn hs u hr0=>by
       have hr:=fgt hr0;obtain ⟨ρ1,t1,t2,t3,t4⟩:=awe cx.deep cx.rsl v hs hr;obtain ⟨ρ',a,b,c⟩:=key _ _ _ _ hp ρ1 S w (Nat.le_trans hn t4) t1 u t2;exact ⟨ρ',S,a,b,(t3.weaken hn).trans c⟩⟩
     ·cases h
    |true=>
     simp only[cond_true] at h;split at h
     ·rename_i v' H' hp
      exact ⟨v0,v',H',hv0,h,fun ρ S w hn hs u hr0=>by
       have hr:=fgt hr0;obtain ⟨S1,g1,g2,g3⟩:=SQ (n0:=n0) (hands v) hs;obtain ⟨ρ',a,b,c⟩:=key _ _ _ _ hp ρ S1 w (by omega) g1 u (qf g1 _ _ (hr.mono g2.s1 (fun _ _=>rfl) (fun _ _ h=>h)))
       exact ⟨ρ',S1,a,b,g2.trans c⟩⟩
     ·cases h
  ·cases h
theorem axp {cx:Cx K} (hD:dL cx.D) (hc:aG cx) (hm:cx.P.follows .mixedOrders=true) {fz:Bool} {f:FuncId} {fn:Func} (hf:aC7 cx.P f fn) (hl:∀c,fn.body=some c->qR cx c)
 {args:List (AV K)} {R:Type} {fin:AV K->List (Ob K)->Option R} {r:R} (h:aBS cx fz fn args H fin=some r):∃v H',fin v H'=some r /\ RC cx.D cx.P f args H v H':=by
 unfold aBS at h;split at h
 ·rename_i c hb
  obtain ⟨e,st,h1, -,h3⟩:=qh hD hc hm c (hl c hb) _ _ _ h;obtain ⟨hok,hne,v,v',H',hv,hr,hfin⟩:=axo hD h1;refine ⟨v',H',hr,⟨fn,hf.get,hf.name,by rw[hb];rfl⟩,fun ρ S w vals hs ha=> ?_⟩
  have h0:kF (args++List.replicate (fn.ntmps-args.length) (AV.any:AV K)):=fun t g b y e=>by
   rcases Nat.lt_or_ge t args.length with hlt |hge
   ·rw[List.getElem?_append_left hlt] at e
    obtain ⟨x, -,hx⟩:=ha.get e
    cases hx
   ·rw[List.getElem?_append_right hge,List.getElem?_replicate] at e
    split at e<;>cases e
  obtain ⟨n1,htr⟩:=h3 hok h0;refine calls_of_wp hf.get hb ?_;have fZ:Sat cx ρ S {tmps:=vals.toArray++Array.replicate (fn.ntmps-vals.toArray.size) undef,defers:=[]} w ⟨args++List.replicate (fn.ntmps-args.length) .any,H,true⟩:=⟨hs,⟨by simp[ha.1],fun t v x h1 h2=> .Ah (by
   rcases Nat.lt_or_ge t args.length with hlt |hge
   ·rw[List.getElem?_append_left hlt] at h1
    rw[Array.getElem?_append_left (by simpa [<-ha.1] using hlt)] at h2
    exact ha.2 t v x h1 (by simpa using h2)
   ·rw[List.getElem?_append_right hge,List.getElem?_replicate] at h1
    split at h1
    ·simp at h1;subst h1;exact .any x
    ·cases h1)⟩,rfl⟩
  refine wp_mono (htr H.length ρ S _ w (Nat.le_refl _) fZ) ?_
  rintro e' a' w' ⟨rfl,hn,ρ1,S1,rJ,hst1⟩
  obtain ⟨u,hu,hr1⟩:=axq hD n1 rJ hv;have aBk:∃u' ρ' S',Ending.returned u= .returned u' /\ aO cx.D ρ' S' w' H' /\ Rep cx.D ρ' S' w' v' u' /\ Step cx.D H.length ρ S H w ρ' S' H' w':=by
   obtain ⟨ρ2,S2,q1,q2,q3⟩:=hfin ρ1 S1 w' hn rJ.heap u hr1;exact ⟨u,ρ2,S2,rfl,q1,q2,hst1.trans q3⟩
  cases e with
  |exit i=>exact absurd rfl (hne i)
  |normal=>exact ⟨rJ.defers,u,hu,aBk⟩
  |ret=>exact ⟨rJ.defers,u,hu,aBk⟩
 ·cases h
structure bC (K:Gf) where
 f:FuncId
 sh:ZC K
 R:Type
 run:sh.T->Option R
 dflt:R
 out:R->AV K×List (Ob K)
def bC.Ok (D:lG K) (P:Program) (c:bC K):Prop:=∀x r,c.run x=some r->RC D P c.f (c.sh.ain D x) (c.sh.Xz D x) (c.out r).1 (c.out r).2
def callOf (D:lG K):List (bC K)->FuncId->List (AV K)->List (Ob K)->Option (AV K×List (Ob K)×Bool)
 | [],_,_,_=>none
 |c::l,f,args,H=>cond (Nat.beq c.f f) (match c.sh.dec D args H with
  |some x=>some ((c.out ((c.run x).getD c.dflt)).1,(c.out ((c.run x).getD c.dflt)).2,(c.run x).isSome)
  |none=>callOf D l f args H) (callOf D l f args H)
theorem RC.weak {D:lG K} {P:Program} {f:FuncId} {args args':List (AV K)} {r:AV K} {Ho:List (Ob K)} (hw:Wk D args H args' H') (h:RC D P f args' H' r Ho):RC D P f args H r Ho:=by
 refine ⟨h.1,fun ρ S w vals hs ha=>(h.2 ρ S w vals (hw.heap _ _ _ hs) (hw.aDP _ _ _ _ ha)).mono ?_⟩
 rintro e w' ⟨u,ρ',S',rfl,h1,h2,h3⟩
 rw[hw.len] at h3;exact ⟨u,ρ',S',rfl,h1,h2,hw.step.trans h3⟩
theorem ai {D:lG K} (hD:dL D) {P:Program}:∀(l:List (bC K)),(∀c∈l,c.Ok D P)->∀f args H r H',callOf D l f args H=some (r,H',true)->RC D P f args H r H'
 | [],_,f,args,H,r,H',h=>by simp[callOf] at h
 |c::l,hl,f,args,H,r,H',h=>by
  have ih:=ai hD l (fun c hc=>hl c (by simp[hc])) f args H r H'
  unfold callOf at h
  cases hb:Nat.beq c.f f with
  |false=>rw[hb] at h;exact ih h
  |true=>
   rw[hb] at h;have hf:c.f=f:=Nat.eq_of_beq_eq_true hb;simp only[cond_true] at h;split at h
   ·rename_i x hx
    simp only[Option.some.injEq,Prod.mk.injEq] at h;obtain ⟨h1,h2,h3⟩:=h;obtain ⟨y,hy⟩:=Option.isSome_iff_exists.1 h3;rw[hy] at h1 h2;simp only[Option.getD_some] at h1 h2;have:=hl c (by simp) x y hy
    rw[h1,h2,hf] at this;exact this.weak (ZC.apL hD hx)
   ·exact ih h
def bC.frz (D:lG K) (c:bC K):bC K:={c with out:=fun r=>(Rn D (c.out r).2 (c.out r).1,[])}
theorem bC.aC6 {D:lG K} (hD:dL D) {P:Program} {c:bC K} (h:c.Ok D P) (h0:c.sh.os=[]) (hcl:∀r,(Rn D (c.out r).2 (c.out r).1).closed=true):(c.frz D).Ok D P:=by
 intro x r hr;have hH:c.sh.Xz D x=[]:=by
  unfold ZC.Xz;have:∀(l:List (iY K)) (y:iY.Ts l),l=[]->iY.encs D l y=[]:=fun l y e=>by subst e;rfl
  exact this _ _ h0
 obtain ⟨h1,h2⟩:=h x r hr;refine ⟨h1,fun ρ S w vals hs ha=>(h2 ρ S w vals hs ha).mono ?_⟩
 rintro e w' ⟨u,ρ',S',rfl,g1,g2,g3⟩
 show ∃u_1 ρ' S',Ending.returned u= .returned u_1 /\ aO D ρ' S' w' ([]:List (Ob K)) /\ Rep D ρ' S' w' (Rn D (c.out r).2 (c.out r).1) u_1 /\ Step D (c.sh.Xz D x).length ρ S (c.sh.Xz D x) w ρ' S' ([]:List (Ob K)) w'
 change aO D ρ S w (c.sh.Xz D x) at hs;rw[hH] at g3 hs ⊢;have hρ:ρ=[]:=by have:=hs.len;simpa using this
 refine ⟨u,[],fun b=>S' b \/ Own D w' ρ' (c.out r).2 b,rfl,⟨rfl,fun _ _ _ h=>by simp at h,fun _ _ _ _ _ _ _ h=>by simp at h,fun b ⟨_,_,_,h,_⟩=>by simp at h,fun b hb=>hb.elim (g1.slt b) fun h=>(g1.lt b h).1,D.base.mono (fun _ h=> .inl h) (fun _ _=>rfl) g1.base⟩,
  (apj hD g1 _ _ g2).closed hD (hcl r),⟨g3.os,g3.tape,g3.output,g3.size,g3.old,fun b ⟨_,_,_,h,_⟩=>by simp at h,fun b hb=> .inl (g3.s1 b hb),fun b hb=> ?_,fun h hh=>by simp at hh⟩⟩
 rcases hb with hb |hb
 ·exact g3.s2 b hb
 ·exact .inr (g3.own b hb)
structure azQ (K:Gf) (D:lG K) (R:Type) where
 sh:ZC K
 conv:sh.T->R
def azQ.fin {D:lG K} {R:Type} (d:azQ K D R) (v:AV K) (H:List (Ob K)):Option R:=match d.sh.dec D [v] H with
 |some x=>some (d.conv x)
 |none=>none
theorem uA {cx:Cx K} (hD:dL cx.D) (hc:aG cx) (hm:cx.P.follows .mixedOrders=true) {c:bC K} {fz:Bool} {fn:Func} (hf:aC7 cx.P c.f fn) (hl:∀b,fn.body=some b->qR cx b)
 (d:azQ K cx.D c.R) (ho:∀x,([(c.out (d.conv x)).1],(c.out (d.conv x)).2)=(d.sh.ain cx.D x,d.sh.Xz cx.D x)) (he:∀x,aBS cx fz fn (c.sh.ain cx.D x) (c.sh.Xz cx.D x) d.fin=c.run x):c.Ok cx.D cx.P:=by
 intro x r hr;rw[<-he x] at hr;obtain ⟨v,H',h1,h2⟩:=axp hD hc hm hf hl hr;unfold azQ.fin at h1;split at h1
 ·rename_i y hy
  simp only[Option.some.injEq] at h1;have hw:=ZC.apL hD hy;have:=ho y;simp only[Prod.mk.injEq] at this;rw[<-this.1,<-this.2] at hw;rw[h1] at hw;refine ⟨h2.1,fun ρ S w vals hs ha=>(h2.2 ρ S w vals hs ha).mono ?_⟩
  rintro e w' ⟨u,ρ',S',rfl,g1,g2,g3⟩
  have:=(hw.aDP _ _ _ [u] (.cons g2 .nil)).head;exact ⟨u,ρ',S',rfl,hw.heap _ _ _ g1,this,g3.trans hw.step⟩
 ·cases h1
def apM (kp:Bool):Nat->List (Ob K)->List (Option Nat)×List (Option Nat)
 |_,[]=>([],[])
 |i,o::r=>match apM kp (i+1) r with
  |(a,b)=>match o with
   | .arr ..=>cond kp (some i::a,b) (none::a,some i::b)
   | .tree ..=>cond kp (some i::a,b) (none::a,some i::b)
   |_=>(some i::a,b)
def ayy (kp:Bool) (n n0:Nat) (ins:List Nat) (vals:List (AV K)) (Hi:List (Ob K)):Option (St K):=
 match atS n0 ((apM kp 0 Hi).1++(apM kp 0 Hi).2) ins ⟨gV (List.replicate n .any) ins vals,Hi,true⟩ with
 |some st=>aea n0 ins st
 |none=>none
def U2 (st:St K) (ts:List Nat):List (AV K):=ts.map fun t=>st.tm.getD t .any
def dn (D:lG K) (kp:Bool) (n n0:Nat) (ins outs:List Nat) (sh:ZC K) {Y:Type} (run:sh.T->Option Y) (out:Y->{R:Type}->(Ex->List (AV K)->List (Ob K)->R)->R):cZ K:={
 n:=n
 ins:=ins
 outs:=outs
 run vals Hi k:=cond (Nat.beq Hi.length n0) (match ayy kp n n0 ins vals Hi with
  |some st=>match sh.dec D (U2 st ins) st.H with
   |some x=>match run x with
    |some y=>out y k
    |none=>none
   |none=>none
  |none=>none) none}
def ayz (cx:Cx K) (n n0:Nat) (ins outs:List Nat) (sh:ZC K) {Y:Type} (next:sh.T->Option Y) (fin:Ex->List (AV K)->List (Ob K)->Option Y) (e:Ex) (s:St K):Option Y:=
 cond s.ok (cond (Nat.beq s.tm.length n) (match e with
  | .normal=>match aea n0 ins s with
    |some s'=>match sh.dec cx.D (U2 s' ins) s'.H with
     |some x=>next x
     |none=>none
    |none=>none
  |e=>match aea n0 outs s with
   |some s'=>fin e (U2 s' outs) s'.H
   |none=>none) none) none
def ajD (D:lG K) (n:Nat) (ins:List Nat) (sh:ZC K) (x:sh.T):St K:=⟨gV (List.replicate n .any) ins (sh.ain D x),sh.Xz D x,true⟩
structure dm (K:Gf) (Y:Type) where
 e:Ex
 sh:ZC K
 conv:sh.T->Y
def Ex.same :Ex->Ex->Bool
 | .normal, .normal=>true
 | .exit a, .exit b=>Nat.beq a b
 | .ret, .ret=>true
 |_,_=>false
theorem Ex.same_eq {a b:Ex} (h:Ex.same a b=true):a=b:=by
 cases a<;>cases b<;>simp only[Ex.same] at h<;>first |rfl |cases h |(rw[Nat.eq_of_beq_eq_true h])
def ag4 (D:lG K) {Y:Type}:List (dm K Y)->Ex->List (AV K)->List (Ob K)->Option Y
 | [],_,_,_=>none
 |d::l,e,vs,H=>cond (Ex.same d.e e) (match d.sh.dec D vs H with
  |some x=>some (d.conv x)
  |none=>none) (ag4 D l e vs H)
theorem ak3 {D:lG K}:∀(l:List (Sh K)) (vs:List (AV K)) (x:Sh.Ts l),Sh.xA D l vs=some x->vs.length=l.length
 | [],vs,x,h=>by
   cases vs with
   |nil=>rfl
   |cons v r=>unfold Sh.xA at h;cases h
 |s::r,vs,x,h=>by
  cases vs with
  |nil=>unfold Sh.xA at h;cases h
  |cons v l=>
   unfold Sh.xA at h;split at h
   ·rename_i a b h1 h2;simp only[List.length_cons];rw[ak3 r l b h2]
   ·cases h
theorem Zb {D:lG K}:∀(l:List (Sh K)) (x:Sh.Ts l),(Sh.encs D l x).length=l.length
 | [],x=>rfl
 |s::r,x=>by simp only[Sh.encs,List.length_cons];rw[Zb r]
theorem F8 {D:lG K} {sh:ZC K} {vs:List (AV K)} {x:sh.T} (h:sh.dec D vs H=some x):(sh.ain D x).length=vs.length:=by
 unfold ZC.dec at h;split at h
 ·rename_i a b h1 h2
  unfold ZC.ain;rw[Zb,ak3 _ _ _ h1]
 ·cases h
theorem Ti {D:lG K} (hD:dL D) {Y:Type} {out:Y->{R:Type}->(Ex->List (AV K)->List (Ob K)->R)->R}:∀(l:List (dm K Y)),(∀d∈l,d.e≠ .normal /\ ∀x (R:Type) (k:Ex->List (AV K)->List (Ob K)->R),out (d.conv x) k=k d.e (d.sh.ain D x) (d.sh.Xz D x))->
 ∀e vs H y,ag4 D l e vs H=some y->e≠ .normal /\ ∃vs' H',(∀(R:Type) (k:Ex->List (AV K)->List (Ob K)->R),out y k=k e vs' H') /\ Wk D vs H vs' H' /\ vs'.length=vs.length
 | [],_,e,vs,H,y,h=>by simp[ag4] at h
 |d::l,hl,e,vs,H,y,h=>by
  unfold ag4 at h
  cases hs:Ex.same d.e e with
  |false=>rw[hs] at h;exact Ti hD l (fun d hd=>hl d (by simp[hd])) e vs H y h
  |true=>
   rw[hs] at h;have he:=Ex.same_eq hs;simp only[cond_true] at h;split at h
   ·rename_i x hx
    simp only[Option.some.injEq] at h;subst h;obtain ⟨h1,h2⟩:=hl d (by simp)
    rw[he] at h1 h2;exact ⟨h1,_,_,fun R k=>h2 x R k,ZC.apL hD hx,F8 hx⟩
   ·cases h
theorem retag {cx:Cx K} {n0:Nat} {st:St K} {ts:List Nat} {n:Nat} (hn:st.tm.length=n) (h0:kF st.tm) {vs':List (AV K)} (hw:Wk cx.D (U2 st ts) st.H vs' H') (hlen:vs'.length=ts.length):
 Goes cx n0 st ⟨gV (List.replicate n .any) ts vs',H',st.ok⟩:=by
 intro ρ S a w hn0 fZ;refine ⟨by show n0<=H'.length;rw[hw.len];exact hn0,ρ,S,⟨hw.heap _ _ _ fZ.heap, ?_,fZ.defers⟩,hw.step⟩
 have hsz:a.tmps.size=n:=by rw[<-hn];exact fZ.slots.len.symm
 have hrep:∀t,Rep cx.D ρ S w (st.tm.getD t .any) (a.tmps.getD t undef):=fun t=>by
  rw[List.getD_eq_getElem?_getD,Array.getD_eq_getD_getElem?]
  cases hg:st.tm[t]? with
  |none=>exact .any _
  |some v=>
   obtain ⟨x,hx, -⟩:=fZ.slots.get hg;rw[hx];exact fZ.slots.rep h0 hg hx
 have hus:dM cx.D ρ S w (U2 st ts) (ts.map fun t=>a.tmps.getD t undef):=⟨by simp[U2],fun i v x h1 h2=>by
  simp only[U2,List.getElem?_map,Option.map_eq_some_iff] at h1 h2;obtain ⟨t,e1,rfl⟩:=h1;obtain ⟨t',e2,rfl⟩:=h2;rw[e1] at e2;simp at e2;subst e2;exact hrep t⟩
 have aFl:=hw.aDP _ _ _ _ hus;refine II hsz fun i t v x h1 h2 h3=>aFl.2 i v x h2 ?_
 simp only[List.getElem?_map,h1,Option.map_some];rw[Array.getD_eq_getD_getElem?,h3];rfl
theorem apN {D:lG K}:∀(l:List (Sh K)) (x:Sh.Ts l) (i:Nat) (v:AV K),(Sh.encs D l x)[i]? =some v->v.EP=false
 | [],x,i,v,h=>by simp[Sh.encs] at h
 |s::r,x,i,v,h=>by
  cases i with
  |zero=>
   simp only[Sh.encs,List.getElem?_cons_zero,Option.some.injEq] at h;subst h
   cases s<;>simp only[Sh.enc]<;>rfl
  |succ i=>exact apN r x.2 i v (by simpa [Sh.encs] using h)
theorem axr {n:Nat} {ds:List Nat} {l:List (AV K)} (h:∀(i:Nat) v,l[i]? =some v->v.EP=false):kF (gV (List.replicate n .any) ds l):=fun t g b v e=>by
 rcases CQ ds l _ t _ e with h1 |⟨i, -,h2⟩
 ·rw[List.getElem?_replicate] at h1;split at h1<;>cases h1
 ·have:=h i _ h2;simp[AV.EP] at this
theorem apO {n0:Nat} {src:List (Option Nat)} {keep:List Nat} {st st':St K} (h:atS n0 src keep st=some st'):st'.tm.length=st.tm.length:=by
 unfold atS at h;split at h
 ·split at h
  ·simp only[Option.some.injEq] at h;subst h
   simp[zC]
  ·cases h
 ·cases h
theorem Tr.goes {cx:Cx K} {n0:Nat} {c:Code} {st st1 st2:St K} {e:Ex} (h:Tr cx n0 c st e st1) (g:Goes cx n0 st1 st2):Tr cx n0 c st e st2:=fun ρ S a w hn fZ=>by
 refine wp_mono (h ρ S a w hn fZ) ?_
 rintro e' a' w' ⟨he,hn1,ρ1,S1,rJ,hst1⟩
 obtain ⟨hn2,ρ2,S2,av4,hst2⟩:=g ρ1 S1 a' w' hn1 rJ;exact ⟨he,hn2,ρ2,S2,av4,hst1.trans hst2⟩
section
variable {cx :Cx K} (hD:dL cx.D) (hc:aG cx) (hm:cx.P.follows .mixedOrders=true) {c:Code} (hl:qR cx c) {n n0:Nat} {ins outs:List Nat} {sh:ZC K} {Y:Type} {run:Nat->sh.T->Option Y}
 {di:List (dm K Y)} {out:Y->{R:Type}->(Ex->List (AV K)->List (Ob K)->R)->R}
 (h0:∀x,run 0 x=none) (hs:∀m x,wI cx c (ajD cx.D n ins sh x) (ayz cx n n0 ins outs sh (run m) (ag4 cx.D di))=run (m+1) x)
 (hx:∀d∈di,d.e≠ .normal /\ ∀x (R:Type) (k:Ex->List (AV K)->List (Ob K)->R),out (d.conv x) k=k d.e (d.sh.ain cx.D x) (d.sh.Xz cx.D x))
include hD hc hm hl h0 hs hx
theorem ag5 {y:Y}:∀(m:Nat) (x:sh.T),run m x=some y->∃e vs Ho,(∀(R:Type) (k:Ex->List (AV K)->List (Ob K)->R),out y k=k e vs Ho) /\
 ∀(ρ0:List Value) (S0:Nat->Prop) (H0:List (Ob K)) (w0:World) (ρ:List Value) (S:Nat->Prop) (a:Act) (w:World),n0<=(ajD cx.D n ins sh x).H.length->Sat cx ρ S a w (ajD cx.D n ins sh x)->Step cx.D n0 ρ0 S0 H0 w0 ρ S (ajD cx.D n ins sh x).H w->
  Code.rounds cx.P c (fun e' a' w'=>e'=e.MB /\ n0<=Ho.length /\ ∃ρ' S',Sat cx ρ' S' a' w' ⟨gV (List.replicate n .any) outs vs,Ho,true⟩ /\ Step cx.D n0 ρ0 S0 H0 w0 ρ' S' Ho w') m a w
 |0,x,h=>by rw[h0] at h;cases h
 |m+1,x,h=>by
  rw[<-hs m x] at h;obtain ⟨e,s,h1,h2,h3⟩:=qh hD hc hm c hl _ _ _ h;unfold ayz at h1;have hno:kF (ajD cx.D n ins sh x).tm:=axr (apN _ _)
  cases hok:s.ok with
  |false=>rw[hok] at h1;cases h1
  |true=>
   rw[hok] at h1;simp only[cond_true] at h1;obtain ⟨n1,htr⟩:=h3 hok hno
   cases hlen:Nat.beq s.tm.length n with
   |false=>rw[hlen] at h1;cases h1
   |true=>
   rw[hlen] at h1;simp only[cond_true] at h1;have hsn:s.tm.length=n:=Nat.eq_of_beq_eq_true hlen;have key:∀keep s' vs' H'',aea n0 keep s=some s'->Wk cx.D (U2 s' keep) s'.H vs' H''->vs'.length=keep.length->Tr cx n0 c (ajD cx.D n ins sh x) e ⟨gV (List.replicate n .any) keep vs',H'',true⟩:=fun keep s' vs' H'' hn hw hvl=>by
    have hr:atS n0 ((reach s.H 64 (List.range n0++dD (keep.map fun t=>s.tm.getD t .any)) []).map some) keep s=some s':=hn
    obtain ⟨hk1,g1,g2⟩:=Z4 (cx:=cx) hD hr;have:=(htr n0).goes ((g2 n1).trans (retag ((apO hr).trans hsn) g1 hw hvl));rw[hk1,hok] at this;exact this
   cases e with
   |normal=>
    dsimp only at h1;split at h1
    ·rename_i s' hn
     split at h1
     ·rename_i x' hx'
      obtain ⟨e2,vs,Ho,q1,q2⟩:=ag5 m x' h1;refine ⟨e2,vs,Ho,q1,fun ρ0 S0 H0 w0 ρ S a w hn0 fZ hst=> ?_⟩
      rw[rounds_succ];refine wp_mono (key ins s' _ _ hn (ZC.apL hD hx') (by rw[F8 hx'];simp[U2]) ρ S a w hn0 fZ) ?_
      rintro e' a' w' ⟨rfl,hn1,ρ1,S1,rJ,hst1⟩
      exact q2 ρ0 S0 H0 w0 ρ1 S1 a' w' hn1 rJ (hst.trans hst1)
     ·cases h1
    ·cases h1
   |exit id=>
    dsimp only at h1;split at h1
    ·rename_i s' hn
     obtain ⟨g1,vs',H'',g2,g3,g4⟩:=Ti hD di hx _ _ _ _ h1;refine ⟨.exit id,vs',H'',g2,fun ρ0 S0 H0 w0 ρ S a w hn0 fZ hst=> ?_⟩
     rw[rounds_succ];refine wp_mono (key outs s' _ _ hn g3 (by rw[g4];simp[U2]) ρ S a w hn0 fZ) ?_
     rintro e' a' w' ⟨rfl,hn1,ρ1,S1,rJ,hst1⟩
     exact ⟨rfl,hn1,ρ1,S1,rJ,hst.trans hst1⟩
    ·cases h1
   |ret=>
    dsimp only at h1;split at h1
    ·rename_i s' hn
     obtain ⟨g1,vs',H'',g2,g3,g4⟩:=Ti hD di hx _ _ _ _ h1;refine ⟨.ret,vs',H'',g2,fun ρ0 S0 H0 w0 ρ S a w hn0 fZ hst=> ?_⟩
     rw[rounds_succ];refine wp_mono (key outs s' _ _ hn g3 (by rw[g4];simp[U2]) ρ S a w hn0 fZ) ?_
     rintro e' a' w' ⟨rfl,hn1,ρ1,S1,rJ,hst1⟩
     exact ⟨rfl,hn1,ρ1,S1,rJ,hst.trans hst1⟩
    ·cases h1
theorem bn (kp:Bool) (N:Nat):bG cx c (dn cx.D kp n n0 ins outs sh (run N) out):=by
 intro vals Hi R k r h;simp only[dn] at h
 cases hb:Nat.beq Hi.length n0 with
 |false=>rw[hb] at h;cases h
 |true=>
  rw[hb] at h;have hlen:Hi.length=n0:=Nat.eq_of_beq_eq_true hb;simp only[cond_true] at h;split at h
  ·rename_i st hst
   split at h
   ·rename_i x hx1
    split at h
    ·rename_i y hy
     obtain ⟨e,vs,Ho,q1,q2⟩:=ag5 hD hc hm hl h0 hs hx N x hy;rw[q1] at h;refine ⟨e,vs,Ho,h, ?_⟩;unfold ayy at hst;split at hst
     ·rename_i st1 hst1
      have hst':atS n0 ((reach st1.H 64 (List.range n0++dD (ins.map fun t=>st1.tm.getD t .any)) []).map some) ins st1=some st:=hst
      obtain ⟨k1,g1,g2⟩:=Z4 (cx:=cx) hD hst1;obtain ⟨k2,g3,g4⟩:=Z4 (cx:=cx) hD hst';intro ρ S a w hn0 fZ;have hno:kF (gV (List.replicate n (AV.any:AV K)) ins vals):=fun t g b v e=>by
       rcases CQ ins vals _ t _ e with h1 |⟨i,h1, -⟩
       ·rw[List.getElem?_replicate] at h1;split at h1<;>cases h1
       ·unfold atS at hst1
        split at hst1
        ·split at hst1
         ·rename_i ws H1 hv hm1
          obtain ⟨gl,gg⟩:=MH _ _ hv;have hi:i<ws.length:=by rw[gl];simp;exact (List.getElem?_eq_some_iff.1 h1).1
          obtain ⟨v0,q1,q2⟩:=gg i _ (List.getElem?_eq_getElem hi);simp only[List.getElem?_map,h1,Option.map_some,Option.some.injEq] at q1;rw[List.getD_eq_getElem?_getD,e] at q1;simp only[Option.getD_some] at q1;subst q1;simp[reH] at q2
         ·cases hst1
        ·cases hst1
      have hlen1:st1.tm.length=n:=by rw[apO hst1];simp[zC]
      have hlen2:st.tm.length=n:=by rw[apO hst'];exact hlen1
      have hw:=ZC.apL hD hx1;have hr:=retag (cx:=cx) (n0:=n0) hlen2 g3 hw (by rw[F8 hx1];simp[U2])
      have hok:st.ok=true:=by rw[k2,k1]
      rw[hok] at hr;rw[hlen];obtain ⟨hn1,ρ1,S1,rJ,hst2⟩:=((g2 hno).trans ((g4 g1).trans hr)) ρ S a w (by show n0<=Hi.length;omega) fZ
      exact wp_loop_rounds N (q2 ρ S Hi w ρ1 S1 a w hn1 rJ hst2)
     ·cases hst
    ·cases h
   ·cases h
  ·cases h
end
def xE : Code->List Code
 | .loop c=>[c]
 | .seq a b=>xE a++xE b
 | .cond _ a b=>xE a++xE b
 | .block _ c=>xE c
 |_=>[]
def bD (c:Code) (i:Nat):Code:=(xE c).getD i .skip
theorem FH {cx:Cx K}:∀(c:Code),(∀b∈xE c,∀L,cx.loop (keyOf b)=some L->bG cx b L)->qR cx c
 | .loop c,h=>fun L hL=>h c (by simp[xE]) L hL
 | .seq a b,h=>⟨FH a fun x hx=>h x (by simp[xE,hx]),FH b fun x hx=>h x (by simp[xE,hx])⟩
 | .cond _ a b,h=>⟨FH a fun x hx=>h x (by simp[xE,hx]),FH b fun x hx=>h x (by simp[xE,hx])⟩
 | .block _ c,h=>FH c h
 | .skip,_ | .exit _,_ | .ret,_ | .region ..,_ | .scope ..,_ | .rangeFunc ..,_ | .goto ..,_ | .label ..,_ | .refuse ..,_=>trivial
def axs (cx:Cx K) (c:Code):Prop:=∃L,cx.loop (keyOf c)=some L /\ bG cx c L
theorem axs.mk {cx:Cx K} {c:Code} {L:cZ K} (h:cx.loop (keyOf c)=some L) (ho:bG cx c L):axs cx c:=⟨L,h,ho⟩
theorem aP {cx:Cx K} {c:Code} (n:Nat) (hn:(xE c).length=n) (h:∀i,i<n->axs cx (bD c i)):qR cx c:=
 FH c fun b hb L hL=>by
  obtain ⟨i,hi,rfl⟩:=List.getElem_of_mem hb;obtain ⟨L',h1,h2⟩:=h i (by omega)
  have e:bD c i=(xE c)[i]:=by simp[bD,List.getD_eq_getElem?_getD,List.getElem?_eq_getElem hi]
  rw[e] at h1 h2;rw[h1] at hL;simp only[Option.some.injEq] at hL;subst hL;exact h2
theorem ah {cx:Cx K} {c:Code} (hn:(xE c).length=0):qR cx c:=aP 0 hn fun i hi=>absurd hi (Nat.not_lt_zero i)
theorem bQ {p:Nat->Prop} (h:p 0):∀i,i<1->p i:=fun i hi=>by
 have:i=0:=by omega
 subst this;exact h
theorem lt_succ {p:Nat->Prop} {n:Nat} (h:∀i,i<n->p i) (hn:p n):∀i,i<n+1->p i:=fun i hi=>by
 by_cases he:i=n
 ·subst he;exact hn
 ·exact h i (by omega)
def bI (fn:Func):Code:=match fn.body with
 |some c=>c
 |none=> .skip
theorem aV {cx:Cx K} {fn:Func} (h:qR cx (bI fn)):∀c,fn.body=some c->qR cx c:=fun c hc=>by
 have:bI fn=c:=by unfold bI;rw[hc]
 rw[<-this];exact h
theorem aW {α:Type _} {p:α->Prop}:∀c∈([]:List α),p c:=fun c h=>by simp at h
theorem aj {α:Type _} {p:α->Prop} {a:α} {l:List α} (h:p a) (t:∀c∈l,p c):∀c∈a::l,p c:=fun c hc=>by
 rcases List.mem_cons.1 hc with rfl |hc
 ·exact h
 ·exact t c hc
theorem bu {i:Nat}:Ex.exit i≠ .normal:=fun h=>by cases h
theorem dC : Ex.ret≠ .normal:=fun h=>by cases h
theorem qQ {D:lG K} {P:Program} {c:bC K} (h:∀x,c.run x=none):c.Ok D P:=fun x r hr=>by rw[h] at hr;cases hr
theorem apP : ∃n:Nat,2^63<=n:=⟨2^63,Nat.le_refl _⟩
noncomputable def aA :Nat:=Classical.choose apP
theorem bU : 2^63<=aA:=Classical.choose_spec apP
end Go.V
