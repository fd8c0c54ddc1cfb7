/-
  A FUNCTION, A LOOP, by a plain definition that they are shown to be equal to.
-/
import Derived.Test.YtefdfjaifkhphaaGreatDoorXWshape
set_option linter.unusedVariables false
namespace Go.V
open Go
variable {K :yu} {ρ ρ':List Value} {S S':Nat->Prop} {w w':World} {H H':List (Ob K)}
def Jc (dp:K.U->Bool) (H:List (Ob K)) (cs:List (List (Option K.U))):AV K->AV K×List (Ob K)
 | .ik l=>(.ik (mW dp H cs l).1,(mW dp H cs l).2)
 |v=>((mW dp H cs [v]).1.headD v,(mW dp H cs [v]).2)
def forgets : List Bool->List (AV K)->List (AV K)
 | [],vs=>vs
 |_::_,[]=>[]
 |true::r,_::vs=> .any::forgets r vs
 |false::r,v::vs=>v::forgets r vs
def TK : List Bool->AV K->AV K
 | [],v=>v
 |l, .ik vs=> .ik (forgets l vs)
 |true::_,_=> .any
 |false::_,v=>v
theorem Dk {D:iU K}:∀(l:List Bool) (vs:List (AV K)) (us:List Value),bF D ρ S w vs us->bF D ρ S w (forgets l vs) us
 | [],vs,us,h=>by simpa only[forgets] using h
 |_::_,[],us,h=>by simpa only[forgets] using h
 |b::r,v::vs,us,h=>by
  obtain ⟨u,t,rfl,h1,h2⟩:=h.oM
  cases b
  ·exact .cons h1 (Dk r vs t h2)
  ·exact .cons (.any u) (Dk r vs t h2)
theorem Xf {D:iU K} (l:List Bool) (v:AV K) (u:Value) (h:Rep D ρ S w v u):Rep D ρ S w (TK l v) u:=by
 unfold TK;split
 ·exact h
 ·cases h with
  |ik hl hh=>
   have:=Dk l _ _ ⟨hl,hh⟩;exact .ik this.1 this.2
 ·exact .any _
 ·exact h
def agT (cx:Cx K) (fz:Bool) (fn:Func) (n0:Nat) {R:Type} (fin:AV K->List (Ob K)->Option R) (e:Ex) (st:St K):Option R:=
 match e with
 | .exit _=>none
 |_=>match resV cx fn st with
  |some v0=>let v:=TK cx.ahV v0
   cond st.ok (cond fz (match aco cx.mv n0 (ji (pF st.H (hands v)) v) (pF st.H (hands v)) with
    |some (v',H')=>fin v' H'
    |none=>none) (match aco cx.mv n0 (Jc cx.deep st.H cx.KY v).1 (Jc cx.deep st.H cx.KY v).2 with
    |some (v',H')=>fin v' H'
    |none=>none)) none
  |none=>none
def agU (cx:Cx K) (fz:Bool) (fn:Func) (args:List (AV K)) (H:List (Ob K)) {R:Type} (fin:AV K->List (Ob K)->Option R):Option R:=
 match fn.body with
 |some c=>oL cx c ⟨args++List.replicate (fn.ntmps-args.length) .any,H,true⟩ (agT cx fz fn H.length fin)
 |none=>none
structure ah6 (P:Program) (f:FuncId) (fn:Func):Prop where
 get:P.funcs[f]? =some fn
 name:(fn.name== "runtime.NumGoroutine")=false
theorem Jd {D:iU K} (dp:K.U->Bool):∀(css:List (List (Option K.U))) (l:List (AV K)) (H:List (Ob K)) (ρ:List Value) (vs:List Value),ay D ρ S w H->bF D ρ S w l vs->Qk D S w H ρ vs (mW dp H css l)
 | [],l,H,ρ,vs,hs,hr=>⟨ρ,by simpa [mW] using hs,by simpa [mW] using hr,by simpa [mW] using Step.refl,fun _ _ h=>h,by simp[mW],fun _ _ h=>by simpa [mW] using h⟩
 |cs::css,[],H,ρ,vs,hs,hr=>⟨ρ,by simpa [mW] using hs,by simpa [mW] using hr,by simpa [mW] using Step.refl,fun _ _ h=>h,by simp[mW],fun _ _ h=>by simpa [mW] using h⟩
 |cs::css,v::r,H,ρ,vs,hs,hr=>by
  obtain ⟨u,t,rfl,h1,h2⟩:=hr.oM;have fin:∀(v':AV K) (p:List (AV K)×List (Ob K)) (us:List Value),(∀ρ',bF D ρ' S w p.1 us->Rep D ρ' S w v' u)->Qk D S w H ρ us p->Qk D S w H ρ (u::t) (v'::(mW dp p.2 css r).1,(mW dp p.2 css r).2):=fun v' p us hv hp=>by
   obtain ⟨ρ1,g1,g2,g3,g4,g5,g6⟩:=hp;obtain ⟨ρ2,k1,k2,k3,k4,k5,k6⟩:=Jd dp css r p.2 ρ1 t g1 (h2.mono (fun _ h=>h) (fun _ _=>rfl) g4)
   exact ⟨ρ2,k1, .cons ((hv ρ1 g2).mono (fun _ h=>h) (fun _ _=>rfl) k4) k2,g3.trans (k3.weaken g5),fun h r hr=>k4 h r (g4 h r hr),Nat.le_trans g5 k5,fun h o ho=>k6 h o (g6 h o ho)⟩
  have one:∀v,Rep D ρ S w v u->mW dp H (cs::css) (v::r)=((thaw dp H cs [v]).1.headD v::(mW dp (thaw dp H cs [v]).2 css r).1,(mW dp (thaw dp H cs [v]).2 css r).2)->Qk D S w H ρ (u::t) (mW dp H (cs::css) (v::r)):=fun v h1 e=>by
   rw[e];refine fin _ _ [u] (fun ρ' hr'=> ?_) (tV dp cs [v] H ρ [u] hs (.cons h1 .nil))
   generalize hq:(thaw dp H cs [v]).1=q at hr'
   cases q with
   |nil=>have:=hr'.1;simp at this
   |cons x y=>exact hr'.head
  cases v with
  |agg l=>
   cases h1 with
   |agg hl hh=>
    have e:mW dp H (cs::css) (.agg l::r)=(.agg (thaw dp H cs l).1::(mW dp (thaw dp H cs l).2 css r).1,(mW dp (thaw dp H cs l).2 css r).2):=rfl;rw[e];exact fin _ _ _ (fun ρ' hr'=> .agg hr'.1 hr'.2) (tV dp cs l H ρ _ hs ⟨hl,hh⟩)
  |_=>exact one _ h1 rfl
theorem aax {D:iU K} (dp:K.U->Bool) (cs:List (List (Option K.U))) (v:AV K) (hs:ay D ρ S w H) {u:Value} (hr:Rep D ρ S w v u):
 ∃ρ',ay D ρ' S w (Jc dp H cs v).2 /\ Rep D ρ' S w (Jc dp H cs v).1 u /\ Step D H.length ρ S H w ρ' S (Jc dp H cs v).2 w /\ H.length<=(Jc dp H cs v).2.length:=by
 have one:∀v,Rep D ρ S w v u->Jc dp H cs v=((mW dp H cs [v]).1.headD v,(mW dp H cs [v]).2)->∃ρ',ay D ρ' S w (Jc dp H cs v).2 /\ Rep D ρ' S w (Jc dp H cs v).1 u /\ Step D H.length ρ S H w ρ' S (Jc dp H cs v).2 w /\ H.length<=(Jc dp H cs v).2.length:=fun v hr e=>by
  rw[e];obtain ⟨ρ',g1,g2,g3,g4,g5,g6⟩:=Jd dp cs [v] H ρ [u] hs (.cons hr .nil);refine ⟨ρ',g1, ?_,g3,g5⟩
  generalize hq:(mW dp H cs [v]).1=q at g2
  cases q with
  |nil=>have:=g2.1;simp at this
  |cons x y=>exact g2.head
 cases v with
 |ik l=>
  cases hr with
  |ik hl hh=>
   obtain ⟨ρ',g1,g2,g3,g4,g5,g6⟩:=Jd dp cs l H ρ _ hs ⟨hl,hh⟩;exact ⟨ρ',g1, .ik g2.1 g2.2,g3,g5⟩
 |_=>exact one _ hr rfl
theorem abq {cx:Cx K} (hD:bz cx.D) {fz:Bool} {fn:Func} {n0:Nat} {R:Type} {fin:AV K->List (Ob K)->Option R} {e:Ex} {st:St K} {r:R} (h:agT cx fz fn n0 fin e st=some r):
 st.ok=true /\ (∀i,e≠ .exit i) /\ ∃v v' H',resV cx fn st=some v /\ fin v' H'=some r /\ ∀ρ S w,n0<=st.H.length->ay cx.D ρ S w st.H->∀u,Rep cx.D ρ S w v u->∃ρ' S',ay cx.D ρ' S' w H' /\ Rep cx.D ρ' S' w v' u /\ Step cx.D n0 ρ S st.H w ρ' S' H' w:=by
 have key:∀(v0:AV K) (H0:List (Ob K)) v' H',aco cx.mv n0 v0 H0=some (v',H')->∀ρ S w,n0<=H0.length->ay cx.D ρ S w H0->∀u,Rep cx.D ρ S w v0 u->∃ρ',ay cx.D ρ' S w H' /\ Rep cx.D ρ' S w v' u /\ Step cx.D n0 ρ S H0 w ρ' S H' w:=fun v0 H0 v' H' hp ρ S w hn hs u hr=>by
  unfold aco aex at hp;split at hp
  ·rename_i hk
   simp only[Bool.and_eq_true,decide_eq_true_eq] at hk;split at hp
   ·rename_i v'' H1 hv' hH'
    simp only[Option.some.injEq,Prod.mk.injEq] at hp;obtain ⟨rfl,rfl⟩:=hp;obtain ⟨s1,s2,s3,s4⟩:=aay hD hs hn hk.1 hk.2 hH';exact ⟨_,s1,uF hD s3 _ _ u hv' hr,s2⟩
   ·cases hp
  ·cases hp
 unfold agT at h;split at h
 ·cases h
 ·rename_i hne
  split at h
  ·rename_i v0 hv0
   dsimp only at h
   generalize hv:TK cx.ahV v0=v at h
   have fgt:∀{ρ S w} {u:Value},Rep cx.D ρ S w v0 u->Rep cx.D ρ S w v u:=fun hr=>by rw[<-hv];exact Xf _ _ _ hr
   cases hok:st.ok with
   |false=>rw[hok] at h;cases h
   |true=>
    rw[hok] at h;simp only[cond_true] at h;refine ⟨rfl,hne, ?_⟩
    cases fz with
    |false=>
     simp only[cond_false] at h;split at h
     ·rename_i v' H' hp
      exact ⟨v0,v',H',hv0,h,fun ρ S w hn hs u hr0=>by
       have hr:=fgt hr0;obtain ⟨ρ1,t1,t2,t3,t4⟩:=aax cx.deep cx.KY v hs hr;obtain ⟨ρ',a,b,c⟩:=key _ _ _ _ hp ρ1 S w (Nat.le_trans hn t4) t1 u t2;exact ⟨ρ',S,a,b,(t3.weaken hn).trans c⟩⟩
     ·cases h
    |true=>
     simp only[cond_true] at h;split at h
     ·rename_i v' H' hp
      exact ⟨v0,v',H',hv0,h,fun ρ S w hn hs u hr0=>by
       have hr:=fgt hr0;obtain ⟨S1,g1,g2,g3⟩:=FT (n0:=n0) (hands v) hs;obtain ⟨ρ',a,b,c⟩:=key _ _ _ _ hp ρ S1 w (by omega) g1 u (kN g1 _ _ (hr.mono g2.s1 (fun _ _=>rfl) (fun _ _ h=>h)))
       exact ⟨ρ',S1,a,b,g2.trans c⟩⟩
     ·cases h
  ·cases h
theorem abr {cx:Cx K} (hD:bz cx.D) (hc:aG cx) (hm:cx.P.follows .mixedOrders=true) {fz:Bool} {f:FuncId} {fn:Func} (hf:ah6 cx.P f fn) (hl:∀c,fn.body=some c->mX cx c)
 {args:List (AV K)} {R:Type} {fin:AV K->List (Ob K)->Option R} {r:R} (h:agU cx fz fn args H fin=some r):∃v H',fin v H'=some r /\ RC cx.D cx.P f args H v H':=by
 unfold agU at h;split at h
 ·rename_i c hb
  obtain ⟨e,st,h1, -,h3⟩:=kP hD hc hm c (hl c hb) _ _ _ h;obtain ⟨hok,hne,v,v',H',hv,hr,hfin⟩:=abq hD h1;refine ⟨v',H',hr,⟨fn,hf.get,hf.name,by rw[hb];rfl⟩,fun ρ S w vals hs ha=> ?_⟩
  have h0:gu (args++List.replicate (fn.ntmps-args.length) (AV.any:AV K)):=fun t g b y e=>by
   rcases Nat.lt_or_ge t args.length with hlt |hge
   ·rw[List.getElem?_append_left hlt] at e
    obtain ⟨x, -,hx⟩:=ha.get e
    cases hx
   ·rw[List.getElem?_append_right hge,List.getElem?_replicate] at e
    split at e<;>cases e
  obtain ⟨n1,htr⟩:=h3 hok h0;refine calls_of_wp hf.get hb ?_;have dn:Sat cx ρ S {tmps:=vals.toArray++Array.replicate (fn.ntmps-vals.toArray.size) undef,defers:=[]} w ⟨args++List.replicate (fn.ntmps-args.length) .any,H,true⟩:=⟨hs,⟨by simp[ha.1],fun t v x h1 h2=> .rO (by
   rcases Nat.lt_or_ge t args.length with hlt |hge
   ·rw[List.getElem?_append_left hlt] at h1
    rw[Array.getElem?_append_left (by simpa [<-ha.1] using hlt)] at h2
    exact ha.2 t v x h1 (by simpa using h2)
   ·rw[List.getElem?_append_right hge,List.getElem?_replicate] at h1
    split at h1
    ·simp at h1;subst h1;exact .any x
    ·cases h1)⟩,rfl⟩
  refine wp_mono (htr H.length ρ S _ w (Nat.le_refl _) dn) ?_
  rintro e' a' w' ⟨rfl,hn,ρ1,S1,lT,hst1⟩
  obtain ⟨u,hu,hr1⟩:=abt hD n1 lT hv;have aeF:∃u' ρ' S',Ending.returned u= .returned u' /\ ay cx.D ρ' S' w' H' /\ Rep cx.D ρ' S' w' v' u' /\ Step cx.D H.length ρ S H w ρ' S' H' w':=by
   obtain ⟨ρ2,S2,q1,q2,q3⟩:=hfin ρ1 S1 w' hn lT.heap u hr1;exact ⟨u,ρ2,S2,rfl,q1,q2,hst1.trans q3⟩
  cases e with
  |exit i=>exact absurd rfl (hne i)
  |normal=>exact ⟨lT.defers,u,hu,aeF⟩
  |ret=>exact ⟨lT.defers,u,hu,aeF⟩
 ·cases h
structure bI (K:yu) where
 f:FuncId
 sh:gB K
 R:Type
 run:sh.T->Option R
 dflt:R
 out:R->AV K×List (Ob K)
def bI.Ok (D:iU K) (P:Program) (c:bI K):Prop:=∀x r,c.run x=some r->RC D P c.f (c.sh.gW D x) (c.sh.gY D x) (c.out r).1 (c.out r).2
def callOf (D:iU K):List (bI K)->FuncId->List (AV K)->List (Ob K)->Option (AV K×List (Ob K)×Bool)
 | [],_,_,_=>none
 |c::l,f,args,H=>cond (Nat.beq c.f f) (match c.sh.dec D args H with
  |some x=>some ((c.out ((c.run x).getD c.dflt)).1,(c.out ((c.run x).getD c.dflt)).2,(c.run x).isSome)
  |none=>callOf D l f args H) (callOf D l f args H)
theorem RC.weak {D:iU K} {P:Program} {f:FuncId} {args args':List (AV K)} {r:AV K} {Ho:List (Ob K)} (hw:Wk D args H args' H') (h:RC D P f args' H' r Ho):RC D P f args H r Ho:=by
 refine ⟨h.1,fun ρ S w vals hs ha=>(h.2 ρ S w vals (hw.heap _ _ _ hs) (hw.agV _ _ _ _ ha)).mono ?_⟩
 rintro e w' ⟨u,ρ',S',rfl,h1,h2,h3⟩
 rw[hw.len] at h3;exact ⟨u,ρ',S',rfl,h1,h2,hw.step.trans h3⟩
theorem EP {D:iU K} (hD:bz D) {P:Program}:∀(l:List (bI K)),(∀c∈l,c.Ok D P)->∀f args H r H',callOf D l f args H=some (r,H',true)->RC D P f args H r H'
 | [],_,f,args,H,r,H',h=>by simp[callOf] at h
 |c::l,hl,f,args,H,r,H',h=>by
  have ih:=EP hD l (fun c hc=>hl c (by simp[hc])) f args H r H'
  unfold callOf at h
  cases hb:Nat.beq c.f f with
  |false=>rw[hb] at h;exact ih h
  |true=>
   rw[hb] at h;have hf:c.f=f:=Nat.eq_of_beq_eq_true hb;simp only[cond_true] at h;split at h
   ·rename_i x hx
    simp only[Option.some.injEq,Prod.mk.injEq] at h;obtain ⟨h1,h2,h3⟩:=h;obtain ⟨y,hy⟩:=Option.isSome_iff_exists.1 h3;rw[hy] at h1 h2;simp only[Option.getD_some] at h1 h2;have:=hl c (by simp) x y hy
    rw[h1,h2,hf] at this;exact this.weak (gB.VF hD hx)
   ·exact ih h
theorem aB {cx:Cx K} (hD:bz cx.D) (l:List (bI K)) (hl:∀c∈l,c.Ok cx.D cx.P) (he:cx.call=callOf cx.D l:=by exact rfl) (ha:cx.alt=fun _ _ _ _=>none:=by exact rfl) (ho:(fun (R:Type)=>cx.orF (R:=R))=fun (R:Type) (a b:Option R)=>orE a b:=by exact rfl):aG cx:=by
 refine ⟨fun f args H r H' h=> ?_,fun b f args H r H' h=> ?_,fun R a b r h=> ?_⟩
 ·rw[he] at h;exact EP hD l hl f args H r H' h
 ·rw[ha] at h;cases h
 ·have:=congrFun ho R
  rw[this] at h;exact XA h
theorem aaW {cx:Cx K} (hD:bz cx.D) (l la lw:List (bI K)) (hl:∀c∈l,c.Ok cx.D cx.P) (hla:∀c∈la,c.Ok cx.D cx.P) (hlw:∀c∈lw,c.Ok cx.D cx.P) (he:cx.call=callOf cx.D l:=by exact rfl) (ha:cx.alt=fun b=>cond b (callOf cx.D la) (callOf cx.D lw):=by exact rfl) (ho:(fun (R:Type)=>cx.orF (R:=R))=fun (R:Type) (a b:Option R)=>orE a b:=by exact rfl):aG cx:=by
 refine ⟨fun f args H r H' h=> ?_,fun b f args H r H' h=> ?_,fun R a b r h=> ?_⟩
 ·rw[he] at h;exact EP hD l hl f args H r H' h
 ·rw[ha] at h
  cases b
  ·exact EP hD lw hlw f args H r H' h
  ·exact EP hD la hla f args H r H' h
 ·have:=congrFun ho R
  rw[this] at h;exact XA h
def bI.frz (D:iU K) (c:bI K):bI K:={c with out:=fun r=>(FC D (c.out r).2 (c.out r).1,[])}
structure afH (K:yu) (D:iU K) (R:Type) where
 sh:gB K
 conv:sh.T->R
def afH.fin {D:iU K} {R:Type} (d:afH K D R) (v:AV K) (H:List (Ob K)):Option R:=match d.sh.dec D [v] H with
 |some x=>some (d.conv x)
 |none=>none
theorem aW {cx:Cx K} (hD:bz cx.D) (hc:aG cx) (hm:cx.P.follows .mixedOrders=true) {c:bI K} {fz:Bool} {fn:Func} (hf:ah6 cx.P c.f fn) (hl:∀b,fn.body=some b->mX cx b)
 (d:afH K cx.D c.R) (ho:∀x,([(c.out (d.conv x)).1],(c.out (d.conv x)).2)=(d.sh.gW cx.D x,d.sh.gY cx.D x)) (he:∀x,agU cx fz fn (c.sh.gW cx.D x) (c.sh.gY cx.D x) d.fin=c.run x):c.Ok cx.D cx.P:=by
 intro x r hr;rw[<-he x] at hr;obtain ⟨v,H',h1,h2⟩:=abr hD hc hm hf hl hr;unfold afH.fin at h1;split at h1
 ·rename_i y hy
  simp only[Option.some.injEq] at h1;have hw:=gB.VF hD hy;have:=ho y;simp only[Prod.mk.injEq] at this;rw[<-this.1,<-this.2] at hw;rw[h1] at hw;refine ⟨h2.1,fun ρ S w vals hs ha=>(h2.2 ρ S w vals hs ha).mono ?_⟩
  rintro e w' ⟨u,ρ',S',rfl,g1,g2,g3⟩
  have:=(hw.agV _ _ _ [u] (.cons g2 .nil)).head;exact ⟨u,ρ',S',rfl,hw.heap _ _ _ g1,this,g3.trans hw.step⟩
 ·cases h1
def VG (kp:Bool):Nat->List (Ob K)->List (Option Nat)×List (Option Nat)
 |_,[]=>([],[])
 |i,o::r=>match VG kp (i+1) r with
  |(a,b)=>match o with
   | .arr ..=>cond kp (some i::a,b) (none::a,some i::b)
   | .tree ..=>cond kp (some i::a,b) (none::a,some i::b)
   |_=>(some i::a,b)
def acs (kp:Bool) (n n0:Nat) (ins:List Nat) (vals:List (AV K)) (Hi:List (Ob K)):Option (St K):=
 match YH n0 ((VG kp 0 Hi).1++(VG kp 0 Hi).2) ins ⟨dN (List.replicate n .any) ins vals,Hi,true⟩ with
 |some st=>Md n0 ins st
 |none=>none
def G9 (st:St K) (ts:List Nat):List (AV K):=ts.map fun t=>st.tm.getD t .any
def jh (D:iU K) (kp:Bool) (n n0:Nat) (ins outs:List Nat) (sh:gB K) {Y:Type} (run:sh.T->Option Y) (out:Y->{R:Type}->(Ex->List (AV K)->List (Ob K)->R)->R):gZ K:={
 n:=n
 ins:=ins
 outs:=outs
 run vals Hi k:=cond (Nat.beq Hi.length n0) (match acs kp n n0 ins vals Hi with
  |some st=>match sh.dec D (G9 st ins) st.H with
   |some x=>match run x with
    |some y=>out y k
    |none=>none
   |none=>none
  |none=>none) none}
def acu (cx:Cx K) (n n0:Nat) (ins outs:List Nat) (sh:gB K) {Y:Type} (next:sh.T->Option Y) (fin:Ex->List (AV K)->List (Ob K)->Option Y) (e:Ex) (s:St K):Option Y:=
 cond s.ok (cond (Nat.beq s.tm.length n) (match e with
  | .normal=>match Cc cx s with
    |some (b,s1)=>cond b (match Md n0 ins s1 with
     |some s'=>match sh.dec cx.D (G9 s' ins) s'.H with
      |some x=>next x
      |none=>none
     |none=>none) none
    |none=>none
  |e=>match Cc cx s with
   |some (b,s1)=>cond b (match Md n0 outs s1 with
    |some s'=>fin e (G9 s' outs) s'.H
    |none=>none) none
   |none=>none) none) none
def Ql (D:iU K) (n:Nat) (ins:List Nat) (sh:gB K) (x:sh.T):St K:=⟨dN (List.replicate n .any) ins (sh.gW D x),sh.gY D x,true⟩
structure jb (K:yu) (Y:Type) where
 e:Ex
 sh:gB K
 conv:sh.T->Y
def Ex.same :Ex->Ex->Bool
 | .normal, .normal=>true
 | .exit a, .exit b=>Nat.beq a b
 | .ret, .ret=>true
 |_,_=>false
theorem Ex.same_eq {a b:Ex} (h:Ex.same a b=true):a=b:=by
 cases a<;>cases b<;>simp only[Ex.same] at h<;>first |rfl |cases h |(rw[Nat.eq_of_beq_eq_true h])
def OL (D:iU K) {Y:Type}:List (jb K Y)->Ex->List (AV K)->List (Ob K)->Option Y
 | [],_,_,_=>none
 |d::l,e,vs,H=>cond (Ex.same d.e e) (match d.sh.dec D vs H with
  |some x=>some (d.conv x)
  |none=>none) (OL D l e vs H)
theorem Rt {D:iU K}:∀(l:List (Sh K)) (vs:List (AV K)) (x:Sh.Ts l),Sh.pz D l vs=some x->vs.length=l.length
 | [],vs,x,h=>by
   cases vs with
   |nil=>rfl
   |cons v r=>unfold Sh.pz at h;cases h
 |s::r,vs,x,h=>by
  cases vs with
  |nil=>unfold Sh.pz at h;cases h
  |cons v l=>
   unfold Sh.pz at h;split at h
   ·rename_i a b h1 h2;simp only[List.length_cons];rw[Rt r l b h2]
   ·cases h
theorem IQ {D:iU K}:∀(l:List (Sh K)) (x:Sh.Ts l),(Sh.encs D l x).length=l.length
 | [],x=>rfl
 |s::r,x=>by simp only[Sh.encs,List.length_cons];rw[IQ r]
theorem YR {D:iU K} {sh:gB K} {vs:List (AV K)} {x:sh.T} (h:sh.dec D vs H=some x):(sh.gW D x).length=vs.length:=by
 unfold gB.dec at h;split at h
 ·rename_i a b h1 h2
  unfold gB.gW;rw[IQ,Rt _ _ _ h1]
 ·cases h
theorem F6 {D:iU K} (hD:bz D) {Y:Type} {out:Y->{R:Type}->(Ex->List (AV K)->List (Ob K)->R)->R}:∀(l:List (jb K Y)),(∀d∈l,d.e≠ .normal /\ ∀x (R:Type) (k:Ex->List (AV K)->List (Ob K)->R),out (d.conv x) k=k d.e (d.sh.gW D x) (d.sh.gY D x))->
 ∀e vs H y,OL D l e vs H=some y->e≠ .normal /\ ∃vs' H',(∀(R:Type) (k:Ex->List (AV K)->List (Ob K)->R),out y k=k e vs' H') /\ Wk D vs H vs' H' /\ vs'.length=vs.length
 | [],_,e,vs,H,y,h=>by simp[OL] at h
 |d::l,hl,e,vs,H,y,h=>by
  unfold OL at h
  cases hs:Ex.same d.e e with
  |false=>rw[hs] at h;exact F6 hD l (fun d hd=>hl d (by simp[hd])) e vs H y h
  |true=>
   rw[hs] at h;have he:=Ex.same_eq hs;simp only[cond_true] at h;split at h
   ·rename_i x hx
    simp only[Option.some.injEq] at h;subst h;obtain ⟨h1,h2⟩:=hl d (by simp)
    rw[he] at h1 h2;exact ⟨h1,_,_,fun R k=>h2 x R k,gB.VF hD hx,YR hx⟩
   ·cases h
theorem retag {cx:Cx K} {n0:Nat} {st:St K} {ts:List Nat} {n:Nat} (hn:st.tm.length=n) (h0:gu st.tm) {vs':List (AV K)} (hw:Wk cx.D (G9 st ts) st.H vs' H') (hlen:vs'.length=ts.length):
 Goes cx n0 st ⟨dN (List.replicate n .any) ts vs',H',st.ok⟩:=by
 intro ρ S a w hn0 dn;refine ⟨by show n0<=H'.length;rw[hw.len];exact hn0,ρ,S,⟨hw.heap _ _ _ dn.heap, ?_,dn.defers⟩,hw.step⟩
 have hsz:a.tmps.size=n:=by rw[<-hn];exact dn.slots.len.symm
 have hrep:∀t,Rep cx.D ρ S w (st.tm.getD t .any) (a.tmps.getD t undef):=fun t=>by
  rw[List.getD_eq_getElem?_getD,Array.getD_eq_getD_getElem?]
  cases hg:st.tm[t]? with
  |none=>exact .any _
  |some v=>
   obtain ⟨x,hx, -⟩:=dn.slots.get hg;rw[hx];exact dn.slots.rep h0 hg hx
 have hus:bF cx.D ρ S w (G9 st ts) (ts.map fun t=>a.tmps.getD t undef):=⟨by simp[G9],fun i v x h1 h2=>by
  simp only[G9,List.getElem?_map,Option.map_eq_some_iff] at h1 h2;obtain ⟨t,e1,rfl⟩:=h1;obtain ⟨t',e2,rfl⟩:=h2;rw[e1] at e2;simp at e2;subst e2;exact hrep t⟩
 have aiS:=hw.agV _ _ _ _ hus;refine zl hsz fun i t v x h1 h2 h3=>aiS.2 i v x h2 ?_
 simp only[List.getElem?_map,h1,Option.map_some];rw[Array.getD_eq_getD_getElem?,h3];rfl
theorem VH {D:iU K}:∀(l:List (Sh K)) (x:Sh.Ts l) (i:Nat) (v:AV K),(Sh.encs D l x)[i]? =some v->v.wU=false
 | [],x,i,v,h=>by simp[Sh.encs] at h
 |s::r,x,i,v,h=>by
  cases i with
  |zero=>
   simp only[Sh.encs,List.getElem?_cons_zero,Option.some.injEq] at h;subst h
   cases s<;>simp only[Sh.enc]<;>rfl
  |succ i=>exact VH r x.2 i v (by simpa [Sh.encs] using h)
theorem abu {n:Nat} {ds:List Nat} {l:List (AV K)} (h:∀(i:Nat) v,l[i]? =some v->v.wU=false):gu (dN (List.replicate n .any) ds l):=fun t g b v e=>by
 rcases uN ds l _ t _ e with h1 |⟨i, -,h2⟩
 ·rw[List.getElem?_replicate] at h1;split at h1<;>cases h1
 ·have:=h i _ h2;simp[AV.wU] at this
theorem VI {n0:Nat} {src:List (Option Nat)} {keep:List Nat} {st st':St K} (h:YH n0 src keep st=some st'):st'.tm.length=st.tm.length:=by
 unfold YH at h;split at h
 ·split at h
  ·simp only[Option.some.injEq] at h;subst h
   simp[qK]
  ·cases h
 ·cases h
theorem Tr.goes {cx:Cx K} {n0:Nat} {c:Code} {st st1 st2:St K} {e:Ex} (h:Tr cx n0 c st e st1) (g:Goes cx n0 st1 st2):Tr cx n0 c st e st2:=fun ρ S a w hn dn=>by
 refine wp_mono (h ρ S a w hn dn) ?_
 rintro e' a' w' ⟨he,hn1,ρ1,S1,lT,hst1⟩
 obtain ⟨hn2,ρ2,S2,aam,hst2⟩:=g ρ1 S1 a' w' hn1 lT;exact ⟨he,hn2,ρ2,S2,aam,hst1.trans hst2⟩
section
variable {cx :Cx K} (hD:bz cx.D) (hc:aG cx) (hm:cx.P.follows .mixedOrders=true) {c:Code} (hl:mX cx c) {n n0:Nat} {ins outs:List Nat} {sh:gB K} {Y:Type} {run:Nat->sh.T->Option Y}
 {iW:List (jb K Y)} {out:Y->{R:Type}->(Ex->List (AV K)->List (Ob K)->R)->R}
 (h0:∀x,run 0 x=none) (hs:∀m x,oL cx c (Ql cx.D n ins sh x) (acu cx n n0 ins outs sh (run m) (OL cx.D iW))=run (m+1) x)
 (hx:∀d∈iW,d.e≠ .normal /\ ∀x (R:Type) (k:Ex->List (AV K)->List (Ob K)->R),out (d.conv x) k=k d.e (d.sh.gW cx.D x) (d.sh.gY cx.D x))
include hD hc hm hl h0 hs hx
theorem OM {y:Y}:∀(m:Nat) (x:sh.T),run m x=some y->∃e vs Ho,(∀(R:Type) (k:Ex->List (AV K)->List (Ob K)->R),out y k=k e vs Ho) /\
 ∀(ρ0:List Value) (S0:Nat->Prop) (H0:List (Ob K)) (w0:World) (ρ:List Value) (S:Nat->Prop) (a:Act) (w:World),n0<=(Ql cx.D n ins sh x).H.length->Sat cx ρ S a w (Ql cx.D n ins sh x)->Step cx.D n0 ρ0 S0 H0 w0 ρ S (Ql cx.D n ins sh x).H w->
  Code.rounds cx.P c (fun e' a' w'=>e'=e.Bd /\ n0<=Ho.length /\ ∃ρ' S',Sat cx ρ' S' a' w' ⟨dN (List.replicate n .any) outs vs,Ho,true⟩ /\ Step cx.D n0 ρ0 S0 H0 w0 ρ' S' Ho w') m a w
 |0,x,h=>by rw[h0] at h;cases h
 |m+1,x,h=>by
  rw[<-hs m x] at h;obtain ⟨e,s,h1,h2,h3⟩:=kP hD hc hm c hl _ _ _ h;unfold acu at h1;have hno:gu (Ql cx.D n ins sh x).tm:=abu (VH _ _)
  cases hok:s.ok with
  |false=>rw[hok] at h1;cases h1
  |true=>
   rw[hok] at h1;simp only[cond_true] at h1;obtain ⟨n1,htr⟩:=h3 hok hno
   cases hlen:Nat.beq s.tm.length n with
   |false=>rw[hlen] at h1;cases h1
   |true=>
   rw[hlen] at h1;simp only[cond_true] at h1;have hsn:s.tm.length=n:=Nat.eq_of_beq_eq_true hlen;have key:∀keep s1 s' vs' H'',Cc cx s=some (true,s1)->Md n0 keep s1=some s'->Wk cx.D (G9 s' keep) s'.H vs' H''->vs'.length=keep.length->Tr cx n0 c (Ql cx.D n ins sh x) e ⟨dN (List.replicate n .any) keep vs',H'',true⟩:=fun keep s1 s' vs' H'' hcl hn hw hvl=>by
    have hr:YH n0 ((reach s1.H 64 (List.range n0++aT (keep.map fun t=>s1.tm.getD t .any)) []).map some) keep s1=some s':=hn
    obtain ⟨hk1,g1,g2⟩:=JB (cx:=cx) hD hr;obtain ⟨c1,c2,c3,c4⟩:=KN hD hcl;have gc:Goes cx n0 s s1:=fun ρ S a w hn dn=>by
     obtain ⟨q1,q2⟩:=c4 n0 ρ S a w dn;exact ⟨by rw[c3];exact hn,ρ,S,q1,q2⟩
    have hl2:s1.tm.length=n:=by rw[c1];exact hsn
    have hn2:gu s1.tm:=by rw[c1];exact n1
    have:=(htr n0).goes (gc.trans ((g2 hn2).trans (retag ((VI hr).trans hl2) g1 hw hvl)));rw[hk1,c2,hok] at this;exact this
   cases e with
   |normal=>
    dsimp only at h1;split at h1
    ·rename_i b s1 hcl
     cases b with
     |false=>cases h1
     |true=>
     simp only[cond_true] at h1;split at h1
     ·rename_i s' hn
      split at h1
      ·rename_i x' hx'
       obtain ⟨e2,vs,Ho,q1,q2⟩:=OM m x' h1;refine ⟨e2,vs,Ho,q1,fun ρ0 S0 H0 w0 ρ S a w hn0 dn hst=> ?_⟩
       rw[rounds_succ];refine wp_mono (key ins s1 s' _ _ hcl hn (gB.VF hD hx') (by rw[YR hx'];simp[G9]) ρ S a w hn0 dn) ?_
       rintro e' a' w' ⟨rfl,hn1,ρ1,S1,lT,hst1⟩
       exact q2 ρ0 S0 H0 w0 ρ1 S1 a' w' hn1 lT (hst.trans hst1)
      ·cases h1
     ·cases h1
    ·cases h1
   |exit id=>
    dsimp only at h1;split at h1
    ·rename_i b s1 hcl
     cases b with
     |false=>cases h1
     |true=>
     simp only[cond_true] at h1;split at h1
     ·rename_i s' hn
      obtain ⟨g1,vs',H'',g2,g3,g4⟩:=F6 hD iW hx _ _ _ _ h1;refine ⟨.exit id,vs',H'',g2,fun ρ0 S0 H0 w0 ρ S a w hn0 dn hst=> ?_⟩
      rw[rounds_succ];refine wp_mono (key outs s1 s' _ _ hcl hn g3 (by rw[g4];simp[G9]) ρ S a w hn0 dn) ?_
      rintro e' a' w' ⟨rfl,hn1,ρ1,S1,lT,hst1⟩
      exact ⟨rfl,hn1,ρ1,S1,lT,hst.trans hst1⟩
     ·cases h1
    ·cases h1
   |ret=>
    dsimp only at h1;split at h1
    ·rename_i b s1 hcl
     cases b with
     |false=>cases h1
     |true=>
     simp only[cond_true] at h1;split at h1
     ·rename_i s' hn
      obtain ⟨g1,vs',H'',g2,g3,g4⟩:=F6 hD iW hx _ _ _ _ h1;refine ⟨.ret,vs',H'',g2,fun ρ0 S0 H0 w0 ρ S a w hn0 dn hst=> ?_⟩
      rw[rounds_succ];refine wp_mono (key outs s1 s' _ _ hcl hn g3 (by rw[g4];simp[G9]) ρ S a w hn0 dn) ?_
      rintro e' a' w' ⟨rfl,hn1,ρ1,S1,lT,hst1⟩
      exact ⟨rfl,hn1,ρ1,S1,lT,hst.trans hst1⟩
     ·cases h1
    ·cases h1
theorem dU (kp:Bool) (N:Nat):eG cx c (jh cx.D kp n n0 ins outs sh (run N) out):=by
 intro vals Hi R k r h;simp only[jh] at h
 cases hb:Nat.beq Hi.length n0 with
 |false=>rw[hb] at h;cases h
 |true=>
  rw[hb] at h;have hlen:Hi.length=n0:=Nat.eq_of_beq_eq_true hb;simp only[cond_true] at h;split at h
  ·rename_i st hst
   split at h
   ·rename_i x hx1
    split at h
    ·rename_i y hy
     obtain ⟨e,vs,Ho,q1,q2⟩:=OM hD hc hm hl h0 hs hx N x hy;rw[q1] at h;refine ⟨e,vs,Ho,h, ?_⟩;unfold acs at hst;split at hst
     ·rename_i st1 hst1
      have hst':YH n0 ((reach st1.H 64 (List.range n0++aT (ins.map fun t=>st1.tm.getD t .any)) []).map some) ins st1=some st:=hst
      obtain ⟨k1,g1,g2⟩:=JB (cx:=cx) hD hst1;obtain ⟨k2,g3,g4⟩:=JB (cx:=cx) hD hst';intro ρ S a w hn0 dn;have hno:gu (dN (List.replicate n (AV.any:AV K)) ins vals):=fun t g b v e=>by
       rcases uN ins vals _ t _ e with h1 |⟨i,h1, -⟩
       ·rw[List.getElem?_replicate] at h1;split at h1<;>cases h1
       ·unfold YH at hst1
        split at hst1
        ·split at hst1
         ·rename_i ws H1 hv hm1
          obtain ⟨gl,gg⟩:=Bg _ _ hv;have hi:i<ws.length:=by rw[gl];simp;exact (List.getElem?_eq_some_iff.1 h1).1
          obtain ⟨v0,q1,q2⟩:=gg i _ (List.getElem?_eq_getElem hi);simp only[List.getElem?_map,h1,Option.map_some,Option.some.injEq] at q1;rw[List.getD_eq_getElem?_getD,e] at q1;simp only[Option.getD_some] at q1;subst q1;simp[Og] at q2
         ·cases hst1
        ·cases hst1
      have hlen1:st1.tm.length=n:=by rw[VI hst1];simp[qK]
      have hlen2:st.tm.length=n:=by rw[VI hst'];exact hlen1
      have hw:=gB.VF hD hx1;have hr:=retag (cx:=cx) (n0:=n0) hlen2 g3 hw (by rw[YR hx1];simp[G9])
      have hok:st.ok=true:=by rw[k2,k1]
      rw[hok] at hr;rw[hlen];obtain ⟨hn1,ρ1,S1,lT,hst2⟩:=((g2 hno).trans ((g4 g1).trans hr)) ρ S a w (by show n0<=Hi.length;omega) dn
      exact wp_loop_rounds N (q2 ρ S Hi w ρ1 S1 a w hn1 lT hst2)
     ·cases hst
    ·cases h
   ·cases h
  ·cases h
end
def pG : Code->List Code
 | .loop c=>[c]
 | .seq a b=>pG a++pG b
 | .cond _ a b=>pG a++pG b
 | .block _ c=>pG c
 |_=>[]
def eQ (c:Code) (i:Nat):Code:=(pG c).getD i .skip
theorem xU {cx:Cx K}:∀(c:Code),(∀b∈pG c,∀L,cx.loop (keyOf b)=some L->eG cx b L)->mX cx c
 | .loop c,h=>fun L hL=>h c (by simp[pG]) L hL
 | .seq a b,h=>⟨xU a fun x hx=>h x (by simp[pG,hx]),xU b fun x hx=>h x (by simp[pG,hx])⟩
 | .cond _ a b,h=>⟨xU a fun x hx=>h x (by simp[pG,hx]),xU b fun x hx=>h x (by simp[pG,hx])⟩
 | .block _ c,h=>xU c h
 | .skip,_ | .exit _,_ | .ret,_ | .region ..,_ | .scope ..,_ | .rangeFunc ..,_ | .goto ..,_ | .label ..,_ | .refuse ..,_=>trivial
def abv (cx:Cx K) (c:Code):Prop:=∃L,cx.loop (keyOf c)=some L /\ eG cx c L
theorem abv.mk {cx:Cx K} {c:Code} {L:gZ K} (h:cx.loop (keyOf c)=some L) (ho:eG cx c L):abv cx c:=⟨L,h,ho⟩
theorem bV {cx:Cx K} {c:Code} (n:Nat) (hn:(pG c).length=n) (h:∀i,i<n->abv cx (eQ c i)):mX cx c:=
 xU c fun b hb L hL=>by
  obtain ⟨i,hi,rfl⟩:=List.getElem_of_mem hb;obtain ⟨L',h1,h2⟩:=h i (by omega)
  have e:eQ c i=(pG c)[i]:=by simp[eQ,List.getD_eq_getElem?_getD,List.getElem?_eq_getElem hi]
  rw[e] at h1 h2;rw[h1] at hL;simp only[Option.some.injEq] at hL;subst hL;exact h2
theorem az {cx:Cx K} {c:Code} (hn:(pG c).length=0):mX cx c:=bV 0 hn fun i hi=>absurd hi (Nat.not_lt_zero i)
theorem gI {p:Nat->Prop} (h:p 0):∀i,i<1->p i:=fun i hi=>by
 have:i=0:=by omega
 subst this;exact h
theorem lt_succ {p:Nat->Prop} {n:Nat} (h:∀i,i<n->p i) (hn:p n):∀i,i<n+1->p i:=fun i hi=>by
 by_cases he:i=n
 ·subst he;exact hn
 ·exact h i (by omega)
def fG (fn:Func):Code:=match fn.body with
 |some c=>c
 |none=> .skip
theorem aX {cx:Cx K} {fn:Func} (h:mX cx (fG fn)):∀c,fn.body=some c->mX cx c:=fun c hc=>by
 have:fG fn=c:=by unfold fG;rw[hc]
 rw[<-this];exact h
theorem bg {α:Type _} {p:α->Prop}:∀c∈([]:List α),p c:=fun c h=>by simp at h
theorem aA {α:Type _} {p:α->Prop} {a:α} {l:List α} (h:p a) (t:∀c∈l,p c):∀c∈a::l,p c:=fun c hc=>by
 rcases List.mem_cons.1 hc with rfl |hc
 ·exact h
 ·exact t c hc
theorem dV {i:Nat}:Ex.exit i≠ .normal:=fun h=>by cases h
theorem oN : Ex.ret≠ .normal:=fun h=>by cases h
theorem oO {D:iU K} {P:Program} {c:bI K} (h:∀x,c.run x=none):c.Ok D P:=fun x r hr=>by rw[h] at hr;cases hr
theorem VJ : ∃n:Nat,2^63<=n:=⟨2^63,Nat.le_refl _⟩
noncomputable def aP :Nat:=Classical.choose VJ
theorem bG : 2^63<=aP:=Classical.choose_spec VJ
end Go.V
