/-
  CODE: every way through it.
-/
import Derived.Test.YtjlkjnhhpmoenaaGreatDoorXWexec
set_option linter.unusedVariables false
namespace Go.V
open Go
variable {K :Aj} {ρ ρ':List Value} {S S':Nat->Prop} {w w':World} {H H':List (Ob K)}
def dB (cx:Cx K) (c:Code) (L:fC K):Prop:=
 ∀(vals:List (AV K)) (Hi:List (Ob K)) (R:Type) (k:Ex->List (AV K)->List (Ob K)->Option R) (r:R),L.run vals Hi k=some r->
  ∃e vs Ho,k e vs Ho=some r /\ Tr cx Hi.length (.loop c) ⟨eH (List.replicate L.n .any) L.ins vals,Hi,true⟩ e ⟨eH (List.replicate L.n .any) L.outs vs,Ho,true⟩
def oZ (cx:Cx K):Code->Prop
 | .loop c=>∀L,cx.loop (keyOf c)=some L->dB cx c L
 | .seq a b=>oZ cx a /\ oZ cx b
 | .cond _ a b=>oZ cx a /\ oZ cx b
 | .block _ c=>oZ cx c
 |_=>True
theorem adL : ∀(b:Bool) (x y:AV K),(merge b x y).y8=false:=by
 intro b x y
 cases x<;>cases y<;>simp only[merge]<;>(try split)<;>rfl
theorem MN {t:Bool} {wr:List Nat}:∀(l s s':List (AV K)) (n i:Nat) (v:AV K),(nK t wr n l s s')[i]? =some v->
 (n+i∉wr /\ l[i]? =some v) \/ ∃x y,s[i]? =some x /\ s'[i]? =some y /\ v=merge t x y
 | [],s,s',n,i,v,h=>by simp[nK] at h
 |x::l,[],s',n,i,v,h=>by simp[nK] at h
 |x::l,y::s,[],n,i,v,h=>by simp[nK] at h
 |x::l,y::s,z::s',n,0,v,h=>by
  simp only[nK,List.getElem?_cons_zero,Option.some.injEq] at h;subst h
  by_cases hc:n∈wr
  ·exact .inr ⟨y,z,rfl,rfl,by simp[hc]⟩
  ·exact .inl ⟨hc,by simp[hc]⟩
 |x::l,y::s,z::s',n,i+1,v,h=>by
  simp only[nK,List.getElem?_cons_succ] at h
  rcases MN l s s' (n+1) i v h with ⟨h1,h2⟩ |⟨a,b,h1,h2,h3⟩
  ·exact .inl ⟨by rw[Nat.add_comm i 1,<-Nat.add_assoc];exact h1,by simpa using h2⟩
  ·exact .inr ⟨a,b,by simpa using h1,by simpa using h2,h3⟩
theorem Vy {t:Bool} {wr:List Nat}:∀(l s s':List (AV K)) (n:Nat),s.length=l.length->s'.length=l.length->(nK t wr n l s s').length=l.length
 | [],s,s',n,h1,h2=>by cases s<;>cases s'<;>simp[nK]
 |x::l,[],s',n,h1,h2=>by simp at h1
 |x::l,y::s,[],n,h1,h2=>by simp at h2
 |x::l,y::s,z::s',n,h1,h2=>by
  simp only[nK,List.length_cons];rw[Vy l s s' (n+1) (by simpa using h1) (by simpa using h2)]
theorem lZ.rep {D:jI K} {tm:List (AV K)} {tmps:Array Value} (h:lZ D ρ S w tm tmps) (h0:ja tm) {t:Nat} {v:AV K} {x:Value} (hv:tm[t]? =some v) (hx:tmps[t]? =some x):Rep D ρ S w v x:=by
 have:=h.ok t v x hv hx
 cases v with
 |opt g b y=>exact absurd hv (h0 t g b y)
 |_=>exact this
theorem adM {D:jI K} {t:Bool} {wr:List Nat} {l sa sb:List (AV K)} {tmps:Array Value} (hab:ja (cond t sa sb)) (la:sa.length=l.length) (lb:sb.length=l.length) (ra:∀t,t∉wr->sa[t]? =l[t]?) (rb:∀t,t∉wr->sb[t]? =l[t]?)
 (h:lZ D ρ S w (cond t sa sb) tmps):lZ D ρ S w (nK t wr 0 l sa sb) tmps:=by
 refine ⟨by rw[Vy _ _ _ _ la lb,<-h.len];cases t<;>simp[la,lb],fun i v x hv hx=> ?_⟩
 rcases MN l sa sb 0 i v hv with ⟨h1,h2⟩ |⟨a,b,h1,h2,rfl⟩
 ·rw[Nat.zero_add] at h1
  refine .uZ ?_
  cases t
  ·exact h.rep hab (by rw[cond_false,rb i h1];exact h2) hx
  ·exact h.rep hab (by rw[cond_true,ra i h1];exact h2) hx
 ·refine .uZ (Vl (fun e=> ?_) fun e=> ?_)
  ·subst e;exact h.rep hab h1 hx
  ·subst e;exact h.rep hab h2 hx
theorem ach {t:Bool} {wr:List Nat} {l sa sb:List (AV K)} (h0:ja l):ja (nK t wr 0 l sa sb):=fun i g b v e=>by
 rcases MN l sa sb 0 i _ e with ⟨-,h2⟩ |⟨x,y, -, -,h3⟩
 ·exact h0 i g b v h2
 ·have:=adL t x y
  rw[<-h3] at this;simp[AV.y8] at this
theorem uu : ∀(ds:List Nat) (vs tm:List (AV K)),(eH tm ds vs).length=tm.length
 | [],vs,tm=>by simp[eH]
 |d::r,[],tm=>by simp[eH]
 |d::r,v::vs,tm=>by simp only[eH];rw[uu r vs];simp
theorem xC : ∀(ds:List Nat) (vs tm:List (AV K)) (t:Nat) (v:AV K),(eH tm ds vs)[t]? =some v->tm[t]? =some v \/ ∃i:Nat,ds[i]? =some t /\ vs[i]? =some v
 | [],vs,tm,t,v,h=> .inl (by simpa [eH] using h)
 |d::r,[],tm,t,v,h=> .inl (by simpa [eH] using h)
 |d::r,x::vs,tm,t,v,h=>by
  simp only[eH] at h
  rcases xC r vs _ t v h with h1 |⟨i,h1,h2⟩
  ·rcases fG h1 with ⟨rfl,rfl, -⟩ |⟨-,h1⟩
   ·exact .inr ⟨0,rfl,rfl⟩
   ·exact .inl h1
  ·exact .inr ⟨i+1,by simpa using h1,by simpa using h2⟩
theorem Vz {p:AV K->AV K->Prop}:∀(ds:List Nat) (vs vs' tm tm':List (AV K)),vs.length=vs'.length->tm.length=tm'.length->(∀(i:Nat) v v',vs[i]? =some v->vs'[i]? =some v'->p v v')->(∀(t:Nat) v v',tm[t]? =some v->tm'[t]? =some v'->p v v')->
 ∀(t:Nat) v v',(eH tm ds vs)[t]? =some v->(eH tm' ds vs')[t]? =some v'->p v v'
 | [],vs,vs',tm,tm',h1,h2,h3,h4,t,v,v',g1,g2=>h4 t v v' (by simpa [eH] using g1) (by simpa [eH] using g2)
 |d::r,[],[],tm,tm',h1,h2,h3,h4,t,v,v',g1,g2=>h4 t v v' (by simpa [eH] using g1) (by simpa [eH] using g2)
 |d::r,[],_::_,tm,tm',h1,h2,h3,h4,t,v,v',g1,g2=>by simp at h1
 |d::r,_::_,[],tm,tm',h1,h2,h3,h4,t,v,v',g1,g2=>by simp at h1
 |d::r,x::vs,x'::vs',tm,tm',h1,h2,h3,h4,t,v,v',g1,g2=>by
  simp only[eH] at g1 g2;refine Vz r vs vs' _ _ (by simpa using h1) (by simpa using h2) (fun i a b ha hb=>h3 (i+1) a b (by simpa using ha) (by simpa using hb)) (fun k a b ha hb=> ?_) t v v' g1 g2
  rcases fG ha with ⟨rfl,rfl, -⟩ |⟨hne,ha⟩
  ·rcases fG hb with ⟨-,rfl, -⟩ |⟨hne, -⟩
   ·exact h3 0 _ _ rfl rfl
   ·exact absurd rfl hne
  ·rcases fG hb with ⟨rfl, -⟩ |⟨-,hb⟩
   ·exact absurd rfl hne
   ·exact h4 k a b ha hb
theorem EP {f:Nat->Option Nat}:∀(l l':List (AV K)),KF f l=some l'->l'.length=l.length /\ ∀(i:Nat) v',l'[i]? =some v'->∃v,l[i]? =some v /\ RX f v=some v'
 | [],l',h=>by simp[KF] at h;subst h;simp
 |x::l,l',h=>by
  simp only[KF] at h;split at h
  ·rename_i y m h1 h2
   simp only[Option.some.injEq] at h;subst h;obtain ⟨g1,g2⟩:=EP l m h2;refine ⟨by simp[g1],fun i v' hi=> ?_⟩
   cases i with
   |zero=>simp at hi;subst hi;exact ⟨x,rfl,h1⟩
   |succ i=>simp at hi;obtain ⟨v,q1,q2⟩:=g2 i v' hi;exact ⟨v,by simpa using q1,q2⟩
  ·cases h
theorem agS {f:Nat->Option Nat} {v v':AV K} (h:RX f v=some v'):v'.y8=false:=by
 cases v<;>simp only[RX,Option.map_eq_some_iff,Option.some.injEq] at h<;>first
  |(subst h;rfl)
  |(obtain ⟨a, -,rfl⟩:=h;rfl)
  |cases h
theorem O7 {n:Nat} {ds:List Nat} {l l':List (AV K)} {f:Nat->Option Nat} (h:KF f l=some l'):ja (eH (List.replicate n .any) ds l'):=fun t g b v e=>by
 rcases xC ds l' _ t _ e with h1 |⟨i, -,h2⟩
 ·rw[List.getElem?_replicate] at h1;split at h1<;>cases h1
 ·obtain ⟨v0, -,q⟩:=(EP l l' h).2 i _ h2
  have:=agS q;simp[AV.y8] at this
theorem BI {D:jI K} {n:Nat} {ds:List Nat} {vs:List (AV K)} {tmps:Array Value} (hn:tmps.size=n) (h:∀(i t:Nat) v x,ds[i]? =some t->vs[i]? =some v->tmps[t]? =some x->Rep D ρ S w v x):lZ D ρ S w (eH (List.replicate n .any) ds vs) tmps:=
 ⟨by rw[uu];simp[hn],fun t v x hv hx=> .uZ (by
   rcases xC ds vs _ t v hv with h1 |⟨i,h1,h2⟩
   ·rw[List.getElem?_replicate] at h1
    split at h1
    ·simp at h1;subst h1;exact .any x
    ·cases h1
   ·exact h i t v x h1 h2 hx)⟩
theorem af4 {cx:Cx K} (hD:cZ cx.D) {c:Code} {L:fC K} {n0:Nat} {st st':St K} {m:List Nat} {vals vs:List (AV K)} {Hi Ho:List (Ob K)} {e:Ex} (hn:st.tm.length=L.n) (h0:ja st.tm)
 (hin:inLoop st.H (L.ins.map fun t=>st.tm.getD t .any)=some (m,vals,Hi)) (hout:WT L m st vs Ho=some st')
 (htr:Tr cx Hi.length (.loop c) ⟨eH (List.replicate L.n .any) L.ins vals,Hi,true⟩ e ⟨eH (List.replicate L.n .any) L.outs vs,Ho,true⟩):ja st'.tm /\ Tr cx n0 (.loop c) st e st':=by
 unfold inLoop at hin;split at hin
 ·rename_i hp
  split at hin
  ·rename_i EN Hi' hv hH
   simp only[Option.some.injEq,Prod.mk.injEq] at hin;obtain ⟨rfl,rfl,rfl⟩:=hin;unfold WT at hout;split at hout
   ·rename_i vs' Zf hvs hHo
    split at hout
    ·rename_i hle
     simp only[Option.some.injEq] at hout;subst hout;refine ⟨O7 hvs,fun ρ S a w hn0 dS=> ?_⟩
     obtain ⟨s1,s2,s3,s4⟩:=adr hD dS.heap hp hH;have hrs:=Yl (ρ:=ρ) (m:=reach st.H 64 (bK (L.ins.map fun t=>st.tm.getD t .any)) []) (fun i h hi=>by rw[dS.heap.len];exact (Bf _ hp).1 i h hi)
     have hsize:a.tmps.size=L.n:=by rw[<-hn,dS.slots.len]
     have nV:Sat cx (adq ρ (reach st.H 64 (bK (L.ins.map fun t=>st.tm.getD t .any)) [])) S a w ⟨eH (List.replicate L.n .any) L.ins EN,Hi',true⟩:=⟨s1,BI hsize fun i t v x g1 g2 g3=>by
      obtain ⟨v0,q1,q2⟩:=(EP _ _ hv).2 i v g2;simp only[List.getElem?_map,g1,Option.map_some,Option.some.injEq] at q1;subst q1;refine xy hD s4 _ v x q2 ?_;rw[List.getD_eq_getElem?_getD]
      cases hg:st.tm[t]? with
      |none=>exact .any x
      |some v1=>exact dS.slots.rep h0 hg g3,dS.defers⟩
     refine wp_mono (htr _ S a w (Nat.le_refl _) nV) fun e' a' w'=> ?_
     rintro ⟨he,am4,ρo,So,hso,hst⟩
     obtain ⟨j1,j2,j3⟩:=join hD dS.heap hp hrs s2 s3 s1 hso.heap hst am4 hHo;refine ⟨he, ?_,_,So,⟨j1, ?_,hso.defers⟩,j2.weaken hn0⟩
     ·have:=j2.grow dS.heap j1 (Nat.le_refl _)
      dsimp only at this ⊢;omega
     ·refine ⟨by rw[uu];have:=hso.slots.len;rw[uu] at this;exact this,fun t v x hv' hx=> ?_⟩
      have hlt:t<(eH (List.replicate L.n .any) L.outs vs).length:=by
       have:=(List.getElem?_eq_some_iff.1 hv').1;rw[uu] at this ⊢;exact this
      have hg:=List.getElem?_eq_getElem hlt;have hrep:gW cx.D ρo So w' a'.tmps _ x:=hso.slots.ok t _ x hg hx;have hrel:=Vz (p:=fun v v'=>v'= .any \/ RX (fun h=>(jF (reach st.H 64 (bK (L.ins.map fun t=>st.tm.getD t .any)) []) st.H.length Ho.length)[h]?) v=some v') L.outs vs vs' (List.replicate L.n .any) (List.replicate L.n .any)
       (EP _ _ hvs).1.symm rfl (fun i v v' h1 h2=>by
         obtain ⟨v0,q1,q2⟩:=(EP _ _ hvs).2 i v' h2;rw[h1] at q1;simp at q1;subst q1;exact .inr q2) (fun t v v' h1 h2=>by
         rw[List.getElem?_replicate] at h2;split at h2
         ·simp at h2;exact .inl h2.symm
         ·cases h2) t _ v hg hv'
      rcases hrel with rfl |hrel
      ·exact .uZ (.any x)
      ·refine .uZ (xy hD j3 _ v x hrel ?_)
       generalize (eH (List.replicate L.n .any) L.outs vs)[t]=y at hrep hrel
       cases y with
       |opt=>simp[RX] at hrel
       |_=>exact hrep
    ·cases hout
   ·cases hout
  ·cases hin
 ·cases hin
theorem mf {cx:Cx K} (hD:cZ cx.D) (hc:aH cx) (hm:cx.P.follows .mixedOrders=true):∀(c:Code),oZ cx c->∀{R:Type} (st:St K) (k:Ex->St K->Option R) (r:R),qL cx c st k=some r->
 ∃e st',k e st'=some r /\ (st'.ok=true->st.ok=true) /\ (st'.ok=true->ja st.tm->ja st'.tm /\ ∀n0,Tr cx n0 c st e st')
 | .skip,_,R,st,k,r,h=>⟨.normal,st,h,id,fun _ h0=>⟨h0,fun n0 ρ S a w hn dS=>wp_skip ⟨rfl,hn,ρ,S,dS,Step.refl⟩⟩⟩
 | .exit id,_,R,st,k,r,h=>⟨.exit id,st,h,fun h=>h,fun _ h0=>⟨h0,fun n0 ρ S a w hn dS=>wp_exit ⟨rfl,hn,ρ,S,dS,Step.refl⟩⟩⟩
 | .ret,_,R,st,k,r,h=>⟨.ret,st,h,fun h=>h,fun _ h0=>⟨h0,fun n0 ρ S a w hn dS=>wp_ret ⟨rfl,hn,ρ,S,dS,Step.refl⟩⟩⟩
 | .region id ops draw,_,R,st,k,r,h=>by
   simp only[qL] at h;split at h
   ·rename_i st' hr
    have:=fun n0=>aa0 (id:=id) (n0:=n0) hD hc hm hr
    exact ⟨.normal,st',h,(this 0).1,fun hok h0=>⟨((this 0).2 hok h0).1,fun n0=>((this n0).2 hok h0).2⟩⟩
   ·split at h
    ·rename_i b s1 s2 hsp
     obtain ⟨t,h1,h2⟩:=Ar _ hsp;have key:∀(x:Bool) (s':St K),sD {cx with gs:=some (t,x)} ops.toList draw st=some s'->k .normal s'=some r->
      ∃e st',k e st'=some r /\ (st'.ok=true->st.ok=true) /\ (st'.ok=true->ja st.tm->ja st'.tm /\ ∀n0,Tr cx n0 (.region id ops draw) st e st'):=fun x s' hr hk=>by
      have:=fun n0=>aa0 (cx:={cx with gs:=some (t,x)}) (id:=id) (n0:=n0) hD hc hm hr
      exact ⟨.normal,s',hk,(this 0).1,fun hok h0=>⟨((this 0).2 hok h0).1,fun n0=>(((this n0).2 hok h0).2).gs⟩⟩
     cases b with
     |true=>exact key true s1 h1 h
     |false=>exact key false s2 h2 h
    ·cases h
 | .seq a b,hl,R,st,k,r,h=>by
   simp only[qL] at h;obtain ⟨e1,s1,h1,ok1,t1⟩:=mf hD hc hm a hl.1 st _ r h
   cases e1 with
   |normal=>
    obtain ⟨e2,s2,h2,ok2,t2⟩:=mf hD hc hm b hl.2 s1 k r h1;refine ⟨e2,s2,h2,fun hk=>ok1 (ok2 hk),fun hk h0=> ?_⟩
    obtain ⟨n1,q1⟩:=t1 (ok2 hk) h0;obtain ⟨n2,q2⟩:=t2 hk n1;refine ⟨n2,fun n0 ρ S a' w hn dS=>wp_seq (wp_mono (q1 n0 ρ S a' w hn dS) ?_)⟩
    rintro e a2 w2 ⟨rfl,hn1,ρ1,S1,nV,hst1⟩
    refine wp_mono (q2 n0 ρ1 S1 a2 w2 hn1 nV) ?_
    rintro e a3 w3 ⟨rfl,hn2,ρ2,S2,adN,hst2⟩
    exact ⟨rfl,hn2,ρ2,S2,adN,hst1.trans hst2⟩
   |exit id=>
    refine ⟨.exit id,s1,h1,ok1,fun hk h0=>⟨(t1 hk h0).1,fun n0 ρ S a' w hn dS=>wp_seq (wp_mono ((t1 hk h0).2 n0 ρ S a' w hn dS) ?_)⟩⟩
    rintro e a2 w2 ⟨rfl,q⟩
    exact ⟨rfl,q⟩
   |ret=>
    refine ⟨.ret,s1,h1,ok1,fun hk h0=>⟨(t1 hk h0).1,fun n0 ρ S a' w hn dS=>wp_seq (wp_mono ((t1 hk h0).2 n0 ρ S a' w hn dS) ?_)⟩⟩
    rintro e a2 w2 ⟨rfl,q⟩
    exact ⟨rfl,q⟩
 | .cond c a b,hl,R,st,k,r,h=>by
   simp only[qL] at h;split at h
   ·rename_i t ht
    have hev:∀{ρ S a' w},Sat cx ρ S a' w st->a'.eval c= .bool t:=fun {ρ S a' w} dS=>by
     have:=Nv dS.slots (gs:=[]) (fun p hp=>by simp at hp) c
     rw[ht] at this
     generalize a'.eval c=y at this
     cases this;rfl
    split at h
    ·rename_i hs
     simp only[Bool.and_eq_true] at hs;split at h
     ·rename_i sa sb ha hb
      obtain ⟨s1,g1,q1⟩:=xB a hs.1 st _ sa ha;obtain ⟨s2,g2,q2⟩:=xB b hs.2 st _ sb hb;simp only[zU,Option.some.injEq] at g1 g2;subst g1;subst g2;obtain ⟨e1,s1',c1,ok1,t1⟩:=mf hD hc hm a hl.1 st _ s1 ha;obtain ⟨e2,s2',c2,ok2,t2⟩:=mf hD hc hm b hl.2 st _ s2 hb
      cases e1<;>simp only[zU,Option.some.injEq] at c1<;>try cases c1
      cases e2<;>simp only[zU,Option.some.injEq] at c2<;>try cases c2
      have hks:∀{x y:Bool},((x|| !t)&&(y||t))=true->(t=true->x=true) /\ (t=false->y=true):=fun {x y} hk=>by
       cases t<;>simpa using hk
      refine ⟨.normal,_,h,fun hk=> ?_,fun hk h0=>⟨ach h0,fun n0 ρ S a' w hn dS=>wp_cond (hev dS) ?_⟩⟩
      ·cases ht':t
       ·exact ok2 ((hks hk).2 ht')
       ·exact ok1 ((hks hk).1 ht')
      ·have fin:∀e' a' w',(e'=Ex.normal.EL /\ n0<=(cond t s1 s2).H.length /\ ∃ρ' S',Sat cx ρ' S' a' w' (cond t s1 s2) /\ Step cx.D n0 ρ S st.H w ρ' S' (cond t s1 s2).H w')->ja (cond t s1.tm s2.tm)->
        (e'=Ex.normal.EL /\ n0<=st.H.length /\ ∃ρ' S',Sat cx ρ' S' a' w' ⟨nK t (writes a++writes b) 0 st.tm s1.tm s2.tm,st.H,(s1.ok|| !t)&&(s2.ok||t)⟩ /\ Step cx.D n0 ρ S st.H w ρ' S' st.H w'):=by
        rintro e' a2 w2 ⟨he,hn1,ρ1,S1,nV,hst1⟩ hno
        have hH:(cond t s1 s2).H=st.H:=by cases t;exact q2.H;exact q1.H
        rw[hH] at hn1 hst1;refine ⟨he,hn1,ρ1,S1,⟨by have:=nV.heap;rw[hH] at this;exact this, ?_,nV.defers⟩,hst1⟩
        exact adM hno q1.len q2.len (fun i hi=>q1.rest i fun h'=>hi (by simp[h'])) (fun i hi=>q2.rest i fun h'=>hi (by simp[h'])) (by have:=nV.slots;cases t<;>exact this)
       cases ht':t<;>rw[ht'] at fin
       ·obtain ⟨n2,r2⟩:=t2 ((hks hk).2 ht') h0
        exact wp_mono (r2 n0 ρ S a' w hn dS) fun e' a2 w2 q=>fin e' a2 w2 q n2
       ·obtain ⟨n1,r1⟩:=t1 ((hks hk).1 ht') h0
        exact wp_mono (r1 n0 ρ S a' w hn dS) fun e' a2 w2 q=>fin e' a2 w2 q n1
     ·cases h
    ·cases t
     ·obtain ⟨e,s,h1,ok1,t1⟩:=mf hD hc hm b hl.2 st k r h
      exact ⟨e,s,h1,ok1,fun hk h0=>⟨(t1 hk h0).1,fun n0 ρ S a' w hn dS=>wp_cond (hev dS) ((t1 hk h0).2 n0 ρ S a' w hn dS)⟩⟩
     ·obtain ⟨e,s,h1,ok1,t1⟩:=mf hD hc hm a hl.1 st k r h
      exact ⟨e,s,h1,ok1,fun hk h0=>⟨(t1 hk h0).1,fun n0 ρ S a' w hn dS=>wp_cond (hev dS) ((t1 hk h0).2 n0 ρ S a' w hn dS)⟩⟩
   ·cases h
 | .block id c,hl,R,st,k,r,h=>by
   simp only[qL] at h;obtain ⟨e1,s1,h1,ok1,t1⟩:=mf hD hc hm c hl st _ r h
   cases e1 with
   |normal=>
    refine ⟨.normal,s1,h1,ok1,fun hk h0=>⟨(t1 hk h0).1,fun n0 ρ S a' w hn dS=>wp_block (wp_mono ((t1 hk h0).2 n0 ρ S a' w hn dS) ?_)⟩⟩
    rintro e a2 w2 ⟨rfl,q⟩
    exact ⟨rfl,q⟩
   |ret=>
    refine ⟨.ret,s1,h1,ok1,fun hk h0=>⟨(t1 hk h0).1,fun n0 ρ S a' w hn dS=>wp_block (wp_mono ((t1 hk h0).2 n0 ρ S a' w hn dS) ?_)⟩⟩
    rintro e a2 w2 ⟨rfl,q⟩
    exact ⟨rfl,q⟩
   |exit i=>
    dsimp only at h1;split at h1
    ·rename_i hid
     refine ⟨.normal,s1,h1,ok1,fun hk h0=>⟨(t1 hk h0).1,fun n0 ρ S a' w hn dS=>wp_block (wp_mono ((t1 hk h0).2 n0 ρ S a' w hn dS) ?_)⟩⟩
     rintro e a2 w2 ⟨rfl,q⟩
     subst hid
     show (if i=i then _ else _)
     rw[if_pos rfl];exact ⟨rfl,q⟩
    ·rename_i hid
     refine ⟨.exit i,s1,h1,ok1,fun hk h0=>⟨(t1 hk h0).1,fun n0 ρ S a' w hn dS=>wp_block (wp_mono ((t1 hk h0).2 n0 ρ S a' w hn dS) ?_)⟩⟩
     rintro e a2 w2 ⟨rfl,q⟩
     show (if i=id then _ else _)
     rw[if_neg hid];exact ⟨rfl,q⟩
 | .loop c,hl,R,st,k,r,h=>by
   simp only[qL] at h;split at h
   ·rename_i L hL
    split at h
    ·rename_i hn
     split at h
     ·rename_i m vals Hi hin
      obtain ⟨e,vs,Ho,h1,htr⟩:=hl L hL vals Hi R _ r h;split at h1
      ·rename_i st' hout
       refine ⟨e,st',h1, ?_,fun hk h0=> ?_⟩
       ·unfold WT at hout
        split at hout
        ·split at hout
         ·simp only[Option.some.injEq] at hout;subst hout;exact id
         ·cases hout
        ·cases hout
       ·exact ⟨(af4 (n0:=0) hD hn h0 hin hout htr).1,fun n0=>(af4 (n0:=n0) hD hn h0 hin hout htr).2⟩
      ·cases h1
     ·cases h
    ·cases h
   ·cases h
 | .scope ..,_,R,st,k,r,h=>by simp[qL] at h
 | .rangeFunc ..,_,R,st,k,r,h=>by simp[qL] at h
 | .goto ..,_,R,st,k,r,h=>by simp[qL] at h
 | .label ..,_,R,st,k,r,h=>by simp[qL] at h
 | .refuse ..,_,R,st,k,r,h=>by simp[qL] at h
end Go.V
