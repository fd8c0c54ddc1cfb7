/-
  A REGION IN THE ORDER OF THE TEXT.
-/
import Derived.Test.YtefdfjaifkhphaaGreatDoorXWreg
set_option linter.unusedVariables false
namespace Go.V
open Go
variable {K :yu} {ρ ρ':List Value} {S S':Nat->Prop} {w w':World} {H H':List (Ob K)}
theorem zS {ops:List Oper} {o:Oper} {tmps:Array Value} {g:Nat} {wt:Bool} (h:guardOf ops o=some (some (g,wt))):
 Region.wanted o (yielded ops.toArray tmps)=true↔tmps[g]? =some (.bool wt):=by
 unfold guardOf at h;split at h
 ·cases h
 ·rename_i j w1 hgd
  split at h
  ·rename_i og hog
   split at h
   ·rename_i t ht
    simp only[Option.some.injEq,Prod.mk.injEq] at h;obtain ⟨rfl,rfl⟩:=h;have aiY:ops.toArray[j]? =some og:=by simpa using hog
    simp only[Region.wanted,hgd,yielded,aiY,Option.bind_some,ht]
    cases hv:tmps[t]? with
    |none=>simp
    |some z=>cases z<;>simp
   ·cases h
  ·cases h
theorem abH {ops:List Oper} {o:Oper} {y:Nat->Option Bool} (h:guardOf ops o=some none):Region.wanted o y=true:=by
 unfold guardOf at h;split at h
 ·rename_i hg;simp[Region.wanted,hg]
 ·split at h
  ·split at h<;>cases h
  ·cases h
theorem YL {q:Bool} {cx:Cx K} (hD:bz cx.D) (hc:aG cx) (hs:ay cx.D ρ S w H) {a:Act} {tm:List (AV K)} (hsl:kK cx.D ρ S w tm a.tmps) {ops:List Oper} {wr:List Nat} {o:Oper} {v:AV K} {c:Bool}
 (h:uJ q cx ops tm H wr o=some (v,H',c)) (hc1:c=true) {k:Act->World->Prop} {Q:Exit->Act->World->Prop}
 (hk:∀u ρ' S' w',ay cx.D ρ' S' w' H'->fQ cx.D ρ' S' w' a.tmps v u->Step cx.D H.length ρ S H w ρ' S' H' w'->k (a.put o.dst u) w'):
 if Region.wanted o (yielded ops.toArray a.tmps) then o.wp cx.P a w k Q else k (a.put o.dst undef) w:=by
 unfold uJ at h;split at h
 ·cases h
 ·rename_i hgd
  rw[if_pos (abH hgd)];split at h
  ·rename_i v1 H1 c1 t1 hy
   split at h
   ·cases h
   simp only[Option.some.injEq,Prod.mk.injEq] at h;obtain ⟨rfl,rfl,rfl⟩:=h;exact VZ hD hc hs hsl (gs:=[]) (fun p hp=>by simp at hp) hy hc1 fun u ρ' S' w' h1 h2 h3=>hk u ρ' S' w' h1 (.rO h2) h3
  ·cases h
 ·rename_i g wt hgd
  split at h
  ·rename_i b0 hkn
   split at h
   ·rename_i b htm
    have hval:a.tmps[g]? =some (.bool b):=by
     have hlt:g<a.tmps.size:=by rw[<-hsl.len];exact (List.getElem?_eq_some_iff.1 htm).1
     have hx:=Array.getElem?_eq_getElem hlt;have:=hsl.ok g _ _ htm hx;rw[hx,lh this]
    split at h
    ·rename_i hbw
     split at h
     ·rename_i v1 H1 c1 t1 hy
      split at h
      ·cases h
      simp only[Option.some.injEq,Prod.mk.injEq] at h;obtain ⟨rfl,rfl,rfl⟩:=h;simp only[Bool.and_eq_true,beq_iff_eq] at hc1;obtain ⟨hc1,rfl⟩:=hc1;rw[if_pos ((zS hgd).2 (by rw[hval,hbw]))]
      exact VZ hD hc hs hsl (gs:=[]) (fun p hp=>by simp at hp) hy hc1 fun u ρ' S' w' h1 h2 h3=>hk u ρ' S' w' h1 (.rO h2) h3
     ·cases h
    ·rename_i hbw
     simp only[Option.some.injEq,Prod.mk.injEq] at h;obtain ⟨rfl,rfl,rfl⟩:=h;have hbb:b=b0:=by simpa using hc1
     rw[if_neg (fun hh=>hbw (by have:=(zS hgd).1 hh;rw[hval] at this;simp at this;rw[<-hbb];exact this))]
     exact hk undef ρ S w hs (.rO (.any _)) Step.refl
   ·cases h
  split at h
  ·cases h
  ·rename_i b hb
   split at h
   ·rename_i hsm
    simp only[Bool.and_eq_true] at hsm;split at h
    ·rename_i v1 H1 c1 t1 hy
     simp only[Option.some.injEq,Prod.mk.injEq] at h;obtain ⟨rfl,rfl,rfl⟩:=h;have hbt:=U5 hsl 6 g wt b hb
     by_cases hw:a.tmps[g]? =some (.bool wt)
     ·rw[if_pos ((zS hgd).2 hw)]
      have hb1:b=true:=hbt.2 hw;subst hb1;have hc1':c1=true:=by simpa using hc1
      have hH:H1=H:=JA hy;subst hH;exact VZ hD hc hs hsl (gs:=[(g,wt)]) (fun p hp=>by simp at hp;subst hp;exact hw) hy hc1' fun u ρ' S' w' h1 h2 h3=>hk u ρ' S' w' h1 (.inl ⟨hw,h2⟩) h3
     ·rw[if_neg (fun hh=>hw ((zS hgd).1 hh))]
      exact hk undef ρ S w hs (.inr ⟨hw,rfl⟩) Step.refl
    ·cases h
   ·cases h
theorem xQ {q:Bool} {cx:Cx K} {ops:List Oper} {tm:List (AV K)} {wr:List Nat} {o:Oper} {v:AV K} {c:Bool} (h:uJ q cx ops tm H wr o=some (v,H',c)):∀g wt v1,v= .opt g wt v1->g∈wr:=by
 intro g' wt' v' e;unfold uJ at h;split at h
 ·cases h
 ·split at h
  ·split at h
   ·cases h
   ·rename_i hno
    simp only[Option.some.injEq,Prod.mk.injEq] at h;obtain ⟨rfl,rfl,rfl⟩:=h;subst e;simp[AV.wU] at hno
  ·cases h
 ·rename_i g wt hgd
  split at h
  ·split at h
   ·split at h
    ·split at h
     ·split at h
      ·cases h
      ·rename_i hno
       simp only[Option.some.injEq,Prod.mk.injEq] at h;obtain ⟨rfl,rfl,rfl⟩:=h;subst e;simp[AV.wU] at hno
     ·cases h
    ·simp only[Option.some.injEq,Prod.mk.injEq] at h;obtain ⟨rfl, -, -⟩:=h
     cases e
   ·cases h
  split at h
  ·cases h
  ·split at h
   ·rename_i hsm
    simp only[Bool.and_eq_true] at hsm;split at h
    ·simp only[Option.some.injEq,Prod.mk.injEq] at h;obtain ⟨rfl,rfl,rfl⟩:=h
     simp only[AV.opt.injEq] at e;obtain ⟨rfl,rfl,rfl⟩:=e;simpa using hsm.2
    ·cases h
   ·cases h
def Ce (tm:List (AV K)) (wr:List Nat):Prop:=∀(t g:Nat) b v,tm[t]? =some (.opt g b v)->t∈wr /\ g∈wr
structure Sat (cx:Cx K) (ρ:List Value) (S:Nat->Prop) (a:Act) (w:World) (st:St K):Prop where
 heap:ay cx.D ρ S w st.H
 slots:kK cx.D ρ S w st.tm a.tmps
 defers:a.defers=[]
theorem fQ.put {D:iU K} {tmps:Array Value} {d:Nat} {u:Value} {v:AV K} {x:Value} (h:fQ D ρ S w tmps v x) (hv:∀g b y,v= .opt g b y->g≠d):fQ D ρ S w (tmps.setIfInBounds d u) v x:=by
 cases v<;>first |exact h |skip
 rename_i g b y;have hg:=hv g b y rfl;simp only[fQ,Array.getElem?_setIfInBounds,if_neg (Ne.symm hg)] at h ⊢;exact h
theorem kK.put {D:iU K} {tm:List (AV K)} {tmps:Array Value} {wr:List Nat} (h:kK D ρ S w tm tmps) (ho:Ce tm wr) {d:Nat} (hd:d∉wr) {v:AV K} {u:Value} (hv:fQ D ρ S w tmps v u) (hvo:∀g b y,v= .opt g b y->g∈wr):
 kK D ρ S w (tm.set d v) (tmps.setIfInBounds d u):=by
 refine ⟨by simp[h.len],fun t v' x hv' hx=> ?_⟩
 rw[Array.getElem?_setIfInBounds] at hx
 rcases dX hv' with ⟨rfl,rfl,hl⟩ |⟨hne,hv'⟩
 ·rw[if_pos rfl] at hx
  split at hx
  ·simp at hx;subst hx
   exact hv.put fun g b y e=>fun he=>hd (he ▸ hvo g b y e)
  ·cases hx
 ·rw[if_neg (Ne.symm hne)] at hx
  exact (h.ok t v' x hv' hx).put fun g b y e=>fun he=>hd (he ▸ (ho t g b y (by rw[<-e];exact hv')).2)
theorem Ce.put {tm:List (AV K)} {wr:List Nat} (ho:Ce tm wr) {d:Nat} {v:AV K} (hvo:∀g b y,v= .opt g b y->g∈wr):Ce (tm.set d v) (d::wr):=fun t g b y h=>by
 rcases dX h with ⟨rfl,rfl, -⟩ |⟨-,h⟩
 ·exact ⟨by simp,List.mem_cons_of_mem _ (hvo g b y rfl)⟩
 ·exact ⟨List.mem_cons_of_mem _ (ho t g b y h).1,List.mem_cons_of_mem _ (ho t g b y h).2⟩
theorem Step.grow {D:iU K} {n:Nat} (hs:ay D ρ S w H) (hs':ay D ρ' S' w' H') (st:Step D n ρ S H w ρ' S' H' w') (hn:n<=H.length):n<=H'.length:=by
 rcases Nat.eq_zero_or_pos n with h |h
 ·omega
 ·have h1:=st.pre (n-1) (by omega)
  rw[List.getElem?_eq_getElem (show n-1<ρ.length by rw[hs.len];omega)] at h1
  have:=(List.getElem?_eq_some_iff.1 h1).1;rw[hs'.len] at this;omega
theorem Step.aeA {D:iU K} (hs:ay D ρ S w H) (st:Step D H.length ρ S H w ρ' S' H' w'):∀(h:Nat) r,ρ[h]? =some r->ρ'[h]? =some r:=fun h r hr=>by
 rw[st.pre h (by rw[<-hs.len];exact (List.getElem?_eq_some_iff.1 hr).1)];exact hr
theorem ry {st:St K} {wr:List Nat} {dst:Option Nat} {v:AV K} {ok:Bool} {st':St K} {wr':List Nat} (h:abf st wr dst v H ok=some (st',wr')):
 st'.H=H /\ st'.ok=ok /\ ((dst=none /\ st'.tm=st.tm /\ wr'=wr) \/ ∃d,dst=some d /\ d∉wr /\ d<st.tm.length /\ st'.tm=st.tm.set d v /\ wr'=d::wr):=by
 unfold abf at h;split at h
 ·simp only[Option.some.injEq,Prod.mk.injEq] at h;obtain ⟨rfl,rfl⟩:=h
  exact ⟨rfl,rfl, .inl ⟨rfl,rfl,rfl⟩⟩
 ·rename_i d
  split at h
  ·cases h
  ·rename_i hc
   simp only[Bool.or_eq_true,decide_eq_true_eq,not_or,List.contains_eq_mem] at hc;simp only[Option.some.injEq,Prod.mk.injEq] at h;obtain ⟨rfl,rfl⟩:=h;exact ⟨rfl,rfl, .inr ⟨d,rfl,hc.1,by omega,rfl,rfl⟩⟩
theorem Sat.put {cx:Cx K} {a:Act} {st st':St K} {wr wr':List Nat} {o:Oper} {v:AV K} {ok:Bool} {u:Value} {n0:Nat} (dn:Sat cx ρ S a w st) (ho:Ce st.tm wr) (hp:abf st wr o.dst v H' ok=some (st',wr'))
 (hvo:∀g b y,v= .opt g b y->g∈wr) (hs':ay cx.D ρ' S' w' H') (hv:fQ cx.D ρ' S' w' a.tmps v u) (hst:Step cx.D st.H.length ρ S st.H w ρ' S' H' w'):
 Sat cx ρ' S' (a.put o.dst u) w' st' /\ Ce st'.tm wr':=by
 obtain ⟨h1,h2,h3⟩:=ry hp;have hsl:=dn.slots.mono hst.s1 (hst.ZV dn.heap) (hst.aeA dn.heap)
 rcases h3 with ⟨e1,e2,e3⟩ |⟨d,e1,e2,e3,e4,e5⟩
 ·rw[e1]
  exact ⟨⟨by rw[h1];exact hs',by rw[e2];exact hsl,dn.defers⟩,by rw[e2,e3];exact ho⟩
 ·rw[e1]
  exact ⟨⟨by rw[h1];exact hs',by rw[e4];exact hsl.put ho e2 hv hvo,dn.defers⟩,by rw[e4,e5];exact ho.put hvo⟩
theorem aeN {cx:Cx K} {ops:List Oper} {st st':St K} {wr wr':List Nat} {o:Oper} (h:XC cx ops st wr o=some (st',wr')) (hok:st'.ok=true):st.ok=true:=by
 unfold XC at h;split at h
 ·obtain ⟨-,h2, -⟩:=ry h
  rw[h2] at hok;simp only[Bool.and_eq_true] at hok;exact hok.2
 ·cases h
theorem Qj {cx:Cx K} {ops:List Oper}:∀(l:List Oper) (st st':St K) (wr wr':List Nat),wI cx ops l st wr=some (st',wr')->st'.ok=true->st.ok=true
 | [],st,st',wr,wr',h,hok=>by simp only[wI,Option.some.injEq,Prod.mk.injEq] at h;rw[h.1];exact hok
 |o::r,st,st',wr,wr',h,hok=>by
  simp only[wI] at h;split at h
  ·rename_i st1 Xd h1
   exact aeN h1 (Qj r st1 st' Xd wr' h hok)
  ·cases h
theorem XG {cx:Cx K} (hD:bz cx.D) (hc:aG cx) {ops:List Oper} {n0:Nat} {Q:Exit->Act->World->Prop}:∀(l:List Oper) (st st':St K) (wr wr':List Nat) (ρ:List Value) (S:Nat->Prop) (a:Act) (w:World),
 wI cx ops l st wr=some (st',wr')->st'.ok=true->Sat cx ρ S a w st->Ce st.tm wr->n0<=st.H.length->
 (∀ρ' S' a' w',Sat cx ρ' S' a' w' st'->Ce st'.tm wr'->Step cx.D n0 ρ S st.H w ρ' S' st'.H w'->Q .normal a' w')->wpList cx.P ops.toArray Q l a w
 | [],st,st',wr,wr',ρ,S,a,w,h,hok,dn,ho,hn,hq=>by
   simp only[wI,Option.some.injEq,Prod.mk.injEq] at h;obtain ⟨rfl,rfl⟩:=h;exact hq ρ S a w dn ho Step.refl
 |o::r,st,st',wr,wr',ρ,S,a,w,h,hok,dn,ho,hn,hq=>by
  simp only[wI] at h;split at h
  ·rename_i st1 Xd h1
   have hok1:=Qj r st1 st' Xd wr' h hok;have h1':=h1;unfold XC at h1';split at h1'
   ·rename_i v H1 c hsv
    obtain ⟨p1,p2,p3⟩:=ry h1';rw[p2] at hok1;simp only[Bool.and_eq_true] at hok1;refine wpList_step fun k hk=>YL hD hc dn.heap dn.slots hsv hok1.1 fun u ρ1 S1 w1 q1 q2 q3=>hk _ _ ?_
    obtain ⟨s1,s2⟩:=dn.put (n0:=n0) ho h1' (xQ hsv) q1 q2 q3;have hg:=q3.grow dn.heap q1 (Nat.le_refl _);refine XG (n0:=n0) hD hc r st1 st' Xd wr' ρ1 S1 _ w1 h hok s1 s2 (by rw[p1];omega) fun ρ' S' a' w' g1 g2 g3=>hq ρ' S' a' w' g1 g2 ?_
    rw[p1] at g3;exact (q3.weaken hn).trans g3
   ·cases h1'
  ·cases h
def gu (tm:List (AV K)):Prop:=∀(t g:Nat) b v,tm[t]?≠some (.opt g b v)
theorem gu.in {tm:List (AV K)} (h:gu tm):Ce tm []:=fun t g b v e=>absurd e (h t g b v)
theorem kK.wipe {D:iU K} {tmps:Array Value}:∀(wr:List Nat) (tm:List (AV K)),kK D ρ S w tm tmps->kK D ρ S w (lF tm wr) tmps
 | [],tm,h=>h
 |d::r,tm,h=>by
  simp only[lF];split
  ·refine kK.wipe r _ ⟨by simp[h.len],fun t v x hv hx=> ?_⟩
   rcases dX hv with ⟨rfl,rfl, -⟩ |⟨-,hv⟩
   ·exact .rO (.any x)
   ·exact h.ok t v x hv hx
  ·exact kK.wipe r tm h
theorem Ji : ∀(wr:List Nat) (tm:List (AV K)) (t:Nat) (v:AV K),(lF tm wr)[t]? =some v->v.wU=true->t∉wr /\ tm[t]? =some v
 | [],tm,t,v,h,hv=>⟨by simp,h⟩
 |d::r,tm,t,v,h,hv=>by
  simp only[lF] at h;split at h
  ·obtain ⟨h1,h2⟩:=Ji r _ t v h hv
   rcases dX h2 with ⟨rfl,rfl, -⟩ |⟨hne,h2⟩
   ·simp[AV.wU] at hv
   ·exact ⟨by simp[hne,h1],h2⟩
  ·rename_i hno
   obtain ⟨h1,h2⟩:=Ji r _ t v h hv;refine ⟨?_,h2⟩;simp only[List.mem_cons,not_or];refine ⟨fun e=> ?_,h1⟩
   subst e
   cases v<;>simp[AV.wU] at hv
   exact hno _ _ _ h2
theorem gu.wipe {tm:List (AV K)} {wr:List Nat} (h:Ce tm wr):gu (lF tm wr):=fun t g b v e=>by
 obtain ⟨h1,h2⟩:=Ji wr tm t _ e rfl;exact h1 (h t g b v h2).1
end Go.V
