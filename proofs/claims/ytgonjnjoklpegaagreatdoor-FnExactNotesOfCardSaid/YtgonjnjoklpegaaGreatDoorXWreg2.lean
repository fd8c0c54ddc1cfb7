/-
  A REGION IN THE ORDER OF THE TEXT.
-/
import Derived.Test.YtgonjnjoklpegaaGreatDoorXWreg
set_option linter.unusedVariables false
namespace Go.V
open Go
variable{K :cq}{ρ ρ':List Value}{S S':Nat->Prop}{w w':World}{H H':List (Ob K)}
theorem An{ops:List Oper}{o:Oper}{tmps:Array Value}{g:Nat}{wt:Bool}(h:guardOf ops o=some (some (g,wt))):
 Region.wanted o (yielded ops.toArray tmps)=true↔tmps[g]?=some (.bool wt):=by
 unfold guardOf at h;split at h
 ·cases h
 ·rename_i j w1 hgd;split at h
  ·rename_i og hog;split at h
   ·rename_i t ht;simp only[av,aJ]at h;obtain⟨rfl,rfl⟩:=h;have agH:ops.toArray[j]?=some og:=by simpa using hog
    simp only[Region.wanted,hgd,yielded,agH,Option.bind_some,ht];cases hv:tmps[t]? with
    |none=>simp
    |some z=>cases z<;>simp
   ·cases h
  ·cases h
theorem agI{ops:List Oper}{o:Oper}{y:Nat->Option Bool}(h:guardOf ops o=some none):Region.wanted o y=true:=by
 unfold guardOf at h;split at h
 ·rename_i hg;simp[Region.wanted,hg]
 ·split at h
  ·split at h<;>cases h
  ·cases h
theorem FQ{q:Bool}{cx:Cx K}(hD:bg cx.D)(hc:aI cx)(hs:aL cx.D ρ S w H){a:Act}{tm:List (AV K)}(hsl:dD cx.D ρ S w tm a.tmps){ops:List Oper}{wr:List Nat}{o:Oper}{v:AV K}{c:Bool}
 (h:fA q cx ops tm H wr o=some (v,H',c)) (hc1:c=true) {k:Act->World->Prop} {Q:Exit->Act->World->Prop}
 (hk:∀u ρ' S' w',aL cx.D ρ' S' w' H'->dk cx.D ρ' S' w' a.tmps v u->Step cx.D H.length ρ S H w ρ' S' H' w'->k (a.put o.dst u) w'):
 if Region.wanted o (yielded ops.toArray a.tmps)then o.wp cx.P a w k Q else k (a.put o.dst undef) w:=by
 unfold fA at h;split at h
 ·cases h
 ·rename_i hgd;rw[aC (agI hgd)];split at h
  ·rename_i v1 H1 c1 t1 hy;split at h
   ·cases h
   simp only[av,aJ]at h;obtain⟨rfl,rfl,rfl⟩:=h;exact GN hD hc hs hsl (gs:=[]) (fun p hp=>by simp at hp) hy hc1 fun u ρ' S' w' h1 h2 h3=>hk u ρ' S' w' h1 (.gU h2) h3
  ·cases h
 ·rename_i g wt hgd;split at h
  ·rename_i b0 hkn;split at h
   ·rename_i b TJ;have hval:a.tmps[g]?=some (.bool b):=by
     have hlt:g<a.tmps.size:=by rw[<-hsl.len];exact(bk.1 TJ).1
     have hx:=uo hlt;have:=hsl.ok g _ _ TJ hx;rw[hx,ij this]
    split at h
    ·rename_i hbw;split at h
     ·rename_i v1 H1 c1 t1 hy;split at h
      ·cases h
      simp only[av,aJ]at h;obtain⟨rfl,rfl,rfl⟩:=h;simp only[bc,iH]at hc1;obtain⟨hc1,rfl⟩:=hc1;rw[aC ((An hgd).2 (by rw[hval,hbw]))];exact GN hD hc hs hsl (gs:=[]) (fun p hp=>by simp at hp) hy hc1 fun u ρ' S' w' h1 h2 h3=>hk u ρ' S' w' h1 (.gU h2) h3
     ·cases h
    ·rename_i hbw;simp only[av,aJ]at h;obtain⟨rfl,rfl,rfl⟩:=h;have hbb:b=b0:=by simpa using hc1
     rw[ax (fun hh=>hbw (by have:=(An hgd).1 hh;rw[hval]at this;simp at this;rw[<-hbb];exact this))];exact hk undef ρ S w hs (.gU (.any _)) Step.refl
   ·cases h
  split at h
  ·cases h
  ·rename_i b hb;split at h
   ·rename_i hsm;simp only[bc]at hsm;split at h
    ·rename_i v1 H1 c1 t1 hy;simp only[av,aJ]at h;obtain⟨rfl,rfl,rfl⟩:=h;have hbt:=Qy hsl 6 g wt b hb;by_cases hw:a.tmps[g]?=some (.bool wt)
     ·rw[aC ((An hgd).2 hw)];have hb1:b=true:=hbt.2 hw;subst hb1;have hc1':c1=true:=by simpa using hc1
      have hH:H1=H:=uV hy;subst hH;exact GN hD hc hs hsl (gs:=[(g,wt)]) (fun p hp=>by simp at hp;subst hp;exact hw) hy hc1' fun u ρ' S' w' h1 h2 h3=>hk u ρ' S' w' h1 (.inl ⟨hw,h2⟩) h3
     ·rw[ax (fun hh=>hw ((An hgd).1 hh))];exact hk undef ρ S w hs (.inr ⟨hw,rfl⟩) Step.refl
    ·cases h
   ·cases h
theorem qX{q:Bool}{cx:Cx K}{ops:List Oper}{tm:List (AV K)}{wr:List Nat}{o:Oper}{v:AV K}{c:Bool}(h:fA q cx ops tm H wr o=some (v,H',c)):∀g wt v1,v=.opt g wt v1->g∈wr:=by
 intro g' wt' v' e;unfold fA at h;split at h
 ·cases h
 ·split at h
  ·split at h
   ·cases h
   ·rename_i hno;simp only[av,aJ]at h;obtain⟨rfl,rfl,rfl⟩:=h;subst e;simp[AV.fZ]at hno
  ·cases h
 ·rename_i g wt hgd;split at h
  ·split at h
   ·split at h
    ·split at h
     ·split at h
      ·cases h
      ·rename_i hno;simp only[av,aJ]at h;obtain⟨rfl,rfl,rfl⟩:=h;subst e;simp[AV.fZ]at hno
     ·cases h
    ·simp only[av,aJ]at h;obtain⟨rfl,-,-⟩:=h;cases e
   ·cases h
  split at h
  ·cases h
  ·split at h
   ·rename_i hsm;simp only[bc]at hsm;split at h
    ·simp only[av,aJ]at h;obtain⟨rfl,rfl,rfl⟩:=h;simp only[AV.opt.injEq]at e;obtain⟨rfl,rfl,rfl⟩:=e;simpa using hsm.2
    ·cases h
   ·cases h
def iU(tm:List (AV K))(wr:List Nat):Prop:=∀(t g:Nat) b v,tm[t]?=some (.opt g b v)->t∈wr/\g∈wr
structure Sat (cx:Cx K) (ρ:List Value) (S:Nat->Prop) (a:Act) (w:World) (st:St K):Prop where
 heap:aL cx.D ρ S w st.H
 slots:dD cx.D ρ S w st.tm a.tmps
 defers:a.defers=[]
theorem dk.put{D:aY K}{tmps:Array Value}{d:Nat}{u:Value}{v:AV K}{x:Value}(h:dk D ρ S w tmps v x)(hv:∀g b y,v=.opt g b y->g≠d):dk D ρ S w (tmps.setIfInBounds d u) v x:=by
 cases v<;>first|exact h|skip
 rename_i g b y;have hg:=hv g b y rfl;simp only[dk,lr,ax (lu hg)]at h⊢;exact h
theorem dD.put{D:aY K}{tm:List (AV K)}{tmps:Array Value}{wr:List Nat}(h:dD D ρ S w tm tmps)(ho:iU tm wr){d:Nat}(hd:d∉wr){v:AV K}{u:Value}(hv:dk D ρ S w tmps v u)(u6:∀g b y,v=.opt g b y->g∈wr):
 dD D ρ S w (tm.set d v) (tmps.setIfInBounds d u):=by
 refine⟨by simp[h.len],fun t v' x hv' hx=>?_⟩;rw[lr]at hx;rcases dt hv' with⟨rfl,rfl,hl⟩|⟨hne,hv'⟩
 ·rw[aC rfl]at hx;split at hx
  ·simp at hx;subst hx;exact hv.put fun g b y e=>fun he=>hd (he ▸ u6 g b y e)
  ·cases hx
 ·rw[ax (lu hne)]at hx;exact(h.ok t v' x hv' hx).put fun g b y e=>fun he=>hd (he ▸ (ho t g b y (by rw[<-e];exact hv')).2)
theorem iU.put{tm:List (AV K)}{wr:List Nat}(ho:iU tm wr){d:Nat}{v:AV K}(u6:∀g b y,v=.opt g b y->g∈wr):iU (tm.set d v) (d::wr):=fun t g b y h=>by
 rcases dt h with⟨rfl,rfl,-⟩|⟨-,h⟩
 ·exact⟨by simp,tX _ (u6 g b y rfl)⟩
 ·exact⟨tX _ (ho t g b y h).1,tX _ (ho t g b y h).2⟩
theorem Step.grow{D:aY K}{n:Nat}(hs:aL D ρ S w H)(hs':aL D ρ' S' w' H')(st:Step D n ρ S H w ρ' S' H' w')(hn:n<=H.length):n<=H'.length:=by
 rcases iz n with h|h
 ·omega
 ·have h1:=st.pre (n-1) (by omega);rw[bL (show n-1<ρ.length by rw[hs.len];omega)]at h1;have:=(bk.1 h1).1;rw[hs'.len]at this;omega
theorem Step.FO{D:aY K}(hs:aL D ρ S w H)(st:Step D H.length ρ S H w ρ' S' H' w'):∀(h:Nat) r,ρ[h]?=some r->ρ'[h]?=some r:=fun h r hr=>by
 rw[st.pre h (by rw[<-hs.len];exact(bk.1 hr).1)];exact hr
theorem mH{st:St K}{wr:List Nat}{dst:Option Nat}{v:AV K}{ok:Bool}{st':St K}{wr':List Nat}(h:qR st wr dst v H ok=some (st',wr')):
 st'.H=H/\st'.ok=ok/\((dst=none/\st'.tm=st.tm/\wr'=wr)\/∃d,dst=some d/\d∉wr/\d<st.tm.length/\st'.tm=st.tm.set d v/\wr'=d::wr):=by
 unfold qR at h;split at h
 ·simp only[av,aJ]at h;obtain⟨rfl,rfl⟩:=h;exact⟨rfl,rfl,.inl ⟨rfl,rfl,rfl⟩⟩
 ·rename_i d;split at h
  ·cases h
  ·rename_i hc;simp only[fU,bP,k9,ui]at hc;simp only[av,aJ]at h;obtain⟨rfl,rfl⟩:=h;exact⟨rfl,rfl,.inr ⟨d,rfl,hc.1,by omega,rfl,rfl⟩⟩
theorem Sat.put{cx:Cx K}{a:Act}{st st':St K}{wr wr':List Nat}{o:Oper}{v:AV K}{ok:Bool}{u:Value}{n0:Nat}(ba:Sat cx ρ S a w st)(ho:iU st.tm wr)(hp:qR st wr o.dst v H' ok=some (st',wr'))
 (u6:∀g b y,v=.opt g b y->g∈wr) (hs':aL cx.D ρ' S' w' H') (hv:dk cx.D ρ' S' w' a.tmps v u) (hst:Step cx.D st.H.length ρ S st.H w ρ' S' H' w'):
 Sat cx ρ' S' (a.put o.dst u) w' st'/\iU st'.tm wr':=by
 obtain⟨h1,h2,h3⟩:=mH hp;have hsl:=ba.slots.mono hst.s1 (hst.we ba.heap) (hst.FO ba.heap);rcases h3 with⟨e1,e2,e3⟩|⟨d,e1,e2,e3,e4,e5⟩
 ·rw[e1];exact⟨⟨by rw[h1];exact hs',by rw[e2];exact hsl,ba.defers⟩,by rw[e2,e3];exact ho⟩
 ·rw[e1];exact⟨⟨by rw[h1];exact hs',by rw[e4];exact hsl.put ho e2 hv u6,ba.defers⟩,by rw[e4,e5];exact ho.put u6⟩
theorem agJ{cx:Cx K}{ops:List Oper}{st st':St K}{wr wr':List Nat}{o:Oper}(h:uP cx ops st wr o=some (st',wr'))(hok:st'.ok=true):st.ok=true:=by
 unfold uP at h;split at h
 ·obtain⟨-,h2,-⟩:=mH h;rw[h2]at hok;simp only[bc]at hok;exact hok.2
 ·cases h
theorem FW{cx:Cx K}{ops:List Oper}:∀(l:List Oper)(st st':St K)(wr wr':List Nat),iS cx ops l st wr=some (st',wr')->st'.ok=true->st.ok=true
 |[],st,st',wr,wr',h,hok=>by simp only[iS,av,aJ]at h;rw[h.1];exact hok
 |o::r,st,st',wr,wr',h,hok=>by
  simp only[iS]at h;split at h
  ·rename_i st1 fl h1;exact agJ h1 (FW r st1 st' fl wr' h hok)
  ·cases h
theorem Rz{cx:Cx K}(hD:bg cx.D)(hc:aI cx){ops:List Oper}{n0:Nat}{Q:Exit->Act->World->Prop}:∀(l:List Oper)(st st':St K)(wr wr':List Nat)(ρ:List Value)(S:Nat->Prop)(a:Act)(w:World),
 iS cx ops l st wr=some (st',wr')->st'.ok=true->Sat cx ρ S a w st->iU st.tm wr->n0<=st.H.length->
 (∀ρ' S' a' w',Sat cx ρ' S' a' w' st'->iU st'.tm wr'->Step cx.D n0 ρ S st.H w ρ' S' st'.H w'->Q .normal a' w')->wpList cx.P ops.toArray Q l a w
 |[],st,st',wr,wr',ρ,S,a,w,h,hok,ba,ho,hn,hq=>by
   simp only[iS,av,aJ]at h;obtain⟨rfl,rfl⟩:=h;exact hq ρ S a w ba ho Step.refl
 |o::r,st,st',wr,wr',ρ,S,a,w,h,hok,ba,ho,hn,hq=>by
  simp only[iS]at h;split at h
  ·rename_i st1 fl h1;have hok1:=FW r st1 st' fl wr' h hok;have h1':=h1;unfold uP at h1';split at h1'
   ·rename_i v H1 c hsv;obtain⟨p1,p2,p3⟩:=mH h1';rw[p2]at hok1;simp only[bc]at hok1;refine wpList_step fun k hk=>FQ hD hc ba.heap ba.slots hsv hok1.1 fun u ρ1 S1 w1 q1 q2 q3=>hk _ _ ?_
    obtain⟨s1,s2⟩:=ba.put (n0:=n0) ho h1' (qX hsv) q1 q2 q3;have hg:=q3.grow ba.heap q1 (bu _);refine Rz (n0:=n0) hD hc r st1 st' fl wr' ρ1 S1 _ w1 h hok s1 s2 (by rw[p1];omega) fun ρ' S' a' w' g1 g2 g3=>hq ρ' S' a' w' g1 g2 ?_
    rw[p1]at g3;exact(q3.weaken hn).trans g3
   ·cases h1'
  ·cases h
def cH(tm:List (AV K)):Prop:=∀(t g:Nat) b v,tm[t]?≠some (.opt g b v)
theorem cH.in{tm:List (AV K)}(h:cH tm):iU tm []:=fun t g b v e=>absurd e (h t g b v)
theorem dD.wipe{D:aY K}{tmps:Array Value}:∀(wr:List Nat)(tm:List (AV K)),dD D ρ S w tm tmps->dD D ρ S w (f0 tm wr) tmps
 |[],tm,h=>h
 |d::r,tm,h=>by
  simp only[f0];split
  ·refine dD.wipe r _ ⟨by simp[h.len],fun t v x hv hx=>?_⟩;rcases dt hv with⟨rfl,rfl,-⟩|⟨-,hv⟩
   ·exact .gU (.any x)
   ·exact h.ok t v x hv hx
  ·exact dD.wipe r tm h
theorem GQ:∀(wr:List Nat)(tm:List (AV K))(t:Nat)(v:AV K),(f0 tm wr)[t]?=some v->v.fZ=true->t∉wr/\tm[t]?=some v
 |[],tm,t,v,h,hv=>⟨by simp,h⟩
 |d::r,tm,t,v,h,hv=>by
  simp only[f0]at h;split at h
  ·obtain⟨h1,h2⟩:=GQ r _ t v h hv;rcases dt h2 with⟨rfl,rfl,-⟩|⟨hne,h2⟩
   ·simp[AV.fZ]at hv
   ·exact⟨by simp[hne,h1],h2⟩
  ·rename_i hno;obtain⟨h1,h2⟩:=GQ r _ t v h hv;refine⟨?_,h2⟩;simp only[eJ,k9];refine⟨fun e=>?_,h1⟩;subst e;cases v<;>simp[AV.fZ]at hv;exact hno _ _ _ h2
theorem cH.wipe{tm:List (AV K)}{wr:List Nat}(h:iU tm wr):cH (f0 tm wr):=fun t g b v e=>by
 obtain⟨h1,h2⟩:=GQ wr tm t _ e rfl;exact h1 (h t g b v h2).1
end Go.V
