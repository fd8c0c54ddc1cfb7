/-
  ONE OPERATION IN ITS FRAME; A REGION IN THE ORDER OF THE TEXT.
-/
import Derived.Test.YtghkckfhaljjjaaGreatDoorXWdeepA
set_option linter.unusedVariables false
namespace Go.V
open Go
variable {K :dh}{ρ ρ':List Value}{S S':Nat->Prop}{w w':World}{H H':List (Ob K)}
theorem Kz{D:bH K}{P:Program}{o:Oper}{a:Act}{v:AV K}(h:Does D P ρ S H w (execOp a.eval o) v H'){k:Act->World->Prop}{Q:Exit->Act->World->Prop}
 (hk:∀u ρ' S' w',aS D ρ' S' w' H'->Rep D ρ' S' w' v u->Step D H.length ρ S H w ρ' S' H' w'->k (a.put o.dst u) w'):o.wp P a w k Q:=by
 obtain⟨n,u,w',ρ',h1,h2,h3,h4,h5⟩:=h;unfold Oper.wp;rw[h1];rcases h2 with rfl|⟨rfl,rfl⟩
 ·exact hk u ρ' S w' h3 h4 h5
 ·exact hk _ ρ' S w' h3 h4 h5
theorem KA{q:Bool}{cx:Cx K}(hD:bR cx.D)(hc:aP cx)(hs:aS cx.D ρ S w H){a:Act}{tm:List (AV K)}(hsl:fb cx.D ρ S w tm a.tmps){gs:List (Nat×Bool)}(hg:∀p∈gs,a.tmps[p.1]?=some (.bool p.2)){o:Oper}{v:AV K}{c:Bool}{t:List Nat}
 (h:lj q cx tm gs H o.type o.op=some (v,H',c,t)) (hc1:c=true) {k:Act->World->Prop} {Q:Exit->Act->World->Prop}
 (hk:∀u ρ' S' w',aS cx.D ρ' S' w' H'->Rep cx.D ρ' S' w' v u->Step cx.D H.length ρ S H w ρ' S' H' w'->k (a.put o.dst u) w'):o.wp cx.P a w k Q:=by
 have hev:=CZ hsl hg;unfold lj at h;split at h
 ·
  rename_i cnd x y hop;have key:∀(b:Bool)(gx gy:List (Nat×Bool)),a.eval cnd=.bool b->(b=true->∀p∈gx,a.tmps[p.1]?=some (.bool p.2))->(b=false->∀p∈gy,a.tmps[p.1]?=some (.bool p.2))->v=merge b (dP tm gx x) (dP tm gy y)->H'=H->o.wp cx.P a w k Q:=by
   intro b gx gy hb h1 h2 hv hH;subst hH;unfold Oper.wp execOp;rw[hop];dsimp only;have:(do pure (.value (if<-asBool (a.eval cnd)then a.eval x else a.eval y)):Sem Next).run cx.P w=.ok (.value (if b then a.eval x else a.eval y)) w:=by rw[hb];simp[asBool]
   rw[this];refine hk _ ρ S w hs ?_ Step.refl;rw[hv];refine Oc (fun e=>?_) (fun e=>?_)
   ·subst e;exact CZ hsl (h1 rfl) x
   ·subst e;exact CZ hsl (h2 rfl) y
  split at h
  ·rename_i tt b hcv;have hb:=hev (.tmp tt);rw[hcv]at hb;have hb':=ky hb;split at h
   ·rename_i b0 _;simp only[av,aZ]at h;obtain⟨hv,hH,hcc,-⟩:=h;rw[hc1]at hcc;have hbb:b=b0:=by simpa using hcc
    subst hbb;subst hH;unfold Oper.wp execOp;rw[hop];dsimp only;have:(do pure (.value (if<-asBool (a.eval (.tmp tt))then a.eval x else a.eval y)):Sem Next).run cx.P w=.ok (.value (if b then a.eval x else a.eval y)) w:=by rw[hb'];simp[asBool]
    rw[this];refine hk _ ρ S w hs ?_ Step.refl;rw[<-hv];cases b
    ·exact hev y
    ·exact hev x
   simp only[av,aZ]at h;obtain⟨hv,hH,-,-⟩:=h;have hget:a.tmps[tt]?=some (.bool b):=by
    simp only[Act.eval,gu]at hb';cases hh:a.tmps[tt]? with
    |none=>rw[hh]at hb';simp[undef]at hb'
    |some z=>rw[hh]at hb';simp at hb';rw[hb']
   exact key b _ _ hb' (fun e p hp=>by subst e;rcases jm.1 hp with rfl|hp;exact hget;exact hg p hp) (fun e p hp=>by subst e;rcases jm.1 hp with rfl|hp;exact hget;exact hg p hp) hv.symm hH.symm
  ·rename_i cv b hcv;simp only[av,aZ]at h;obtain⟨hv,hH,-,-⟩:=h;have hb:=hev (.const cv);rw[hcv]at hb;exact key b _ _ (ky hb) (fun _=>hg) (fun _=>hg) hv.symm hH.symm
  ·cases h
 ·
  rename_i f args ats hop;have hf:=hev f;split at h
  ·rename_i g caps hfv;have hcall:=h;rw[hc1]at hcall
   ·skip
    rw[hfv]at hf;generalize hF:a.eval f=F at hf;cases hf with
    |fn hl hr=>
     rename_i cs;have hargs:=(QL (fun x=>oi hs _ _ (hev x)) args.toList).append (⟨hl,hr⟩:bh cx.D ρ S w caps cs);obtain⟨⟨fn,hfn,hname,hbody⟩,lM⟩:=aer hD hc hs hcall hargs;unfold Oper.wp execOp;rw[hop];dsimp only;have hrun:(do let d<-resolve a.eval {callee:=.value f,args:=args,argTypes:=ats} o.type;invoke d.target d.args:Sem Next).run cx.P w=.ok (.enter g (args.toList.map a.eval++cs).toArray) w:=by
      simp only[resolve,hF,Deferred.ofValue,Sem.run_bind,Sem.run_pure,Result.andThen_ok,invoke,callFunc,run_program];rw[hfn];simp only[hname,hbody,oj,oq,Sem.run_pure];congr 2;apply Array.ext';simp
     rw[hrun,Oper.upon_enter];refine lM.mono ?_
     rintro e w' ⟨u,ρ',S',rfl,h1,h2,h3⟩
     exact hk u ρ' S' w' h1 h2 h3
  ·cases h
 ·
  rename_i x hop;have hrun:∀(v':AV K),Rep cx.D ρ S w v' (a.eval x)->v=v'->H'=H->o.wp cx.P a w k Q:=fun v' h1 h2 h3=>by
   subst h2;subst h3;unfold Oper.wp execOp;rw[hop];exact hk _ ρ S w hs h1 Step.refl
  split at h
  ·rename_i hq;split at h
   ·split at h
    ·rename_i c _;simp only[av,aZ]at h;obtain⟨rfl,rfl,rfl,rfl⟩:=h;simp only[cG]at hq;have hx:x=.const (.slice none 0 0):=by
      have:=hq.2;unfold Jk at this;split at this
      ·rfl
      ·cases this
     obtain⟨n1,n2⟩:=QM hs c (cx.deep c);unfold Oper.wp execOp;rw[hop,hx];exact hk _ _ S w n1 (.sl (by rw[eR (by rw[hs.len];exact fh _)];simp[hs.len])) n2
    ·simp only[av,aZ]at h;exact hrun _ (hev x) h.1.symm h.2.1.symm
   ·simp only[av,aZ]at h;exact hrun _ (hev x) h.1.symm h.2.1.symm
  ·simp only[av,aZ]at h;exact hrun _ (oi hs _ _ (hev x)) h.1.symm h.2.1.symm
 ·split at h
  ·rename_i v1 c1 hp;simp only[av,aZ]at h;obtain⟨rfl,rfl,rfl,rfl⟩:=h;obtain⟨u,hu,hr⟩:=OL hD hs (fun x=>oi hs _ _ (hev x)) hp hc1;unfold Oper.wp;rw[hu];exact hk u ρ S w hs hr Step.refl
  ·split at h
   ·obtain⟨rfl,u,w1,S1,g1,g2,g3,g4⟩:=afE hD hs (fun x=>oi hs _ _ (hev x)) h hc1;unfold Oper.wp;rw[g1];exact hk u ρ S1 w1 g2 g3 g4
   ·split at h
    ·cases h
    split at h
    ·rename_i hov;simp only[av]at h;rw[h]at hov;exact Kz (aeq hD hs hev hov) fun u ρ' S' w' a1 a2 a3=>hk u ρ' S' w' a1 a2 a3
    split at h
    ·rename_i hct;simp only[av]at h;rw[h]at hct;exact Kz (afD hs hev hct hc1) fun u ρ' S' w' a1 a2 a3=>hk u ρ' S' w' a1 a2 a3
    ·obtain⟨S1,H1,g1,g2,g3⟩:=aep hD hs hev h hc1;refine Kz g3 fun u ρ' S' w' a1 a2 a3=>hk u ρ' S' w' a1 a2 ?_
     rw[g2]at a3;exact g1.trans a3
theorem KB{cx:Cx K}{f:FuncId}{args:List (AV K)}{v:AV K}{c:Bool}{t:List Nat}(hcall:kX cx .plain H f args=some (v,H',c,t)):H'=H:=by
 unfold kX at hcall;dsimp only at hcall;split at hcall
 ·split at hcall
  ·split at hcall
   ·simp only[av,aZ]at hcall;exact hcall.2.1.symm
   ·cases hcall
  ·cases hcall
 ·cases hcall
theorem af2{cx:Cx K}{ev:Operand->AV K}{op:Op}{v:AV K}{c:Bool}{t:List Nat}(h:yX cx ev H op=some (v,H',c,t)):H'=H:=by
 unfold yX at h;split at h
 ·split at h
  ·cases h
  ·split at h
   ·split at h
    ·split at h
     ·simp only[av,aZ]at h;exact h.2.1.symm
     ·cases h
    ·cases h
   ·cases h
 ·cases h
theorem wF{cx:Cx K}{tm:List (AV K)}{gs:List (Nat×Bool)}{T:TypeId}{op:Op}{v:AV K}{c:Bool}{t:List Nat}(h:lj true cx tm gs H T op=some (v,H',c,t)):H'=H:=by
 unfold lj at h;split at h
 ·split at h
  ·split at h
   ·simp only[av,aZ]at h;exact h.2.1.symm
   ·simp only[av,aZ]at h;exact h.2.1.symm
  ·simp only[av,aZ]at h;exact h.2.1.symm
  ·cases h
 ·split at h
  ·unfold ae5 at h;simp only[dT,Bool.and_false,oj,oq]at h;unfold pN at h;split at h
   ·exact KB h
   ·split at h
    ·rename_i r hr;simp only[av]at h;subst h;exact KB hr
    ·simp at h
   all_goals simp at h
  ·cases h
 ·simp only[dT,cL,oj,oq,av,aZ]at h;exact h.2.1.symm
 ·split at h
  ·simp only[av,aZ]at h;exact h.2.1.symm
  ·simp only[pW]at h;exact af2 h
theorem Pm{q:Bool}{cx:Cx K}{tm:List (AV K)}{gs:List (Nat×Bool)}{T:TypeId}{op:Op}{v:AV K}{c:Bool}{t:List Nat}(hs:ja cx op=true)(h:lj q cx tm gs H T op=some (v,H',c,t)):H'=H:=by
 cases q with
 |true=>exact wF h
 |false=>
 unfold lj at h;split at h
 ·split at h
  ·split at h
   ·simp only[av,aZ]at h;exact h.2.1.symm
   ·simp only[av,aZ]at h;exact h.2.1.symm
  ·simp only[av,aZ]at h;exact h.2.1.symm
  ·cases h
 ·rename_i f args ats;cases f<;>simp only[ja]at hs<;>try (cases hs;done)
  rename_i g;simp only[dP]at h;have hm:cx.mode g=.plain/\(cx.opn=false\/cx.lz=true):=by simpa using hs
  unfold ae5 at h;have JR:(cx.opn&& !cx.lz&& !false)=false:=by rcases hm.2 with e|e<;>simp[e]
  rw[JR]at h;simp only[oj,oq]at h
  replace hm:=hm.1
  unfold pN at h;rw[hm]at h;exact KB h
 ·simp only[ja,fk]at hs;rw[hs]at h;simp only[Bool.and_false,oj,oq,av,aZ]at h;exact h.2.1.symm
 ·split at h
  ·simp only[av,aZ]at h;exact h.2.1.symm
  ·rw[hs]at h;simp at h
end Go.V
namespace Go.V
open Go
variable {K :dh}{ρ ρ':List Value}{S S':Nat->Prop}{w w':World}{H H':List (Ob K)}
theorem Ef{ops:List Oper}{o:Oper}{tmps:Array Value}{g:Nat}{wt:Bool}(h:guardOf ops o=some (some (g,wt))):
 Region.wanted o (yielded ops.toArray tmps)=true↔tmps[g]?=some (.bool wt):=by
 unfold guardOf at h;split at h
 ·cases h
 ·rename_i j w1 hgd;split at h
  ·rename_i og hog;split at h
   ·rename_i t ht;simp only[av,aZ]at h;obtain⟨rfl,rfl⟩:=h;have af4:ops.toArray[j]?=some og:=by simpa using hog
    simp only[Region.wanted,hgd,yielded,af4,Option.bind_some,ht];cases hv:tmps[t]? with
    |none=>simp
    |some z=>cases z<;>simp
   ·cases h
  ·cases h
theorem af5{ops:List Oper}{o:Oper}{y:Nat->Option Bool}(h:guardOf ops o=some none):Region.wanted o y=true:=by
 unfold guardOf at h;split at h
 ·rename_i hg;simp[Region.wanted,hg]
 ·split at h
  ·split at h<;>cases h
  ·cases h
theorem Jz{q:Bool}{cx:Cx K}(hD:bR cx.D)(hc:aP cx)(hs:aS cx.D ρ S w H){a:Act}{tm:List (AV K)}(hsl:fb cx.D ρ S w tm a.tmps){ops:List Oper}{wr:List Nat}{o:Oper}{v:AV K}{c:Bool}
 (h:iM q cx ops tm H wr o=some (v,H',c)) (hc1:c=true) {k:Act->World->Prop} {Q:Exit->Act->World->Prop}
 (hk:∀u ρ' S' w',aS cx.D ρ' S' w' H'->eM cx.D ρ' S' w' a.tmps v u->Step cx.D H.length ρ S H w ρ' S' H' w'->k (a.put o.dst u) w'):
 if Region.wanted o (yielded ops.toArray a.tmps)then o.wp cx.P a w k Q else k (a.put o.dst undef) w:=by
 unfold iM at h;split at h
 ·cases h
 ·rename_i hgd;rw[aY (af5 hgd)];split at h
  ·rename_i v1 H1 c1 t1 hy;split at h
   ·cases h
   simp only[av,aZ]at h;obtain⟨rfl,rfl,rfl⟩:=h;exact KA hD hc hs hsl (gs:=[]) (fun p hp=>by simp at hp) hy hc1 fun u ρ' S' w' h1 h2 h3=>hk u ρ' S' w' h1 (.jR h2) h3
  ·cases h
 ·rename_i g wt hgd;split at h
  ·rename_i b0 hkn;split at h
   ·rename_i b QN;have hval:a.tmps[g]?=some (.bool b):=by
     have hlt:g<a.tmps.size:=by rw[<-hsl.len];exact(bD.1 QN).1
     have hx:=wm hlt;have:=hsl.ok g _ _ QN hx;rw[hx,ky this]
    split at h
    ·rename_i hbw;split at h
     ·rename_i v1 H1 c1 t1 hy;split at h
      ·cases h
      simp only[av,aZ]at h;obtain⟨rfl,rfl,rfl⟩:=h;simp only[cG,cK]at hc1;obtain⟨hc1,rfl⟩:=hc1;rw[aY ((Ef hgd).2 (by rw[hval,hbw]))];exact KA hD hc hs hsl (gs:=[]) (fun p hp=>by simp at hp) hy hc1 fun u ρ' S' w' h1 h2 h3=>hk u ρ' S' w' h1 (.jR h2) h3
     ·cases h
    ·rename_i hbw;simp only[av,aZ]at h;obtain⟨rfl,rfl,rfl⟩:=h;have hbb:b=b0:=by simpa using hc1
     rw[aT (fun hh=>hbw (by have:=(Ef hgd).1 hh;rw[hval]at this;simp at this;rw[<-hbb];exact this))];exact hk undef ρ S w hs (.jR (.any _)) Step.refl
   ·cases h
  split at h
  ·cases h
  ·rename_i b hb;split at h
   ·rename_i hsm;simp only[cG]at hsm;split at h
    ·rename_i v1 H1 c1 t1 hy;simp only[av,aZ]at h;obtain⟨rfl,rfl,rfl⟩:=h;have hbt:=N5 hsl 6 g wt b hb;by_cases hw:a.tmps[g]?=some (.bool wt)
     ·rw[aY ((Ef hgd).2 hw)];have hb1:b=true:=hbt.2 hw;subst hb1;have hc1':c1=true:=by simpa using hc1
      have hH:H1=H:=wF hy;subst hH;exact KA hD hc hs hsl (gs:=[(g,wt)]) (fun p hp=>by simp at hp;subst hp;exact hw) hy hc1' fun u ρ' S' w' h1 h2 h3=>hk u ρ' S' w' h1 (.inl ⟨hw,h2⟩) h3
     ·rw[aT (fun hh=>hw ((Ef hgd).1 hh))];exact hk undef ρ S w hs (.inr ⟨hw,rfl⟩) Step.refl
    ·cases h
   ·cases h
theorem uy{q:Bool}{cx:Cx K}{ops:List Oper}{tm:List (AV K)}{wr:List Nat}{o:Oper}{v:AV K}{c:Bool}(h:iM q cx ops tm H wr o=some (v,H',c)):∀g wt v1,v=.opt g wt v1->g∈wr:=by
 intro g' wt' v' e;unfold iM at h;split at h
 ·cases h
 ·split at h
  ·split at h
   ·cases h
   ·rename_i hno;simp only[av,aZ]at h;obtain⟨rfl,rfl,rfl⟩:=h;subst e;simp[AV.jr]at hno
  ·cases h
 ·rename_i g wt hgd;split at h
  ·split at h
   ·split at h
    ·split at h
     ·split at h
      ·cases h
      ·rename_i hno;simp only[av,aZ]at h;obtain⟨rfl,rfl,rfl⟩:=h;subst e;simp[AV.jr]at hno
     ·cases h
    ·simp only[av,aZ]at h;obtain⟨rfl,-,-⟩:=h;cases e
   ·cases h
  split at h
  ·cases h
  ·split at h
   ·rename_i hsm;simp only[cG]at hsm;split at h
    ·simp only[av,aZ]at h;obtain⟨rfl,rfl,rfl⟩:=h;simp only[AV.opt.injEq]at e;obtain⟨rfl,rfl,rfl⟩:=e;simpa using hsm.2
    ·cases h
   ·cases h
def ln(tm:List (AV K))(wr:List Nat):Prop:=∀(t g:Nat) b v,tm[t]?=some (.opt g b v)->t∈wr/\g∈wr
structure Sat (cx:Cx K) (ρ:List Value) (S:Nat->Prop) (a:Act) (w:World) (st:St K):Prop where
 heap:aS cx.D ρ S w st.H
 slots:fb cx.D ρ S w st.tm a.tmps
 defers:a.defers=[]
theorem eM.put{D:bH K}{tmps:Array Value}{d:Nat}{u:Value}{v:AV K}{x:Value}(h:eM D ρ S w tmps v x)(hv:∀g b y,v=.opt g b y->g≠d):eM D ρ S w (tmps.setIfInBounds d u) v x:=by
 cases v<;>first|exact h|skip
 rename_i g b y;have hg:=hv g b y rfl;simp only[eM,kx,aT (ot hg)]at h⊢;exact h
theorem fb.put{D:bH K}{tm:List (AV K)}{tmps:Array Value}{wr:List Nat}(h:fb D ρ S w tm tmps)(ho:ln tm wr){d:Nat}(hd:d∉wr){v:AV K}{u:Value}(hv:eM D ρ S w tmps v u)(wP:∀g b y,v=.opt g b y->g∈wr):
 fb D ρ S w (tm.set d v) (tmps.setIfInBounds d u):=by
 refine⟨by simp[h.len],fun t v' x hv' hx=>?_⟩;rw[kx]at hx;rcases fj hv' with⟨rfl,rfl,hl⟩|⟨hne,hv'⟩
 ·rw[aY rfl]at hx;split at hx
  ·simp at hx;subst hx;exact hv.put fun g b y e=>fun he=>hd (he ▸ wP g b y e)
  ·cases hx
 ·rw[aT (ot hne)]at hx;exact(h.ok t v' x hv' hx).put fun g b y e=>fun he=>hd (he ▸ (ho t g b y (by rw[<-e];exact hv')).2)
theorem ln.put{tm:List (AV K)}{wr:List Nat}(ho:ln tm wr){d:Nat}{v:AV K}(wP:∀g b y,v=.opt g b y->g∈wr):ln (tm.set d v) (d::wr):=fun t g b y h=>by
 rcases fj h with⟨rfl,rfl,-⟩|⟨-,h⟩
 ·exact⟨by simp,Ds _ (wP g b y rfl)⟩
 ·exact⟨Ds _ (ho t g b y h).1,Ds _ (ho t g b y h).2⟩
theorem Step.grow{D:bH K}{n:Nat}(hs:aS D ρ S w H)(hs':aS D ρ' S' w' H')(st:Step D n ρ S H w ρ' S' H' w')(hn:n<=H.length):n<=H'.length:=by
 rcases mn n with h|h
 ·omega
 ·have h1:=st.pre (n-1) (by omega);rw[cH (show n-1<ρ.length by rw[hs.len];omega)]at h1;have:=(bD.1 h1).1;rw[hs'.len]at this;omega
theorem Step.Jw{D:bH K}(hs:aS D ρ S w H)(st:Step D H.length ρ S H w ρ' S' H' w'):∀(h:Nat) r,ρ[h]?=some r->ρ'[h]?=some r:=fun h r hr=>by
 rw[st.pre h (by rw[<-hs.len];exact(bD.1 hr).1)];exact hr
theorem qc{st:St K}{wr:List Nat}{dst:Option Nat}{v:AV K}{ok:Bool}{st':St K}{wr':List Nat}(h:uj st wr dst v H ok=some (st',wr')):
 st'.H=H/\st'.ok=ok/\((dst=none/\st'.tm=st.tm/\wr'=wr)\/∃d,dst=some d/\d∉wr/\d<st.tm.length/\st'.tm=st.tm.set d v/\wr'=d::wr):=by
 unfold uj at h;split at h
 ·simp only[av,aZ]at h;obtain⟨rfl,rfl⟩:=h;exact⟨rfl,rfl,.inl ⟨rfl,rfl,rfl⟩⟩
 ·rename_i d;split at h
  ·cases h
  ·rename_i hc;simp only[ej,bB,not_or,rF]at hc;simp only[av,aZ]at h;obtain⟨rfl,rfl⟩:=h;exact⟨rfl,rfl,.inr ⟨d,rfl,hc.1,by omega,rfl,rfl⟩⟩
theorem Sat.put{cx:Cx K}{a:Act}{st st':St K}{wr wr':List Nat}{o:Oper}{v:AV K}{ok:Bool}{u:Value}{n0:Nat}(bM:Sat cx ρ S a w st)(ho:ln st.tm wr)(hp:uj st wr o.dst v H' ok=some (st',wr'))
 (wP:∀g b y,v=.opt g b y->g∈wr) (hs':aS cx.D ρ' S' w' H') (hv:eM cx.D ρ' S' w' a.tmps v u) (hst:Step cx.D st.H.length ρ S st.H w ρ' S' H' w'):
 Sat cx ρ' S' (a.put o.dst u) w' st'/\ln st'.tm wr':=by
 obtain⟨h1,h2,h3⟩:=qc hp;have hsl:=bM.slots.mono hst.s1 (hst.yC bM.heap) (hst.Jw bM.heap);rcases h3 with⟨e1,e2,e3⟩|⟨d,e1,e2,e3,e4,e5⟩
 ·rw[e1];exact⟨⟨by rw[h1];exact hs',by rw[e2];exact hsl,bM.defers⟩,by rw[e2,e3];exact ho⟩
 ·rw[e1];exact⟨⟨by rw[h1];exact hs',by rw[e4];exact hsl.put ho e2 hv wP,bM.defers⟩,by rw[e4,e5];exact ho.put wP⟩
theorem af6{cx:Cx K}{ops:List Oper}{st st':St K}{wr wr':List Nat}{o:Oper}(h:uk cx ops st wr o=some (st',wr'))(hok:st'.ok=true):st.ok=true:=by
 unfold uk at h;split at h
 ·obtain⟨-,h2,-⟩:=qc h;rw[h2]at hok;simp only[cG]at hok;exact hok.2
 ·cases h
theorem JD{cx:Cx K}{ops:List Oper}:∀(l:List Oper)(st st':St K)(wr wr':List Nat),aeO cx ops l st wr=some (st',wr')->st'.ok=true->st.ok=true
 |[],st,st',wr,wr',h,hok=>by simp only[aeO,av,aZ]at h;rw[h.1];exact hok
 |o::r,st,st',wr,wr',h,hok=>by
  simp only[aeO]at h;split at h
  ·rename_i st1 iG h1;exact af6 h1 (JD r st1 st' iG wr' h hok)
  ·cases h
theorem Pl{cx:Cx K}(hD:bR cx.D)(hc:aP cx){ops:List Oper}{n0:Nat}{Q:Exit->Act->World->Prop}:∀(l:List Oper)(st st':St K)(wr wr':List Nat)(ρ:List Value)(S:Nat->Prop)(a:Act)(w:World),
 aeO cx ops l st wr=some (st',wr')->st'.ok=true->Sat cx ρ S a w st->ln st.tm wr->n0<=st.H.length->
 (∀ρ' S' a' w',Sat cx ρ' S' a' w' st'->ln st'.tm wr'->Step cx.D n0 ρ S st.H w ρ' S' st'.H w'->Q .normal a' w')->wpList cx.P ops.toArray Q l a w
 |[],st,st',wr,wr',ρ,S,a,w,h,hok,bM,ho,hn,hq=>by
   simp only[aeO,av,aZ]at h;obtain⟨rfl,rfl⟩:=h;exact hq ρ S a w bM ho Step.refl
 |o::r,st,st',wr,wr',ρ,S,a,w,h,hok,bM,ho,hn,hq=>by
  simp only[aeO]at h;split at h
  ·rename_i st1 iG h1;have hok1:=JD r st1 st' iG wr' h hok;have h1':=h1;unfold uk at h1';split at h1'
   ·rename_i v H1 c hsv;obtain⟨p1,p2,p3⟩:=qc h1';rw[p2]at hok1;simp only[cG]at hok1;refine wpList_step fun k hk=>Jz hD hc bM.heap bM.slots hsv hok1.1 fun u ρ1 S1 w1 q1 q2 q3=>hk _ _ ?_
    obtain⟨s1,s2⟩:=bM.put (n0:=n0) ho h1' (uy hsv) q1 q2 q3;have hg:=q3.grow bM.heap q1 (fh _);refine Pl (n0:=n0) hD hc r st1 st' iG wr' ρ1 S1 _ w1 h hok s1 s2 (by rw[p1];omega) fun ρ' S' a' w' g1 g2 g3=>hq ρ' S' a' w' g1 g2 ?_
    rw[p1]at g3;exact(q3.weaken hn).trans g3
   ·cases h1'
  ·cases h
def dC(tm:List (AV K)):Prop:=∀(t g:Nat) b v,tm[t]?≠some (.opt g b v)
theorem dC.in{tm:List (AV K)}(h:dC tm):ln tm []:=fun t g b v e=>absurd e (h t g b v)
theorem fb.wipe{D:bH K}{tmps:Array Value}:∀(wr:List Nat)(tm:List (AV K)),fb D ρ S w tm tmps->fb D ρ S w (js tm wr) tmps
 |[],tm,h=>h
 |d::r,tm,h=>by
  simp only[js];split
  ·refine fb.wipe r _ ⟨by simp[h.len],fun t v x hv hx=>?_⟩;rcases fj hv with⟨rfl,rfl,-⟩|⟨-,hv⟩
   ·exact .jR (.any x)
   ·exact h.ok t v x hv hx
  ·exact fb.wipe r tm h
theorem KC:∀(wr:List Nat)(tm:List (AV K))(t:Nat)(v:AV K),(js tm wr)[t]?=some v->v.jr=true->t∉wr/\tm[t]?=some v
 |[],tm,t,v,h,hv=>⟨by simp,h⟩
 |d::r,tm,t,v,h,hv=>by
  simp only[js]at h;split at h
  ·obtain⟨h1,h2⟩:=KC r _ t v h hv;rcases fj h2 with⟨rfl,rfl,-⟩|⟨hne,h2⟩
   ·simp[AV.jr]at hv
   ·exact⟨by simp[hne,h1],h2⟩
  ·rename_i hno;obtain⟨h1,h2⟩:=KC r _ t v h hv;refine⟨?_,h2⟩;simp only[jm,not_or];refine⟨fun e=>?_,h1⟩;subst e;cases v<;>simp[AV.jr]at hv;exact hno _ _ _ h2
theorem dC.wipe{tm:List (AV K)}{wr:List Nat}(h:ln tm wr):dC (js tm wr):=fun t g b v e=>by
 obtain⟨h1,h2⟩:=KC wr tm t _ e rfl;exact h1 (h t g b v h2).1
end Go.V
