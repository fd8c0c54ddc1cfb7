/-
  ONE OPERATION IN ITS FRAME; A REGION IN THE ORDER OF THE TEXT.
-/
import Derived.Test.YtalddlopgnfpaaaGreatDoorXWdeepA
set_option linter.unusedVariables false
namespace Go.V
open Go
variable {K :cE}{ρ ρ':List Value}{S S':Nat->Prop}{w w':World}{H H':List (Ob K)}
theorem NS{D:bc K}{P:Program}{o:Oper}{a:Act}{v:AV K}(h:Does D P ρ S H w (execOp a.eval o) v H'){k:Act->World->Prop}{Q:Exit->Act->World->Prop}
 (hk:∀u ρ' S' w',aN D ρ' S' w' H'->Rep D ρ' S' w' v u->Step D H.length ρ S H w ρ' S' H' w'->k (a.put o.dst u) w'):o.wp P a w k Q:=by
 obtain⟨n,u,w',ρ',h1,h2,h3,h4,h5⟩:=h;unfold Oper.wp;rw[h1];rcases h2 with rfl|⟨rfl,rfl⟩
 ·exact hk u ρ' S w' h3 h4 h5
 ·exact hk _ ρ' S w' h3 h4 h5
theorem NT{q:Bool}{cx:Cx K}(hD:bk cx.D)(hc:aD cx)(hs:aN cx.D ρ S w H){a:Act}{tm:List (AV K)}(hsl:ef cx.D ρ S w tm a.tmps){gs:List (Nat×Bool)}(hg:∀p∈gs,a.tmps[p.1]?=some (.bool p.2)){o:Oper}{v:AV K}{c:Bool}{t:List Nat}
 (h:kY q cx tm gs H o.type o.op=some (v,H',c,t)) (hc1:c=true) {k:Act->World->Prop} {Q:Exit->Act->World->Prop}
 (hk:∀u ρ' S' w',aN cx.D ρ' S' w' H'->Rep cx.D ρ' S' w' v u->Step cx.D H.length ρ S H w ρ' S' H' w'->k (a.put o.dst u) w'):o.wp cx.P a w k Q:=by
 have hev:=FP hsl hg;unfold kY at h;split at h
 ·
  rename_i cnd x y hop;have key:∀(b:Bool)(gx gy:List (Nat×Bool)),a.eval cnd=.bool b->(b=true->∀p∈gx,a.tmps[p.1]?=some (.bool p.2))->(b=false->∀p∈gy,a.tmps[p.1]?=some (.bool p.2))->v=merge b (da tm gx x) (da tm gy y)->H'=H->o.wp cx.P a w k Q:=by
   intro b gx gy hb h1 h2 hv hH;subst hH;unfold Oper.wp execOp;rw[hop];dsimp only;have:(do pure (.value (if<-asBool (a.eval cnd)then a.eval x else a.eval y)):Sem Next).run cx.P w=.ok (.value (if b then a.eval x else a.eval y)) w:=by rw[hb];simp[asBool]
   rw[this];refine hk _ ρ S w hs ?_ Step.refl;rw[hv];refine Zp (fun e=>?_) (fun e=>?_)
   ·subst e;exact FP hsl (h1 rfl) x
   ·subst e;exact FP hsl (h2 rfl) y
  split at h
  ·rename_i tt b hcv;have hb:=hev (.tmp tt);rw[hcv]at hb;have hb':=km hb;split at h
   ·rename_i b0 _;simp only[ar,aH]at h;obtain⟨hv,hH,hcc,-⟩:=h;rw[hc1]at hcc;have hbb:b=b0:=by simpa using hcc
    subst hbb;subst hH;unfold Oper.wp execOp;rw[hop];dsimp only;have:(do pure (.value (if<-asBool (a.eval (.tmp tt))then a.eval x else a.eval y)):Sem Next).run cx.P w=.ok (.value (if b then a.eval x else a.eval y)) w:=by rw[hb'];simp[asBool]
    rw[this];refine hk _ ρ S w hs ?_ Step.refl;rw[<-hv];cases b
    ·exact hev y
    ·exact hev x
   simp only[ar,aH]at h;obtain⟨hv,hH,-,-⟩:=h;have hget:a.tmps[tt]?=some (.bool b):=by
    simp only[Act.eval,nc]at hb';cases hh:a.tmps[tt]? with
    |none=>rw[hh]at hb';simp[undef]at hb'
    |some z=>rw[hh]at hb';simp at hb';rw[hb']
   exact key b _ _ hb' (fun e p hp=>by subst e;rcases dY.1 hp with rfl|hp;exact hget;exact hg p hp) (fun e p hp=>by subst e;rcases dY.1 hp with rfl|hp;exact hget;exact hg p hp) hv.symm hH.symm
  ·rename_i cv b hcv;simp only[ar,aH]at h;obtain⟨hv,hH,-,-⟩:=h;have hb:=hev (.const cv);rw[hcv]at hb;exact key b _ _ (km hb) (fun _=>hg) (fun _=>hg) hv.symm hH.symm
  ·cases h
 ·
  rename_i f args ats hop;have hf:=hev f;split at h
  ·rename_i g caps hfv;have hcall:=h;rw[hc1]at hcall
   ·skip
    rw[hfv]at hf;generalize hF:a.eval f=F at hf;cases hf with
    |fn hl hr=>
     rename_i cs;have hargs:=(abH (fun x=>pf hs _ _ (hev x)) args.toList).append (⟨hl,hr⟩:aS cx.D ρ S w caps cs);obtain⟨⟨fn,hfn,hname,hbody⟩,lQ⟩:=anH hD hc hs hcall hargs;unfold Oper.wp execOp;rw[hop];dsimp only;have hrun:(do let d<-resolve a.eval {callee:=.value f,args:=args,argTypes:=ats} o.type;invoke d.target d.args:Sem Next).run cx.P w=.ok (.enter g (args.toList.map a.eval++cs).toArray) w:=by
      simp only[resolve,hF,Deferred.ofValue,Sem.run_bind,Sem.run_pure,Result.andThen_ok,invoke,callFunc,run_program];rw[hfn];simp only[hname,hbody,ki,fa,Sem.run_pure];congr 2;apply Array.ext';simp
     rw[hrun,Oper.upon_enter];refine lQ.mono ?_
     rintro e w' ⟨u,ρ',S',rfl,h1,h2,h3⟩
     exact hk u ρ' S' w' h1 h2 h3
  ·cases h
 ·
  rename_i x hop;have hrun:∀(v':AV K),Rep cx.D ρ S w v' (a.eval x)->v=v'->H'=H->o.wp cx.P a w k Q:=fun v' h1 h2 h3=>by
   subst h2;subst h3;unfold Oper.wp execOp;rw[hop];exact hk _ ρ S w hs h1 Step.refl
  split at h
  ·rename_i hq;split at h
   ·split at h
    ·rename_i c _;simp only[ar,aH]at h;obtain⟨rfl,rfl,rfl,rfl⟩:=h;simp only[aZ]at hq;have hx:x=.const (.slice none 0 0):=by
      have:=hq.2;unfold ML at this;split at this
      ·rfl
      ·cases this
     obtain⟨n1,n2⟩:=NJ hs c (cx.deep c);unfold Oper.wp execOp;rw[hop,hx];exact hk _ _ S w n1 (.sl (by rw[cM (by rw[hs.len];exact bg _)];simp[hs.len])) n2
    ·simp only[ar,aH]at h;exact hrun _ (hev x) h.1.symm h.2.1.symm
   ·simp only[ar,aH]at h;exact hrun _ (hev x) h.1.symm h.2.1.symm
  ·simp only[ar,aH]at h;exact hrun _ (pf hs _ _ (hev x)) h.1.symm h.2.1.symm
 ·split at h
  ·rename_i v1 c1 hp;simp only[ar,aH]at h;obtain⟨rfl,rfl,rfl,rfl⟩:=h;obtain⟨u,hu,hr⟩:=ZP hD hs (fun x=>pf hs _ _ (hev x)) hp hc1;unfold Oper.wp;rw[hu];exact hk u ρ S w hs hr Step.refl
  ·split at h
   ·obtain⟨rfl,u,w1,S1,g1,g2,g3,g4⟩:=aoY hD hs (fun x=>pf hs _ _ (hev x)) h hc1;unfold Oper.wp;rw[g1];exact hk u ρ S1 w1 g2 g3 g4
   ·split at h
    ·cases h
    split at h
    ·rename_i hov;simp only[ar]at h;rw[h]at hov;exact NS (anF hD hs hev hov) fun u ρ' S' w' a1 a2 a3=>hk u ρ' S' w' a1 a2 a3
    split at h
    ·rename_i hct;simp only[ar]at h;rw[h]at hct;exact NS (aoX hs hev hct hc1) fun u ρ' S' w' a1 a2 a3=>hk u ρ' S' w' a1 a2 a3
    ·obtain⟨S1,H1,g1,g2,g3⟩:=anC hD hs hev h hc1;refine NS g3 fun u ρ' S' w' a1 a2 a3=>hk u ρ' S' w' a1 a2 ?_
     rw[g2]at a3;exact g1.trans a3
theorem NU{cx:Cx K}{f:FuncId}{args:List (AV K)}{v:AV K}{c:Bool}{t:List Nat}(hcall:kV cx .plain H f args=some (v,H',c,t)):H'=H:=by
 unfold kV at hcall;dsimp only at hcall;split at hcall
 ·split at hcall
  ·split at hcall
   ·simp only[ar,aH]at hcall;exact hcall.2.1.symm
   ·cases hcall
  ·cases hcall
 ·cases hcall
theorem apl{cx:Cx K}{ev:Operand->AV K}{op:Op}{v:AV K}{c:Bool}{t:List Nat}(h:BH cx ev H op=some (v,H',c,t)):H'=H:=by
 unfold BH at h;split at h
 ·split at h
  ·cases h
  ·split at h
   ·split at h
    ·split at h
     ·simp only[ar,aH]at h;exact h.2.1.symm
     ·cases h
    ·cases h
   ·cases h
 ·cases h
theorem zm{cx:Cx K}{tm:List (AV K)}{gs:List (Nat×Bool)}{T:TypeId}{op:Op}{v:AV K}{c:Bool}{t:List Nat}(h:kY true cx tm gs H T op=some (v,H',c,t)):H'=H:=by
 unfold kY at h;split at h
 ·split at h
  ·split at h
   ·simp only[ar,aH]at h;exact h.2.1.symm
   ·simp only[ar,aH]at h;exact h.2.1.symm
  ·simp only[ar,aH]at h;exact h.2.1.symm
  ·cases h
 ·split at h
  ·unfold zc at h;simp only[gz,Bool.and_false,ki,fa]at h;unfold qH at h;split at h
   ·exact NU h
   ·split at h
    ·rename_i r hr;simp only[ar]at h;subst h;exact NU hr
    ·simp at h
   all_goals simp at h
  ·cases h
 ·simp only[gz,oP,ki,fa,ar,aH]at h;exact h.2.1.symm
 ·split at h
  ·simp only[ar,aH]at h;exact h.2.1.symm
  ·simp only[fQ]at h;exact apl h
theorem aam{q:Bool}{cx:Cx K}{tm:List (AV K)}{gs:List (Nat×Bool)}{T:TypeId}{op:Op}{v:AV K}{c:Bool}{t:List Nat}(hs:iL cx op=true)(h:kY q cx tm gs H T op=some (v,H',c,t)):H'=H:=by
 cases q with
 |true=>exact zm h
 |false=>
 unfold kY at h;split at h
 ·split at h
  ·split at h
   ·simp only[ar,aH]at h;exact h.2.1.symm
   ·simp only[ar,aH]at h;exact h.2.1.symm
  ·simp only[ar,aH]at h;exact h.2.1.symm
  ·cases h
 ·rename_i f args ats;cases f<;>simp only[iL]at hs<;>try (cases hs;done)
  rename_i g;simp only[da]at h;have hm:cx.mode g=.plain/\(cx.opn=false\/cx.lz=true):=by simpa using hs
  unfold zc at h;have Np:(cx.opn&& !cx.lz&& !false)=false:=by rcases hm.2 with e|e<;>simp[e]
  rw[Np]at h;simp only[ki,fa]at h
  replace hm:=hm.1
  unfold qH at h;rw[hm]at h;exact NU h
 ·simp only[iL,iv]at hs;rw[hs]at h;simp only[Bool.and_false,ki,fa,ar,aH]at h;exact h.2.1.symm
 ·split at h
  ·simp only[ar,aH]at h;exact h.2.1.symm
  ·rw[hs]at h;simp at h
end Go.V
namespace Go.V
open Go
variable {K :cE}{ρ ρ':List Value}{S S':Nat->Prop}{w w':World}{H H':List (Ob K)}
theorem GO{ops:List Oper}{o:Oper}{tmps:Array Value}{g:Nat}{wt:Bool}(h:guardOf ops o=some (some (g,wt))):
 Region.wanted o (yielded ops.toArray tmps)=true↔tmps[g]?=some (.bool wt):=by
 unfold guardOf at h;split at h
 ·cases h
 ·rename_i j w1 hgd;split at h
  ·rename_i og hog;split at h
   ·rename_i t ht;simp only[ar,aH]at h;obtain⟨rfl,rfl⟩:=h;have apm:ops.toArray[j]?=some og:=by simpa using hog
    simp only[Region.wanted,hgd,yielded,apm,Option.bind_some,ht];cases hv:tmps[t]? with
    |none=>simp
    |some z=>cases z<;>simp
   ·cases h
  ·cases h
theorem apn{ops:List Oper}{o:Oper}{y:Nat->Option Bool}(h:guardOf ops o=some none):Region.wanted o y=true:=by
 unfold guardOf at h;split at h
 ·rename_i hg;simp[Region.wanted,hg]
 ·split at h
  ·split at h<;>cases h
  ·cases h
theorem M1{q:Bool}{cx:Cx K}(hD:bk cx.D)(hc:aD cx)(hs:aN cx.D ρ S w H){a:Act}{tm:List (AV K)}(hsl:ef cx.D ρ S w tm a.tmps){ops:List Oper}{wr:List Nat}{o:Oper}{v:AV K}{c:Bool}
 (h:iz q cx ops tm H wr o=some (v,H',c)) (hc1:c=true) {k:Act->World->Prop} {Q:Exit->Act->World->Prop}
 (hk:∀u ρ' S' w',aN cx.D ρ' S' w' H'->dP cx.D ρ' S' w' a.tmps v u->Step cx.D H.length ρ S H w ρ' S' H' w'->k (a.put o.dst u) w'):
 if Region.wanted o (yielded ops.toArray a.tmps)then o.wp cx.P a w k Q else k (a.put o.dst undef) w:=by
 unfold iz at h;split at h
 ·cases h
 ·rename_i hgd;rw[av (apn hgd)];split at h
  ·rename_i v1 H1 c1 t1 hy;split at h
   ·cases h
   simp only[ar,aH]at h;obtain⟨rfl,rfl,rfl⟩:=h;exact NT hD hc hs hsl (gs:=[]) (fun p hp=>by simp at hp) hy hc1 fun u ρ' S' w' h1 h2 h3=>hk u ρ' S' w' h1 (.jO h2) h3
  ·cases h
 ·rename_i g wt hgd;split at h
  ·rename_i b0 hkn;split at h
   ·rename_i b htm;have hval:a.tmps[g]?=some (.bool b):=by
     have hlt:g<a.tmps.size:=by rw[<-hsl.len];exact(bo.1 htm).1
     have hx:=yF hlt;have:=hsl.ok g _ _ htm hx;rw[hx,km this]
    split at h
    ·rename_i hbw;split at h
     ·rename_i v1 H1 c1 t1 hy;split at h
      ·cases h
      simp only[ar,aH]at h;obtain⟨rfl,rfl,rfl⟩:=h;simp only[aZ,kO]at hc1;obtain⟨hc1,rfl⟩:=hc1;rw[av ((GO hgd).2 (by rw[hval,hbw]))];exact NT hD hc hs hsl (gs:=[]) (fun p hp=>by simp at hp) hy hc1 fun u ρ' S' w' h1 h2 h3=>hk u ρ' S' w' h1 (.jO h2) h3
     ·cases h
    ·rename_i hbw;simp only[ar,aH]at h;obtain⟨rfl,rfl,rfl⟩:=h;have hbb:b=b0:=by simpa using hc1
     rw[an (fun hh=>hbw (by have:=(GO hgd).1 hh;rw[hval]at this;simp at this;rw[<-hbb];exact this))];exact hk undef ρ S w hs (.jO (.any _)) Step.refl
   ·cases h
  split at h
  ·cases h
  ·rename_i b hb;split at h
   ·rename_i hsm;simp only[aZ]at hsm;split at h
    ·rename_i v1 H1 c1 t1 hy;simp only[ar,aH]at h;obtain⟨rfl,rfl,rfl⟩:=h;have hbt:=Zj hsl 6 g wt b hb;by_cases hw:a.tmps[g]?=some (.bool wt)
     ·rw[av ((GO hgd).2 hw)];have hb1:b=true:=hbt.2 hw;subst hb1;have hc1':c1=true:=by simpa using hc1
      have hH:H1=H:=zm hy;subst hH;exact NT hD hc hs hsl (gs:=[(g,wt)]) (fun p hp=>by simp at hp;subst hp;exact hw) hy hc1' fun u ρ' S' w' h1 h2 h3=>hk u ρ' S' w' h1 (.inl ⟨hw,h2⟩) h3
     ·rw[an (fun hh=>hw ((GO hgd).1 hh))];exact hk undef ρ S w hs (.inr ⟨hw,rfl⟩) Step.refl
    ·cases h
   ·cases h
theorem vU{q:Bool}{cx:Cx K}{ops:List Oper}{tm:List (AV K)}{wr:List Nat}{o:Oper}{v:AV K}{c:Bool}(h:iz q cx ops tm H wr o=some (v,H',c)):∀g wt v1,v=.opt g wt v1->g∈wr:=by
 intro g' wt' v' e;unfold iz at h;split at h
 ·cases h
 ·split at h
  ·split at h
   ·cases h
   ·rename_i hno;simp only[ar,aH]at h;obtain⟨rfl,rfl,rfl⟩:=h;subst e;simp[AV.jh]at hno
  ·cases h
 ·rename_i g wt hgd;split at h
  ·split at h
   ·split at h
    ·split at h
     ·split at h
      ·cases h
      ·rename_i hno;simp only[ar,aH]at h;obtain⟨rfl,rfl,rfl⟩:=h;subst e;simp[AV.jh]at hno
     ·cases h
    ·simp only[ar,aH]at h;obtain⟨rfl,-,-⟩:=h;cases e
   ·cases h
  split at h
  ·cases h
  ·split at h
   ·rename_i hsm;simp only[aZ]at hsm;split at h
    ·simp only[ar,aH]at h;obtain⟨rfl,rfl,rfl⟩:=h;simp only[AV.opt.injEq]at e;obtain⟨rfl,rfl,rfl⟩:=e;simpa using hsm.2
    ·cases h
   ·cases h
def k9(tm:List (AV K))(wr:List Nat):Prop:=∀(t g:Nat) b v,tm[t]?=some (.opt g b v)->t∈wr/\g∈wr
structure Sat (cx:Cx K) (ρ:List Value) (S:Nat->Prop) (a:Act) (w:World) (st:St K):Prop where
 heap:aN cx.D ρ S w st.H
 slots:ef cx.D ρ S w st.tm a.tmps
 defers:a.defers=[]
theorem dP.put{D:bc K}{tmps:Array Value}{d:Nat}{u:Value}{v:AV K}{x:Value}(h:dP D ρ S w tmps v x)(hv:∀g b y,v=.opt g b y->g≠d):dP D ρ S w (tmps.setIfInBounds d u) v x:=by
 cases v<;>first|exact h|skip
 rename_i g b y;have hg:=hv g b y rfl;simp only[dP,pg,an (pj hg)]at h⊢;exact h
theorem ef.put{D:bc K}{tm:List (AV K)}{tmps:Array Value}{wr:List Nat}(h:ef D ρ S w tm tmps)(ho:k9 tm wr){d:Nat}(hd:d∉wr){v:AV K}{u:Value}(hv:dP D ρ S w tmps v u)(zu:∀g b y,v=.opt g b y->g∈wr):
 ef D ρ S w (tm.set d v) (tmps.setIfInBounds d u):=by
 refine⟨by simp[h.len],fun t v' x hv' hx=>?_⟩;rw[pg]at hx;rcases dV hv' with⟨rfl,rfl,hl⟩|⟨hne,hv'⟩
 ·rw[av rfl]at hx;split at hx
  ·simp at hx;subst hx;exact hv.put fun g b y e=>fun he=>hd (he ▸ zu g b y e)
  ·cases hx
 ·rw[an (pj hne)]at hx;exact(h.ok t v' x hv' hx).put fun g b y e=>fun he=>hd (he ▸ (ho t g b y (by rw[<-e];exact hv')).2)
theorem k9.put{tm:List (AV K)}{wr:List Nat}(ho:k9 tm wr){d:Nat}{v:AV K}(zu:∀g b y,v=.opt g b y->g∈wr):k9 (tm.set d v) (d::wr):=fun t g b y h=>by
 rcases dV h with⟨rfl,rfl,-⟩|⟨-,h⟩
 ·exact⟨by simp,fL _ (zu g b y rfl)⟩
 ·exact⟨fL _ (ho t g b y h).1,fL _ (ho t g b y h).2⟩
theorem Step.grow{D:bc K}{n:Nat}(hs:aN D ρ S w H)(hs':aN D ρ' S' w' H')(st:Step D n ρ S H w ρ' S' H' w')(hn:n<=H.length):n<=H'.length:=by
 rcases jq n with h|h
 ·omega
 ·have h1:=st.pre (n-1) (by omega);rw[bZ (show n-1<ρ.length by rw[hs.len];omega)]at h1;have:=(bo.1 h1).1;rw[hs'.len]at this;omega
theorem Step.MY{D:bc K}(hs:aN D ρ S w H)(st:Step D H.length ρ S H w ρ' S' H' w'):∀(h:Nat) r,ρ[h]?=some r->ρ'[h]?=some r:=fun h r hr=>by
 rw[st.pre h (by rw[<-hs.len];exact(bo.1 hr).1)];exact hr
theorem qT{st:St K}{wr:List Nat}{dst:Option Nat}{v:AV K}{ok:Bool}{st':St K}{wr':List Nat}(h:vN st wr dst v H ok=some (st',wr')):
 st'.H=H/\st'.ok=ok/\((dst=none/\st'.tm=st.tm/\wr'=wr)\/∃d,dst=some d/\d∉wr/\d<st.tm.length/\st'.tm=st.tm.set d v/\wr'=d::wr):=by
 unfold vN at h;split at h
 ·simp only[ar,aH]at h;obtain⟨rfl,rfl⟩:=h;exact⟨rfl,rfl,.inl ⟨rfl,rfl,rfl⟩⟩
 ·rename_i d;split at h
  ·cases h
  ·rename_i hc;simp only[i5,bh,qD,yL]at hc;simp only[ar,aH]at h;obtain⟨rfl,rfl⟩:=h;exact⟨rfl,rfl,.inr ⟨d,rfl,hc.1,by omega,rfl,rfl⟩⟩
theorem Sat.put{cx:Cx K}{a:Act}{st st':St K}{wr wr':List Nat}{o:Oper}{v:AV K}{ok:Bool}{u:Value}{n0:Nat}(bf:Sat cx ρ S a w st)(ho:k9 st.tm wr)(hp:vN st wr o.dst v H' ok=some (st',wr'))
 (zu:∀g b y,v=.opt g b y->g∈wr) (hs':aN cx.D ρ' S' w' H') (hv:dP cx.D ρ' S' w' a.tmps v u) (hst:Step cx.D st.H.length ρ S st.H w ρ' S' H' w'):
 Sat cx ρ' S' (a.put o.dst u) w' st'/\k9 st'.tm wr':=by
 obtain⟨h1,h2,h3⟩:=qT hp;have hsl:=bf.slots.mono hst.s1 (hst.Bo bf.heap) (hst.MY bf.heap);rcases h3 with⟨e1,e2,e3⟩|⟨d,e1,e2,e3,e4,e5⟩
 ·rw[e1];exact⟨⟨by rw[h1];exact hs',by rw[e2];exact hsl,bf.defers⟩,by rw[e2,e3];exact ho⟩
 ·rw[e1];exact⟨⟨by rw[h1];exact hs',by rw[e4];exact hsl.put ho e2 hv zu,bf.defers⟩,by rw[e4,e5];exact ho.put zu⟩
theorem apo{cx:Cx K}{ops:List Oper}{st st':St K}{wr wr':List Nat}{o:Oper}(h:vO cx ops st wr o=some (st',wr'))(hok:st'.ok=true):st.ok=true:=by
 unfold vO at h;split at h
 ·obtain⟨-,h2,-⟩:=qT h;rw[h2]at hok;simp only[aZ]at hok;exact hok.2
 ·cases h
theorem M6{cx:Cx K}{ops:List Oper}:∀(l:List Oper)(st st':St K)(wr wr':List Nat),kZ cx ops l st wr=some (st',wr')->st'.ok=true->st.ok=true
 |[],st,st',wr,wr',h,hok=>by simp only[kZ,ar,aH]at h;rw[h.1];exact hok
 |o::r,st,st',wr,wr',h,hok=>by
  simp only[kZ]at h;split at h
  ·rename_i st1 hZ h1;exact apo h1 (M6 r st1 st' hZ wr' h hok)
  ·cases h
theorem aal{cx:Cx K}(hD:bk cx.D)(hc:aD cx){ops:List Oper}{n0:Nat}{Q:Exit->Act->World->Prop}:∀(l:List Oper)(st st':St K)(wr wr':List Nat)(ρ:List Value)(S:Nat->Prop)(a:Act)(w:World),
 kZ cx ops l st wr=some (st',wr')->st'.ok=true->Sat cx ρ S a w st->k9 st.tm wr->n0<=st.H.length->
 (∀ρ' S' a' w',Sat cx ρ' S' a' w' st'->k9 st'.tm wr'->Step cx.D n0 ρ S st.H w ρ' S' st'.H w'->Q .normal a' w')->wpList cx.P ops.toArray Q l a w
 |[],st,st',wr,wr',ρ,S,a,w,h,hok,bf,ho,hn,hq=>by
   simp only[kZ,ar,aH]at h;obtain⟨rfl,rfl⟩:=h;exact hq ρ S a w bf ho Step.refl
 |o::r,st,st',wr,wr',ρ,S,a,w,h,hok,bf,ho,hn,hq=>by
  simp only[kZ]at h;split at h
  ·rename_i st1 hZ h1;have hok1:=M6 r st1 st' hZ wr' h hok;have h1':=h1;unfold vO at h1';split at h1'
   ·rename_i v H1 c hsv;obtain⟨p1,p2,p3⟩:=qT h1';rw[p2]at hok1;simp only[aZ]at hok1;refine wpList_step fun k hk=>M1 hD hc bf.heap bf.slots hsv hok1.1 fun u ρ1 S1 w1 q1 q2 q3=>hk _ _ ?_
    obtain⟨s1,s2⟩:=bf.put (n0:=n0) ho h1' (vU hsv) q1 q2 q3;have hg:=q3.grow bf.heap q1 (bg _);refine aal (n0:=n0) hD hc r st1 st' hZ wr' ρ1 S1 _ w1 h hok s1 s2 (by rw[p1];omega) fun ρ' S' a' w' g1 g2 g3=>hq ρ' S' a' w' g1 g2 ?_
    rw[p1]at g3;exact(q3.weaken hn).trans g3
   ·cases h1'
  ·cases h
def cV(tm:List (AV K)):Prop:=∀(t g:Nat) b v,tm[t]?≠some (.opt g b v)
theorem cV.in{tm:List (AV K)}(h:cV tm):k9 tm []:=fun t g b v e=>absurd e (h t g b v)
theorem ef.wipe{D:bc K}{tmps:Array Value}:∀(wr:List Nat)(tm:List (AV K)),ef D ρ S w tm tmps->ef D ρ S w (ji tm wr) tmps
 |[],tm,h=>h
 |d::r,tm,h=>by
  simp only[ji];split
  ·refine ef.wipe r _ ⟨by simp[h.len],fun t v x hv hx=>?_⟩;rcases dV hv with⟨rfl,rfl,-⟩|⟨-,hv⟩
   ·exact .jO (.any x)
   ·exact h.ok t v x hv hx
  ·exact ef.wipe r tm h
theorem NV:∀(wr:List Nat)(tm:List (AV K))(t:Nat)(v:AV K),(ji tm wr)[t]?=some v->v.jh=true->t∉wr/\tm[t]?=some v
 |[],tm,t,v,h,hv=>⟨by simp,h⟩
 |d::r,tm,t,v,h,hv=>by
  simp only[ji]at h;split at h
  ·obtain⟨h1,h2⟩:=NV r _ t v h hv;rcases dV h2 with⟨rfl,rfl,-⟩|⟨hne,h2⟩
   ·simp[AV.jh]at hv
   ·exact⟨by simp[hne,h1],h2⟩
  ·rename_i hno;obtain⟨h1,h2⟩:=NV r _ t v h hv;refine⟨?_,h2⟩;simp only[dY,qD];refine⟨fun e=>?_,h1⟩;subst e;cases v<;>simp[AV.jh]at hv;exact hno _ _ _ h2
theorem cV.wipe{tm:List (AV K)}{wr:List Nat}(h:k9 tm wr):cV (ji tm wr):=fun t g b v e=>by
 obtain⟨h1,h2⟩:=NV wr tm t _ e rfl;exact h1 (h t g b v h2).1
end Go.V
