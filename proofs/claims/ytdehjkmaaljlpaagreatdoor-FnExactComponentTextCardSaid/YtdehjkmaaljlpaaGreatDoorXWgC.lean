/-
  ONE OPERATION IN ITS FRAME; A REGION IN THE ORDER OF THE TEXT.
-/
import Derived.Test.YtdehjkmaaljlpaaGreatDoorXWgB
set_option linter.unusedVariables false
namespace Go.V
open Go
variable {K :db}{ρ ρ':List Value}{S S':Nat->Prop}{w w':World}{H H':List (Ob K)}
theorem Rn{D:bP K}{P:Program}{o:Oper}{a:Act}{v:AV K}(h:Does D P ρ S H w (execOp a.eval o) v H'){k:Act->World->Prop}{Q:Exit->Act->World->Prop}
 (hk:∀u ρ' S' w',aY D ρ' S' w' H'->Rep D ρ' S' w' v u->Step D H.length ρ S H w ρ' S' H' w'->k (a.put o.dst u) w'):o.wp P a w k Q:=by
 obtain⟨n,u,w',ρ',h1,h2,h3,h4,h5⟩:=h;unfold Oper.wp;rw[h1];rcases h2 with rfl|⟨rfl,rfl⟩
 ·exact hk u ρ' S w' h3 h4 h5
 ·exact hk _ ρ' S w' h3 h4 h5
theorem Ro{q:Bool}{cx:Cx K}(hD:bW cx.D)(hc:aJ cx)(hs:aY cx.D ρ S w H){a:Act}{tm:List (AV K)}(hsl:eP cx.D ρ S w tm a.tmps){gs:List (Nat×Bool)}(hg:∀p∈gs,a.tmps[p.1]?=some (.bool p.2)){o:Oper}{v:AV K}{c:Bool}{t:List Nat}
 (h:lB q cx tm gs H o.type o.op=some (v,H',c,t)) (hc1:c=true) {k:Act->World->Prop} {Q:Exit->Act->World->Prop}
 (hk:∀u ρ' S' w',aY cx.D ρ' S' w' H'->Rep cx.D ρ' S' w' v u->Step cx.D H.length ρ S H w ρ' S' H' w'->k (a.put o.dst u) w'):o.wp cx.P a w k Q:=by
 have hev:=LK hsl hg;unfold lB at h;split at h
 ·
  rename_i cnd x y hop;have key:∀(b:Bool)(gx gy:List (Nat×Bool)),a.eval cnd=.bool b->(b=true->∀p∈gx,a.tmps[p.1]?=some (.bool p.2))->(b=false->∀p∈gy,a.tmps[p.1]?=some (.bool p.2))->v=merge b (dH tm gx x) (dH tm gy y)->H'=H->o.wp cx.P a w k Q:=by
   intro b gx gy hb h1 h2 hv hH;subst hH;unfold Oper.wp execOp;rw[hop];dsimp only;have:(do pure (.value (if<-asBool (a.eval cnd)then a.eval x else a.eval y)):Sem Next).run cx.P w=.ok (.value (if b then a.eval x else a.eval y)) w:=by rw[hb];simp[asBool]
   rw[this];refine hk _ ρ S w hs ?_ Step.refl;rw[hv];refine ak3 (fun e=>?_) (fun e=>?_)
   ·subst e;exact LK hsl (h1 rfl) x
   ·subst e;exact LK hsl (h2 rfl) y
  split at h
  ·rename_i tt b hcv;have hb:=hev (.tmp tt);rw[hcv]at hb;have hb':=kB hb;split at h
   ·rename_i b0 _;simp only[aD,bj]at h;obtain⟨hv,hH,hcc,-⟩:=h;rw[hc1]at hcc;have hbb:b=b0:=by simpa using hcc
    subst hbb;subst hH;unfold Oper.wp execOp;rw[hop];dsimp only;have:(do pure (.value (if<-asBool (a.eval (.tmp tt))then a.eval x else a.eval y)):Sem Next).run cx.P w=.ok (.value (if b then a.eval x else a.eval y)) w:=by rw[hb'];simp[asBool]
    rw[this];refine hk _ ρ S w hs ?_ Step.refl;rw[<-hv];cases b
    ·exact hev y
    ·exact hev x
   simp only[aD,bj]at h;obtain⟨hv,hH,-,-⟩:=h;have hget:a.tmps[tt]?=some (.bool b):=by
    simp only[Act.eval,nD]at hb';cases hh:a.tmps[tt]? with
    |none=>rw[hh]at hb';simp[undef]at hb'
    |some z=>rw[hh]at hb';simp at hb';rw[hb']
   exact key b _ _ hb' (fun e p hp=>by subst e;rcases fi.1 hp with rfl|hp;exact hget;exact hg p hp) (fun e p hp=>by subst e;rcases fi.1 hp with rfl|hp;exact hget;exact hg p hp) hv.symm hH.symm
  ·rename_i cv b hcv;simp only[aD,bj]at h;obtain⟨hv,hH,-,-⟩:=h;have hb:=hev (.const cv);rw[hcv]at hb;exact key b _ _ (kB hb) (fun _=>hg) (fun _=>hg) hv.symm hH.symm
  ·cases h
 ·
  rename_i f args ats hop;have hf:=hev f;split at h
  ·rename_i g caps hfv;have hcall:=h;rw[hc1]at hcall
   ·skip
    rw[hfv]at hf;generalize hF:a.eval f=F at hf;cases hf with
    |fn hl hr=>
     rename_i cs;have hargs:=(akG (fun x=>pZ hs _ _ (hev x)) args.toList).append (⟨hl,hr⟩:bE cx.D ρ S w caps cs);obtain⟨⟨fn,hfn,hname,hbody⟩,l5⟩:=aDK hD hc hs hcall hargs;unfold Oper.wp execOp;rw[hop];dsimp only;have hrun:(do let d<-resolve a.eval {callee:=.value f,args:=args,argTypes:=ats} o.type;invoke d.target d.args:Sem Next).run cx.P w=.ok (.enter g (args.toList.map a.eval++cs).toArray) w:=by
      simp only[resolve,hF,Deferred.ofValue,Sem.run_bind,Sem.run_pure,Result.andThen_ok,invoke,callFunc,run_program];rw[hfn];simp only[hname,hbody,gz,fZ,Sem.run_pure];congr 2;apply Array.ext';simp
     rw[hrun,Oper.upon_enter];refine l5.mono ?_
     rintro e w' ⟨u,ρ',S',rfl,h1,h2,h3⟩
     exact hk u ρ' S' w' h1 h2 h3
  ·cases h
 ·
  rename_i x hop;have hrun:∀(v':AV K),Rep cx.D ρ S w v' (a.eval x)->v=v'->H'=H->o.wp cx.P a w k Q:=fun v' h1 h2 h3=>by
   subst h2;subst h3;unfold Oper.wp execOp;rw[hop];exact hk _ ρ S w hs h1 Step.refl
  split at h
  ·rename_i hq;split at h
   ·split at h
    ·rename_i c _;simp only[aD,bj]at h;obtain⟨rfl,rfl,rfl,rfl⟩:=h;simp only[bC]at hq;have hx:x=.const (.slice none 0 0):=by
      have:=hq.2;unfold Qz at this;split at this
      ·rfl
      ·cases this
     obtain⟨n1,n2⟩:=QH hs c (cx.deep c);unfold Oper.wp execOp;rw[hop,hx];exact hk _ _ S w n1 (.sl (by rw[d5 (by rw[hs.len];exact bY _)];simp[hs.len])) n2
    ·simp only[aD,bj]at h;exact hrun _ (hev x) h.1.symm h.2.1.symm
   ·simp only[aD,bj]at h;exact hrun _ (hev x) h.1.symm h.2.1.symm
  ·simp only[aD,bj]at h;exact hrun _ (pZ hs _ _ (hev x)) h.1.symm h.2.1.symm
 ·split at h
  ·rename_i v1 c1 hp;simp only[aD,bj]at h;obtain⟨rfl,rfl,rfl,rfl⟩:=h;obtain⟨u,hu,hr⟩:=akH hD hs (fun x=>pZ hs _ _ (hev x)) hp hc1;unfold Oper.wp;rw[hu];exact hk u ρ S w hs hr Step.refl
  ·split at h
   ·obtain⟨rfl,u,w1,S1,g1,g2,g3,g4⟩:=aDs hD hs (fun x=>pZ hs _ _ (hev x)) h hc1;unfold Oper.wp;rw[g1];exact hk u ρ S1 w1 g2 g3 g4
   ·split at h
    ·cases h
    split at h
    ·rename_i hov;simp only[aD]at h;rw[h]at hov;exact Rn (aDJ hD hs hev hov) fun u ρ' S' w' a1 a2 a3=>hk u ρ' S' w' a1 a2 a3
    split at h
    ·rename_i hct;simp only[aD]at h;rw[h]at hct;exact Rn (aDr hs hev hct hc1) fun u ρ' S' w' a1 a2 a3=>hk u ρ' S' w' a1 a2 a3
    ·obtain⟨S1,H1,g1,g2,g3⟩:=aDI hD hs hev h hc1;refine Rn g3 fun u ρ' S' w' a1 a2 a3=>hk u ρ' S' w' a1 a2 ?_
     rw[g2]at a3;exact g1.trans a3
theorem Rq{cx:Cx K}{f:FuncId}{args:List (AV K)}{v:AV K}{c:Bool}{t:List Nat}(hcall:lA cx .plain H f args=some (v,H',c,t)):H'=H:=by
 unfold lA at hcall;dsimp only at hcall;split at hcall
 ·split at hcall
  ·split at hcall
   ·simp only[aD,bj]at hcall;exact hcall.2.1.symm
   ·cases hcall
  ·cases hcall
 ·cases hcall
theorem aDL{cx:Cx K}{ev:Operand->AV K}{op:Op}{v:AV K}{c:Bool}{t:List Nat}(h:Ft cx ev H op=some (v,H',c,t)):H'=H:=by
 unfold Ft at h;split at h
 ·split at h
  ·cases h
  ·split at h
   ·split at h
    ·split at h
     ·simp only[aD,bj]at h;exact h.2.1.symm
     ·cases h
    ·cases h
   ·cases h
 ·cases h
theorem Az{cx:Cx K}{tm:List (AV K)}{gs:List (Nat×Bool)}{T:TypeId}{op:Op}{v:AV K}{c:Bool}{t:List Nat}(h:lB true cx tm gs H T op=some (v,H',c,t)):H'=H:=by
 unfold lB at h;split at h
 ·split at h
  ·split at h
   ·simp only[aD,bj]at h;exact h.2.1.symm
   ·simp only[aD,bj]at h;exact h.2.1.symm
  ·simp only[aD,bj]at h;exact h.2.1.symm
  ·cases h
 ·split at h
  ·unfold Ag at h;simp only[dE,Bool.and_false,gz,fZ]at h;unfold rk at h;split at h
   ·exact Rq h
   ·split at h
    ·rename_i r hr;simp only[aD]at h;subst h;exact Rq hr
    ·simp at h
   all_goals simp at h
  ·cases h
 ·simp only[dE,mE,gz,fZ,aD,bj]at h;exact h.2.1.symm
 ·split at h
  ·simp only[aD,bj]at h;exact h.2.1.symm
  ·simp only[eY]at h;exact aDL h
theorem alr{q:Bool}{cx:Cx K}{tm:List (AV K)}{gs:List (Nat×Bool)}{T:TypeId}{op:Op}{v:AV K}{c:Bool}{t:List Nat}(hs:iO cx op=true)(h:lB q cx tm gs H T op=some (v,H',c,t)):H'=H:=by
 cases q with
 |true=>exact Az h
 |false=>
 unfold lB at h;split at h
 ·split at h
  ·split at h
   ·simp only[aD,bj]at h;exact h.2.1.symm
   ·simp only[aD,bj]at h;exact h.2.1.symm
  ·simp only[aD,bj]at h;exact h.2.1.symm
  ·cases h
 ·rename_i f args ats;cases f<;>simp only[iO]at hs<;>try (cases hs;done)
  rename_i g;simp only[dH]at h;have hm:cx.mode g=.plain/\(cx.opn=false\/cx.lz=true):=by simpa using hs
  unfold Ag at h;have Rr:(cx.opn&& !cx.lz&& !false)=false:=by rcases hm.2 with e|e<;>simp[e]
  rw[Rr]at h;simp only[gz,fZ]at h
  replace hm:=hm.1
  unfold rk at h;rw[hm]at h;exact Rq h
 ·simp only[iO,eL]at hs;rw[hs]at h;simp only[Bool.and_false,gz,fZ,aD,bj]at h;exact h.2.1.symm
 ·split at h
  ·simp only[aD,bj]at h;exact h.2.1.symm
  ·rw[hs]at h;simp at h
end Go.V
namespace Go.V
open Go
variable {K :db}{ρ ρ':List Value}{S S':Nat->Prop}{w w':World}{H H':List (Ob K)}
theorem LS{ops:List Oper}{o:Oper}{tmps:Array Value}{g:Nat}{wt:Bool}(h:guardOf ops o=some (some (g,wt))):
 Region.wanted o (yielded ops.toArray tmps)=true↔tmps[g]?=some (.bool wt):=by
 unfold guardOf at h;split at h
 ·cases h
 ·rename_i j w1 hgd;split at h
  ·rename_i og hog;split at h
   ·rename_i t ht;simp only[aD,bj]at h;obtain⟨rfl,rfl⟩:=h;have aDM:ops.toArray[j]?=some og:=by simpa using hog
    simp only[Region.wanted,hgd,yielded,aDM,Option.bind_some,ht];cases hv:tmps[t]? with
    |none=>simp
    |some z=>cases z<;>simp
   ·cases h
  ·cases h
theorem aDN{ops:List Oper}{o:Oper}{y:Nat->Option Bool}(h:guardOf ops o=some none):Region.wanted o y=true:=by
 unfold guardOf at h;split at h
 ·rename_i hg;simp[Region.wanted,hg]
 ·split at h
  ·split at h<;>cases h
  ·cases h
theorem Rt{q:Bool}{cx:Cx K}(hD:bW cx.D)(hc:aJ cx)(hs:aY cx.D ρ S w H){a:Act}{tm:List (AV K)}(hsl:eP cx.D ρ S w tm a.tmps){ops:List Oper}{wr:List Nat}{o:Oper}{v:AV K}{c:Bool}
 (h:iD q cx ops tm H wr o=some (v,H',c)) (hc1:c=true) {k:Act->World->Prop} {Q:Exit->Act->World->Prop}
 (hk:∀u ρ' S' w',aY cx.D ρ' S' w' H'->eF cx.D ρ' S' w' a.tmps v u->Step cx.D H.length ρ S H w ρ' S' H' w'->k (a.put o.dst u) w'):
 if Region.wanted o (yielded ops.toArray a.tmps)then o.wp cx.P a w k Q else k (a.put o.dst undef) w:=by
 unfold iD at h;split at h
 ·cases h
 ·rename_i hgd;rw[aE (aDN hgd)];split at h
  ·rename_i v1 H1 c1 t1 hy;split at h
   ·cases h
   simp only[aD,bj]at h;obtain⟨rfl,rfl,rfl⟩:=h;exact Ro hD hc hs hsl (gs:=[]) (fun p hp=>by simp at hp) hy hc1 fun u ρ' S' w' h1 h2 h3=>hk u ρ' S' w' h1 (.jV h2) h3
  ·cases h
 ·rename_i g wt hgd;split at h
  ·rename_i b0 hkn;split at h
   ·rename_i b htm;have hval:a.tmps[g]?=some (.bool b):=by
     have hlt:g<a.tmps.size:=by rw[<-hsl.len];exact(cz.1 htm).1
     have hx:=zW hlt;have:=hsl.ok g _ _ htm hx;rw[hx,kB this]
    split at h
    ·rename_i hbw;split at h
     ·rename_i v1 H1 c1 t1 hy;split at h
      ·cases h
      simp only[aD,bj]at h;obtain⟨rfl,rfl,rfl⟩:=h;simp only[bC,de]at hc1;obtain⟨hc1,rfl⟩:=hc1;rw[aE ((LS hgd).2 (by rw[hval,hbw]))];exact Ro hD hc hs hsl (gs:=[]) (fun p hp=>by simp at hp) hy hc1 fun u ρ' S' w' h1 h2 h3=>hk u ρ' S' w' h1 (.jV h2) h3
     ·cases h
    ·rename_i hbw;simp only[aD,bj]at h;obtain⟨rfl,rfl,rfl⟩:=h;have hbb:b=b0:=by simpa using hc1
     rw[av (fun hh=>hbw (by have:=(LS hgd).1 hh;rw[hval]at this;simp at this;rw[<-hbb];exact this))];exact hk undef ρ S w hs (.jV (.any _)) Step.refl
   ·cases h
  split at h
  ·cases h
  ·rename_i b hb;split at h
   ·rename_i hsm;simp only[bC]at hsm;split at h
    ·rename_i v1 H1 c1 t1 hy;simp only[aD,bj]at h;obtain⟨rfl,rfl,rfl⟩:=h;have hbt:=akX hsl 6 g wt b hb;by_cases hw:a.tmps[g]?=some (.bool wt)
     ·rw[aE ((LS hgd).2 hw)];have hb1:b=true:=hbt.2 hw;subst hb1;have hc1':c1=true:=by simpa using hc1
      have hH:H1=H:=Az hy;subst hH;exact Ro hD hc hs hsl (gs:=[(g,wt)]) (fun p hp=>by simp at hp;subst hp;exact hw) hy hc1' fun u ρ' S' w' h1 h2 h3=>hk u ρ' S' w' h1 (.inl ⟨hw,h2⟩) h3
     ·rw[av (fun hh=>hw ((LS hgd).1 hh))];exact hk undef ρ S w hs (.inr ⟨hw,rfl⟩) Step.refl
    ·cases h
   ·cases h
theorem xH{q:Bool}{cx:Cx K}{ops:List Oper}{tm:List (AV K)}{wr:List Nat}{o:Oper}{v:AV K}{c:Bool}(h:iD q cx ops tm H wr o=some (v,H',c)):∀g wt v1,v=.opt g wt v1->g∈wr:=by
 intro g' wt' v' e;unfold iD at h;split at h
 ·cases h
 ·split at h
  ·split at h
   ·cases h
   ·rename_i hno;simp only[aD,bj]at h;obtain⟨rfl,rfl,rfl⟩:=h;subst e;simp[AV.jh]at hno
  ·cases h
 ·rename_i g wt hgd;split at h
  ·split at h
   ·split at h
    ·split at h
     ·split at h
      ·cases h
      ·rename_i hno;simp only[aD,bj]at h;obtain⟨rfl,rfl,rfl⟩:=h;subst e;simp[AV.jh]at hno
     ·cases h
    ·simp only[aD,bj]at h;obtain⟨rfl,-,-⟩:=h;cases e
   ·cases h
  split at h
  ·cases h
  ·split at h
   ·rename_i hsm;simp only[bC]at hsm;split at h
    ·simp only[aD,bj]at h;obtain⟨rfl,rfl,rfl⟩:=h;simp only[AV.opt.injEq]at e;obtain⟨rfl,rfl,rfl⟩:=e;simpa using hsm.2
    ·cases h
   ·cases h
def lD(tm:List (AV K))(wr:List Nat):Prop:=∀(t g:Nat) b v,tm[t]?=some (.opt g b v)->t∈wr/\g∈wr
structure Sat (cx:Cx K) (ρ:List Value) (S:Nat->Prop) (a:Act) (w:World) (st:St K):Prop where
 heap:aY cx.D ρ S w st.H
 slots:eP cx.D ρ S w st.tm a.tmps
 defers:a.defers=[]
theorem eF.put{D:bP K}{tmps:Array Value}{d:Nat}{u:Value}{v:AV K}{x:Value}(h:eF D ρ S w tmps v x)(hv:∀g b y,v=.opt g b y->g≠d):eF D ρ S w (tmps.setIfInBounds d u) v x:=by
 cases v<;>first|exact h|skip
 rename_i g b y;have hg:=hv g b y rfl;simp only[eF,pN,av (nk hg)]at h⊢;exact h
theorem eP.put{D:bP K}{tm:List (AV K)}{tmps:Array Value}{wr:List Nat}(h:eP D ρ S w tm tmps)(ho:lD tm wr){d:Nat}(hd:d∉wr){v:AV K}{u:Value}(hv:eF D ρ S w tmps v u)(AA:∀g b y,v=.opt g b y->g∈wr):
 eP D ρ S w (tm.set d v) (tmps.setIfInBounds d u):=by
 refine⟨by simp[h.len],fun t v' x hv' hx=>?_⟩;rw[pN]at hx;rcases ff hv' with⟨rfl,rfl,hl⟩|⟨hne,hv'⟩
 ·rw[aE rfl]at hx;split at hx
  ·simp at hx;subst hx;exact hv.put fun g b y e=>fun he=>hd (he ▸ AA g b y e)
  ·cases hx
 ·rw[av (nk hne)]at hx;exact(h.ok t v' x hv' hx).put fun g b y e=>fun he=>hd (he ▸ (ho t g b y (by rw[<-e];exact hv')).2)
theorem lD.put{tm:List (AV K)}{wr:List Nat}(ho:lD tm wr){d:Nat}{v:AV K}(AA:∀g b y,v=.opt g b y->g∈wr):lD (tm.set d v) (d::wr):=fun t g b y h=>by
 rcases ff h with⟨rfl,rfl,-⟩|⟨-,h⟩
 ·exact⟨by simp,ml _ (AA g b y rfl)⟩
 ·exact⟨ml _ (ho t g b y h).1,ml _ (ho t g b y h).2⟩
theorem Step.grow{D:bP K}{n:Nat}(hs:aY D ρ S w H)(hs':aY D ρ' S' w' H')(st:Step D n ρ S H w ρ' S' H' w')(hn:n<=H.length):n<=H'.length:=by
 rcases lg n with h|h
 ·omega
 ·have h1:=st.pre (n-1) (by omega);rw[ct (show n-1<ρ.length by rw[hs.len];omega)]at h1;have:=(cz.1 h1).1;rw[hs'.len]at this;omega
theorem Step.Ru{D:bP K}(hs:aY D ρ S w H)(st:Step D H.length ρ S H w ρ' S' H' w'):∀(h:Nat) r,ρ[h]?=some r->ρ'[h]?=some r:=fun h r hr=>by
 rw[st.pre h (by rw[<-hs.len];exact(cz.1 hr).1)];exact hr
theorem rB{st:St K}{wr:List Nat}{dst:Option Nat}{v:AV K}{ok:Bool}{st':St K}{wr':List Nat}(h:xu st wr dst v H ok=some (st',wr')):
 st'.H=H/\st'.ok=ok/\((dst=none/\st'.tm=st.tm/\wr'=wr)\/∃d,dst=some d/\d∉wr/\d<st.tm.length/\st'.tm=st.tm.set d v/\wr'=d::wr):=by
 unfold xu at h;split at h
 ·simp only[aD,bj]at h;obtain⟨rfl,rfl⟩:=h;exact⟨rfl,rfl,.inl ⟨rfl,rfl,rfl⟩⟩
 ·rename_i d;split at h
  ·cases h
  ·rename_i hc;simp only[eC,bq,not_or,zX]at hc;simp only[aD,bj]at h;obtain⟨rfl,rfl⟩:=h;exact⟨rfl,rfl,.inr ⟨d,rfl,hc.1,by omega,rfl,rfl⟩⟩
theorem Sat.put{cx:Cx K}{a:Act}{st st':St K}{wr wr':List Nat}{o:Oper}{v:AV K}{ok:Bool}{u:Value}{n0:Nat}(bS:Sat cx ρ S a w st)(ho:lD st.tm wr)(hp:xu st wr o.dst v H' ok=some (st',wr'))
 (AA:∀g b y,v=.opt g b y->g∈wr) (hs':aY cx.D ρ' S' w' H') (hv:eF cx.D ρ' S' w' a.tmps v u) (hst:Step cx.D st.H.length ρ S st.H w ρ' S' H' w'):
 Sat cx ρ' S' (a.put o.dst u) w' st'/\lD st'.tm wr':=by
 obtain⟨h1,h2,h3⟩:=rB hp;have hsl:=bS.slots.mono hst.s1 (hst.FI bS.heap) (hst.Ru bS.heap);rcases h3 with⟨e1,e2,e3⟩|⟨d,e1,e2,e3,e4,e5⟩
 ·rw[e1];exact⟨⟨by rw[h1];exact hs',by rw[e2];exact hsl,bS.defers⟩,by rw[e2,e3];exact ho⟩
 ·rw[e1];exact⟨⟨by rw[h1];exact hs',by rw[e4];exact hsl.put ho e2 hv AA,bS.defers⟩,by rw[e4,e5];exact ho.put AA⟩
theorem aDO{cx:Cx K}{ops:List Oper}{st st':St K}{wr wr':List Nat}{o:Oper}(h:xw cx ops st wr o=some (st',wr'))(hok:st'.ok=true):st.ok=true:=by
 unfold xw at h;split at h
 ·obtain⟨-,h2,-⟩:=rB h;rw[h2]at hok;simp only[bC]at hok;exact hok.2
 ·cases h
theorem Rw{cx:Cx K}{ops:List Oper}:∀(l:List Oper)(st st':St K)(wr wr':List Nat),lC cx ops l st wr=some (st',wr')->st'.ok=true->st.ok=true
 |[],st,st',wr,wr',h,hok=>by simp only[lC,aD,bj]at h;rw[h.1];exact hok
 |o::r,st,st',wr,wr',h,hok=>by
  simp only[lC]at h;split at h
  ·rename_i st1 ip h1;exact aDO h1 (Rw r st1 st' ip wr' h hok)
  ·cases h
theorem alu{cx:Cx K}(hD:bW cx.D)(hc:aJ cx){ops:List Oper}{n0:Nat}{Q:Exit->Act->World->Prop}:∀(l:List Oper)(st st':St K)(wr wr':List Nat)(ρ:List Value)(S:Nat->Prop)(a:Act)(w:World),
 lC cx ops l st wr=some (st',wr')->st'.ok=true->Sat cx ρ S a w st->lD st.tm wr->n0<=st.H.length->
 (∀ρ' S' a' w',Sat cx ρ' S' a' w' st'->lD st'.tm wr'->Step cx.D n0 ρ S st.H w ρ' S' st'.H w'->Q .normal a' w')->wpList cx.P ops.toArray Q l a w
 |[],st,st',wr,wr',ρ,S,a,w,h,hok,bS,ho,hn,hq=>by
   simp only[lC,aD,bj]at h;obtain⟨rfl,rfl⟩:=h;exact hq ρ S a w bS ho Step.refl
 |o::r,st,st',wr,wr',ρ,S,a,w,h,hok,bS,ho,hn,hq=>by
  simp only[lC]at h;split at h
  ·rename_i st1 ip h1;have hok1:=Rw r st1 st' ip wr' h hok;have h1':=h1;unfold xw at h1';split at h1'
   ·rename_i v H1 c hsv;obtain⟨p1,p2,p3⟩:=rB h1';rw[p2]at hok1;simp only[bC]at hok1;refine wpList_step fun k hk=>Rt hD hc bS.heap bS.slots hsv hok1.1 fun u ρ1 S1 w1 q1 q2 q3=>hk _ _ ?_
    obtain⟨s1,s2⟩:=bS.put (n0:=n0) ho h1' (xH hsv) q1 q2 q3;have hg:=q3.grow bS.heap q1 (bY _);refine alu (n0:=n0) hD hc r st1 st' ip wr' ρ1 S1 _ w1 h hok s1 s2 (by rw[p1];omega) fun ρ' S' a' w' g1 g2 g3=>hq ρ' S' a' w' g1 g2 ?_
    rw[p1]at g3;exact(q3.weaken hn).trans g3
   ·cases h1'
  ·cases h
def dy(tm:List (AV K)):Prop:=∀(t g:Nat) b v,tm[t]?≠some (.opt g b v)
theorem dy.in{tm:List (AV K)}(h:dy tm):lD tm []:=fun t g b v e=>absurd e (h t g b v)
theorem eP.wipe{D:bP K}{tmps:Array Value}:∀(wr:List Nat)(tm:List (AV K)),eP D ρ S w tm tmps->eP D ρ S w (jl tm wr) tmps
 |[],tm,h=>h
 |d::r,tm,h=>by
  simp only[jl];split
  ·refine eP.wipe r _ ⟨by simp[h.len],fun t v x hv hx=>?_⟩;rcases ff hv with⟨rfl,rfl,-⟩|⟨-,hv⟩
   ·exact .jV (.any x)
   ·exact h.ok t v x hv hx
  ·exact eP.wipe r tm h
theorem Rx:∀(wr:List Nat)(tm:List (AV K))(t:Nat)(v:AV K),(jl tm wr)[t]?=some v->v.jh=true->t∉wr/\tm[t]?=some v
 |[],tm,t,v,h,hv=>⟨by simp,h⟩
 |d::r,tm,t,v,h,hv=>by
  simp only[jl]at h;split at h
  ·obtain⟨h1,h2⟩:=Rx r _ t v h hv;rcases ff h2 with⟨rfl,rfl,-⟩|⟨hne,h2⟩
   ·simp[AV.jh]at hv
   ·exact⟨by simp[hne,h1],h2⟩
  ·rename_i hno;obtain⟨h1,h2⟩:=Rx r _ t v h hv;refine⟨?_,h2⟩;simp only[fi,not_or];refine⟨fun e=>?_,h1⟩;subst e;cases v<;>simp[AV.jh]at hv;exact hno _ _ _ h2
theorem dy.wipe{tm:List (AV K)}{wr:List Nat}(h:lD tm wr):dy (jl tm wr):=fun t g b v e=>by
 obtain⟨h1,h2⟩:=Rx wr tm t _ e rfl;exact h1 (h t g b v h2).1
end Go.V
namespace Go.V
open Go
variable {K :db}{ρ ρ':List Value}{S S':Nat->Prop}{w w':World}{H H':List (Ob K)}
def alv(L:List Oper)(t:Nat):Prop:=∀(k:Nat) o,L[k]?=some o->o.dst≠some t
theorem Ry{bits:Nat}:∀(L:List Oper)(i:Nat)(tm:List (AV K))(t:Nat)(v:AV K),(eE bits L i tm)[t]?=some v->v≠.any->
 tm[t]?=some v/\∀(k:Nat) o,L[k]?=some o->o.dst=some t->bits.testBit (i+k)=true
 |[],i,tm,t,v,h,_=>⟨h,fun k o ho=>by simp at ho⟩
 |o::r,i,tm,t,v,h,hv=>by
  simp only[eE]at h;obtain⟨h1,h2⟩:=Ry r (i+1) _ t v h hv;have hrest:∀(k:Nat) o',(o::r)[k]?=some o'->o'.dst=some t->k≠0->bits.testBit (i+k)=true:=fun k o' ho' hd hk=>by
   obtain⟨k',rfl⟩:=Nat.exists_eq_succ_of_ne_zero hk;have:=h2 k' o' (by simpa using ho') hd;rw[show i+(k'+1)=i+1+k' by omega];exact this
  split at h1
  ·rename_i d hd;split at h1
   ·rename_i hb;refine⟨h1,fun k o' ho' hd'=>?_⟩;by_cases hk:k=0
    ·subst hk;simpa using hb
    ·exact hrest k o' ho' hd' hk
   ·rename_i hb;rcases ff h1 with⟨rfl,rfl,-⟩|⟨hne,h1⟩
    ·exact absurd rfl hv
    ·refine⟨h1,fun k o' ho' hd'=>?_⟩;by_cases hk:k=0
     ·subst hk;simp at ho';subst ho';rw[hd]at hd';simp at hd';exact absurd hd'.symm hne
     ·exact hrest k o' ho' hd' hk
  ·rename_i hd;refine⟨h1,fun k o' ho' hd'=>?_⟩;by_cases hk:k=0
   ·subst hk;simp at ho';subst ho';rw[hd]at hd';cases hd'
   ·exact hrest k o' ho' hd' hk
theorem Rz{bits:Nat}:∀(L:List Oper)(i:Nat)(tm:List (AV K)),(eE bits L i tm).length=tm.length
 |[],i,tm=>rfl
 |o::r,i,tm=>by
  simp only[eE];rw[Rz r];split
  ·split<;>simp
  ·rfl
theorem alx{i:Nat}:∀(bs:List Nat)(k0 k:Nat),(Fv i k0 bs).testBit k=true->∃j:Nat,k=k0+j/\((bs[j]?).getD 0).testBit i=true
 |[],k0,k,h=>by simp[Fv]at h
 |b::r,k0,k,h=>by
  simp only[Fv,zY,eC]at h;rcases h with h|h
  ·cases hb:b.testBit i with
   |false=>rw[hb]at h;simp at h
   |true=>
    rw[hb]at h;simp only[aA,Nat.testBit_two_pow,bq]at h;exact⟨0,by omega,by simpa using hb⟩
  ·obtain⟨j,h1,h2⟩:=alx r (k0+1) k h;exact⟨j+1,by omega,by simpa using h2⟩
theorem aly{bs:List Nat}{i k:Nat}(h:(eO bs i).testBit k=true):(bs.getD i 0).testBit k=true\/(bs.getD k 0).testBit i=true:=by
 simp only[eO,zY,eC]at h;rcases h with h|h
 ·exact .inl h
 ·obtain⟨j,h1,h2⟩:=alx _ _ _ h;rw[dI]at h1;subst h1;right;rw[dG];exact h2
theorem RB:∀(L:List Oper)(acc:List Nat)(i:Nat),i<acc.length->(ik L acc).getD i 0=acc.getD i 0
 |[],acc,i,_=>rfl
 |o::r,acc,i,h=>by
  simp only[ik];rw[RB r _ i (by simp;omega)];simp only[dG];rw[dD h]
theorem alz{acc:List Nat}{k:Nat}:∀(es:List Edge)(s:Nat),(es.foldl (fun s e=>s|||2^e.on|||acc.getD e.on 0) s).testBit k=true->s.testBit k=true\/∃e∈es,k=e.on\/(acc.getD e.on 0).testBit k=true
 |[],s,h=>.inl h
 |e::r,s,h=>by
  rcases alz r _ h with h|⟨e',he',h⟩
  ·simp only[zY,eC]at h;rcases h with(h|h)|h
   ·exact .inl h
   ·rw[Nat.testBit_two_pow]at h;exact .inr ⟨e,by simp,.inl (by simpa using h.symm:e.on=k).symm⟩
   ·exact .inr ⟨e,by simp,.inr h⟩
  ·exact .inr ⟨e',by simp[he'],h⟩
theorem alA:∀(L:List Oper)(acc:List Nat)(j:Nat)(o:Oper),L[j]?=some o->jU L acc.length=true->
 ∀k,((ik L acc).getD (acc.length+j) 0).testBit k=true->∃e∈o.after,k=e.on\/((ik L acc).getD e.on 0).testBit k=true
 |[],acc,j,o,h,_,k,_=>by simp at h
 |x::r,acc,0,o,h,he,k,hk=>by
  simp at h;subst h;simp only[ik]at hk⊢;rw[RB r _ _ (by simp)]at hk;simp only[dG,Nat.add_zero]at hk;rw[d5 (bY _)]at hk;simp only[rF,List.getElem?_cons_zero,aV]at hk;simp only[jU,bC,dz,bq]at he;rcases alz x.after.toList 0 (by simpa only[dG]using hk)with h|⟨e,h1,h2⟩
  ·simp at h
  ·refine⟨e,by simpa using h1,h2.imp id fun h=>?_⟩;rw[RB r _ _ (by have:=(he.1 e h1).1;simp;omega)];rw[dG,dD (he.1 e h1).1,<-dG];exact h
 |x::r,acc,j+1,o,h,he,k,hk=>by
  simp only[ik]at hk⊢;simp only[jU,bC]at he;have:=alA r (acc++[x.after.toList.foldl (fun s e=>s|||2^e.on|||acc.getD e.on 0) 0]) j o (by simpa using h) (by simpa using he.2) k (by
   rw[show acc.length+(j+1)=(acc++[x.after.toList.foldl (fun s e=>s|||2^e.on|||acc.getD e.on 0) 0]).length+j by simp;omega]at hk;exact hk)
  exact this
theorem F4:∀(L:List Oper)(n i:Nat)(o:Oper),jU L n=true->L[i]?=some o->∀e∈o.after,e.on<n+i/\Region.binds .any e=true
 |[],n,i,o,_,h=>by simp at h
 |x::r,n,0,o,h,ho=>by
  simp at ho;subst ho;simp only[jU,bC,dz,bq]at h;intro e he;exact h.1 e (by simpa using he)
 |x::r,n,i+1,o,h,ho=>by
  simp only[jU,bC]at h;intro e he;have:=F4 r (n+1) i o h.2 (by simpa using ho) e he;exact⟨by omega,this.2⟩
theorem uz{L:List Oper}(he:jU L 0=true){T:Nat->Prop}(hT:∀(i:Nat) o,L[i]?=some o->T i->∀e∈o.after,T e.on):
 ∀(i:Nat)(o:Oper),L[i]?=some o->(∀e∈o.after,T e.on)->∀k,((ik L []).getD i 0).testBit k=true->T k/\k<i:=by
 intro i
 induction i using Nat.strongRecOn with
 |_ i ih=>
  intro o ho hoe k hk;obtain⟨e,h1,h2⟩:=alA L [] i o ho he k (by simpa using hk);have hlt:=(F4 L 0 i o he ho e h1).1;rw[dI]at hlt;rcases h2 with rfl|h2
  ·exact⟨hoe e h1,hlt⟩
  ·have hi:i<L.length:=(cz.1 ho).1;have hg:=ct (show e.on<L.length by omega);obtain⟨a,b⟩:=ih e.on hlt _ hg (hT e.on _ hg (hoe e h1)) k h2;exact⟨a,by omega⟩
structure LU (cx:Cx K) (L:List Oper) (bs:List Nat) (H:List (Ob K)) (cg eQ:List (AV K)) (vals:Nat->AV K):Prop where
 len:eQ.length=cg.length
 uniq:∀(i j:Nat) o o' d,L[i]?=some o->L[j]?=some o'->o.dst=some d->o'.dst=some d->i=j
 inb:∀(i:Nat) o d,L[i]?=some o->o.dst=some d->d<cg.length
 fin:∀(i:Nat) o d,L[i]?=some o->o.dst=some d->eQ[d]?=some (vals i)
 rest:∀t,alv L t->eQ[t]?=cg[t]?
 slot:∀(i:Nat) o,L[i]?=some o->∃dc dP H1,iD true cx L (eE (eO bs i) L 0 dc) H dP o=some (vals i,H1,true)/\dc.length=cg.length/\
  (∀(k:Nat) o' d,L[k]?=some o'->o'.dst=some d->k<i->dc[d]?=some (vals k))/\(∀t,(∀(k:Nat) o,k<i->L[k]?=some o->o.dst≠some t)->dc[t]?=cg[t]?)/\∀d∈dP,∃(k:Nat)(o':Oper),k<i/\L[k]?=some o'/\o'.dst=some d
structure alB (cx:Cx K) (L:List Oper) (bs:List Nat) (H:List (Ob K)) (cg:List (AV K)) (vals:Nat->AV K) (n:Nat) (tm:List (AV K)) (wr:List Nat):Prop where
 len:tm.length=cg.length
 uniq:∀(i j:Nat) o o' d,i<n->j<n->L[i]?=some o->L[j]?=some o'->o.dst=some d->o'.dst=some d->i=j
 inb:∀(i:Nat) o d,i<n->L[i]?=some o->o.dst=some d->d<cg.length
 fin:∀(i:Nat) o d,i<n->L[i]?=some o->o.dst=some d->tm[d]?=some (vals i)
 rest:∀t,(∀(k:Nat) o,k<n->L[k]?=some o->o.dst≠some t)->tm[t]?=cg[t]?
 mz:∀d,d∈wr↔∃(k:Nat)(o':Oper),k<n/\L[k]?=some o'/\o'.dst=some d
 slot:∀(i:Nat) o,i<n->L[i]?=some o->∃dc dP H1,iD true cx L (eE (eO bs i) L 0 dc) H dP o=some (vals i,H1,true)/\dc.length=cg.length/\
  (∀(k:Nat) o' d,L[k]?=some o'->o'.dst=some d->k<i->dc[d]?=some (vals k))/\(∀t,(∀(k:Nat) o,k<i->L[k]?=some o->o.dst≠some t)->dc[t]?=cg[t]?)/\∀d∈dP,∃(k:Nat)(o':Oper),k<i/\L[k]?=some o'/\o'.dst=some d
theorem RD{cx:Cx K}{L:List Oper}{bs:List Nat}:∀(l:List Oper)(i:Nat)(st st':St K)(wr wr':List Nat),mr cx L bs l i st wr=some (st',wr')->st'.ok=true->st.ok=true/\st'.H=st.H
 |[],i,st,st',wr,wr',h,hok=>by simp only[mr,aD,bj]at h;rw[h.1];exact⟨hok,rfl⟩
 |o::r,i,st,st',wr,wr',h,hok=>by
  simp only[mr]at h;split at h
  ·split at h
   ·rename_i st1 ip hp;obtain⟨p1,p2,-⟩:=rB hp;obtain⟨q1,q2⟩:=RD r (i+1) st1 st' ip wr' h hok;rw[p2]at q1;simp only[bC]at q1;exact⟨q1.2,by rw[q2,p1]⟩
   ·cases h
  ·cases h
theorem alC{cx:Cx K}{L:List Oper}{bs:List Nat}{H:List (Ob K)}{cg:List (AV K)}:∀(l:List Oper)(n:Nat)(st st':St K)(wr wr':List Nat)(vals:Nat->AV K),mr cx L bs l n st wr=some (st',wr')->st'.ok=true->st.H=H->
 (∀j,l[j]?=L[n+j]?)->n+l.length=L.length->alB cx L bs H cg vals n st.tm wr->∃kF,alB cx L bs H cg kF L.length st'.tm wr'
 |[],n,st,st',wr,wr',vals,h,hok,hH,hl,hn,hp=>by
   simp only[mr,aD,bj]at h;obtain⟨rfl,rfl⟩:=h;simp at hn;subst hn;exact⟨vals,hp⟩
 |o::r,n,st,st',wr,wr',vals,h,hok,hH,hl,hn,hp=>by
  have hLn:L[n]?=some o:=by have:=hl 0;simpa using this.symm
  simp only[mr]at h;split at h
  ·rename_i v H1 c hsv;split at h
   ·rename_i st1 ip hput;obtain⟨p1,p2,p3⟩:=rB hput;have hok1:=(RD r (n+1) st1 st' ip wr' h hok).1;rw[p2]at hok1;simp only[bC]at hok1;obtain⟨rfl,-⟩:=hok1;rw[hH]at hsv
    let kF:Nat->AV K:=fun i=>if i=n then v else vals i
    have hv':∀i,i<n->kF i=vals i:=fun i hi=>by simp[kF,show i≠n by omega]
    have hvn:kF n=v:=by simp[kF]
    have RE:∃dc dP H1,iD true cx L (eE (eO bs n) L 0 dc) H dP o=some (kF n,H1,true)/\dc.length=cg.length/\
     (∀(k:Nat) o' d,L[k]?=some o'->o'.dst=some d->k<n->dc[d]?=some (kF k))/\(∀t,(∀(k:Nat) o,k<n->L[k]?=some o->o.dst≠some t)->dc[t]?=cg[t]?)/\∀d∈dP,∃(k:Nat)(o':Oper),k<n/\L[k]?=some o'/\o'.dst=some d:=
     ⟨st.tm,wr,H1,by rw[hvn];exact hsv,hp.len,fun k o' d h1 h2 h3=>by rw[hv' k h3];exact hp.fin k o' d h3 h1 h2,fun t ht=>hp.rest t fun k o' hk h1=>ht k o' hk h1,fun d hd=>(hp.mz d).1 hd⟩
    have uA:∀(i:Nat) o,i<n+1->L[i]?=some o->∃dc dP H1,iD true cx L (eE (eO bs i) L 0 dc) H dP o=some (kF i,H1,true)/\dc.length=cg.length/\
     (∀(k:Nat) o' d,L[k]?=some o'->o'.dst=some d->k<i->dc[d]?=some (kF k))/\(∀t,(∀(k:Nat) o,k<i->L[k]?=some o->o.dst≠some t)->dc[t]?=cg[t]?)/\∀d∈dP,∃(k:Nat)(o':Oper),k<i/\L[k]?=some o'/\o'.dst=some d:=fun i o1 hi ho1=>by
     by_cases hin:i=n
     ·subst hin;rw[hLn]at ho1;simp at ho1;subst ho1;exact RE
     ·obtain⟨dc,dP,H2,a1,a2,a3,a4,a5⟩:=hp.slot i o1 (by omega) ho1;exact⟨dc,dP,H2,by rw[hv' i (by omega)];exact a1,a2,fun k o' d h1 h2 h3=>by rw[hv' k (by omega)];exact a3 k o' d h1 h2 h3,a4,a5⟩
    refine alC r (n+1) st1 st' ip wr' kF h hok (by rw[p1];exact hH) (fun j=>by have:=hl (j+1);simp only[List.getElem?_cons_succ]at this;rw[this];congr 1;omega) (by simp at hn;omega) ?_;rcases p3 with⟨e1,e2,e3⟩|⟨d,e1,e2,e3,e4,e5⟩
    ·refine⟨by rw[e2];exact hp.len,fun i j o1 o2 d hi hj h1 h2 h3 h4=>?_,fun i o1 d hi h1 h2=>?_,fun i o1 d hi h1 h2=>?_,fun t ht=>by rw[e2];exact hp.rest t fun k o' hk=>ht k o' (by omega),fun d=>?_,uA⟩
     ·have hin:i≠n:=fun e=>by subst e;rw[hLn]at h1;simp at h1;subst h1;rw[e1]at h3;cases h3
      have hjn:j≠n:=fun e=>by subst e;rw[hLn]at h2;simp at h2;subst h2;rw[e1]at h4;cases h4
      exact hp.uniq i j o1 o2 d (by omega) (by omega) h1 h2 h3 h4
     ·have hin:i≠n:=fun e=>by subst e;rw[hLn]at h1;simp at h1;subst h1;rw[e1]at h2;cases h2
      exact hp.inb i o1 d (by omega) h1 h2
     ·have hin:i≠n:=fun e=>by subst e;rw[hLn]at h1;simp at h1;subst h1;rw[e1]at h2;cases h2
      rw[e2,hv' i (by omega)];exact hp.fin i o1 d (by omega) h1 h2
     ·rw[e3,hp.mz d];constructor
      ·rintro ⟨k,o',hk,h1,h2⟩;exact⟨k,o',by omega,h1,h2⟩
      ·rintro ⟨k,o',hk,h1,h2⟩
       have hkn:k≠n:=fun e=>by subst e;rw[hLn]at h1;simp at h1;subst h1;rw[e1]at h2;cases h2
       exact⟨k,o',by omega,h1,h2⟩
    ·have hnew:∀(k:Nat) o',k<n->L[k]?=some o'->o'.dst≠some d:=fun k o' hk h1 h2=>e2 ((hp.mz d).2 ⟨k,o',hk,h1,h2⟩)
     have hdn:∀{o1:Oper}{d1:Nat},L[n]?=some o1->o1.dst=some d1->d1=d:=fun{o1 d1} h1 h2=>by rw[hLn]at h1;simp at h1;subst h1;rw[e1]at h2;simpa using h2.symm
     refine⟨by rw[e4];simp[hp.len],fun i j o1 o2 d1 hi hj h1 h2 h3 h4=>?_,fun i o1 d1 hi h1 h2=>?_,fun i o1 d1 hi h1 h2=>?_,fun t ht=>?_,fun d1=>?_,uA⟩
     ·by_cases hin:i=n<;>by_cases hjn:j=n
      ·omega
      ·subst hin;have:=hdn h1 h3;subst this;exact absurd h4 (hnew j o2 (by omega) h2)
      ·subst hjn;have:=hdn h2 h4;subst this;exact absurd h3 (hnew i o1 (by omega) h1)
      ·exact hp.uniq i j o1 o2 d1 (by omega) (by omega) h1 h2 h3 h4
     ·by_cases hin:i=n
      ·subst hin;have:=hdn h1 h2;subst this;rw[<-hp.len];exact e3
      ·exact hp.inb i o1 d1 (by omega) h1 h2
     ·rw[e4];by_cases hin:i=n
      ·subst hin;have:=hdn h1 h2;subst this;rw[jy,aE rfl,aE e3,hvn]
      ·have hne:d1≠d:=fun e=>by subst e;exact hnew i o1 (by omega) h1 h2
       rw[jy,av (nk hne),hv' i (by omega)];exact hp.fin i o1 d1 (by omega) h1 h2
     ·have hne:d≠t:=fun e=>by subst e;exact ht n o (by omega) hLn e1
      rw[e4,jy,av hne];exact hp.rest t fun k o' hk=>ht k o' (by omega)
     ·rw[e5,fi,hp.mz d1];constructor
      ·rintro (rfl|⟨k,o',hk,h1,h2⟩)
       ·exact⟨n,o,by omega,hLn,e1⟩
       ·exact⟨k,o',by omega,h1,h2⟩
      ·rintro ⟨k,o',hk,h1,h2⟩
       by_cases hkn:k=n
       ·subst hkn;exact .inl (hdn h1 h2)
       ·exact .inr ⟨k,o',by omega,h1,h2⟩
   ·cases h
  ·cases h
theorem aDP{cx:Cx K}{L:List Oper}{bs:List Nat}{st st':St K}{wr':List Nat}(h:mr cx L bs L 0 st []=some (st',wr'))(hok:st'.ok=true):
 ∃vals,LU cx L bs st.H st.tm st'.tm vals/\∀d,d∈wr'↔∃(k:Nat)(o':Oper),L[k]?=some o'/\o'.dst=some d:=by
 obtain⟨vals,hp⟩:=alC (cg:=st.tm) L 0 st st' [] wr' (fun _=>.any) h hok rfl (fun j=>by simp) (by simp)
  ⟨rfl,fun i j _ _ _ hi=>by omega,fun i _ _ hi=>by omega,fun i _ _ hi=>by omega,fun t _=>rfl,fun d=>by simp,fun i _ hi=>by omega⟩
 have hlt:∀{i:Nat}{o:Oper},L[i]?=some o->i<L.length:=fun h=>(cz.1 h).1
 refine⟨vals,⟨hp.len,fun i j o o' d h1 h2=>hp.uniq i j o o' d (hlt h1) (hlt h2) h1 h2,fun i o d h1=>hp.inb i o d (hlt h1) h1,fun i o d h1=>hp.fin i o d (hlt h1) h1,fun t ht=>hp.rest t fun k o _=>ht k o,fun i o h1=>hp.slot i o (hlt h1) h1⟩,fun d=>?_⟩;rw[hp.mz d];exact⟨fun⟨k,o',_,h1,h2⟩=>⟨k,o',h1,h2⟩,fun⟨k,o',h1,h2⟩=>⟨k,o',hlt h1,h1,h2⟩⟩
end Go.V
namespace Go.V
open Go
variable {K :db}{ρ ρ':List Value}{S S':Nat->Prop}{w w':World}{H H':List (Ob K)}
structure Mid (cx:Cx K) (L:List Oper) (cg:List (AV K)) (vals:Nat->AV K) (H:List (Ob K)) (ρ:List Value) (S:Nat->Prop) (listed:Array Bool) (a:Act) (w:World):Prop where
 heap:aY cx.D ρ S w H
 defers:a.defers=[]
 size:a.tmps.size=cg.length
 nO:listed.size=L.length
 base:∀(t:Nat) v x,(∀(k:Nat) o,L[k]?=some o->o.dst=some t->listed[k]?≠some true)->cg[t]?=some v->a.tmps[t]?=some x->Rep cx.D ρ S w v x
 done:∀(k:Nat) o d x,L[k]?=some o->listed[k]?=some true->o.dst=some d->a.tmps[d]?=some x->eF cx.D ρ S w a.tmps (vals k) x
 opts:∀(k g:Nat) b y,listed[k]?=some true->vals k=.opt g b y->∃(k':Nat)(o':Oper),L[k']?=some o'/\o'.dst=some g/\listed[k']?=some true
 closed:∀(k:Nat) o,L[k]?=some o->listed[k]?=some true->∀e∈o.after,listed[e.on]?=some true
theorem AB(L:List Oper)(t:Nat):alv L t\/∃(k:Nat)(o:Oper),L[k]?=some o/\o.dst=some t:=by
 by_cases h:∃(k:Nat)(o:Oper),L[k]?=some o/\o.dst=some t
 ·exact .inr h
 ·exact .inl fun k o h1 h2=>h ⟨k,o,h1,h2⟩
theorem alD{q:Bool}{cx:Cx K}{ops:List Oper}{tm:List (AV K)}{wr:List Nat}{o:Oper}{g:Nat}{b:Bool}{y:AV K}{c:Bool}(h:iD q cx ops tm H wr o=some (.opt g b y,H',c)):∃v,tm[g]?=some v/\v≠.any:=by
 unfold iD at h;split at h
 ·cases h
 ·split at h
  ·split at h
   ·cases h
   ·rename_i hno;simp only[aD,bj]at h;obtain⟨rfl,-⟩:=h;simp[AV.jh]at hno
  ·cases h
 ·rename_i g' w1 hgd;split at h
  ·split at h
   ·split at h
    ·split at h
     ·split at h
      ·cases h
      ·rename_i hno;simp only[aD,bj]at h;obtain⟨rfl,-⟩:=h;simp[AV.jh]at hno
     ·cases h
    ·simp only[aD,bj]at h;obtain⟨h,-⟩:=h;cases h
   ·cases h
  split at h
  ·cases h
  ·rename_i e hgv;split at h
   ·split at h
    ·simp only[aD,bj,AV.opt.injEq]at h;obtain⟨⟨rfl,rfl,rfl⟩,-⟩:=h;simp only[zZ]at hgv;split at hgv
     ·rename_i bb hv;exact⟨_,hv,by simp⟩
     ·rename_i g1 w1 bb hv;exact⟨_,hv,by simp⟩
     ·cases hgv
    ·cases h
   ·cases h
theorem F5{listed:Array Bool}{j:Nat}:listed.getD j true=false↔listed[j]?=some false:=by
 rw[nD];cases h:listed[j]? with
 |none=>simp
 |some b=>cases b<;>simp
theorem RF{listed:Array Bool}{j:Nat}:listed.getD j false=true↔listed[j]?=some true:=by
 rw[nD];cases h:listed[j]? with
 |none=>simp
 |some b=>cases b<;>simp
theorem Mid.slots{cx:Cx K}{L:List Oper}{cg eQ:List (AV K)}{vals:Nat->AV K}{bs:List Nat}(hbs:bs=ik L [])(he:jU L 0=true){listed:Array Bool}{a:Act}
 (hm:Mid cx L cg vals H ρ S listed a w) (hd:LU cx L bs H cg eQ vals) (h0:dy cg) {j:Nat} {o:Oper} (ho:L[j]?=some o) (gK:listed[j]?=some false) (lE:∀e∈o.after,listed[e.on]?=some true) {dc:List (AV K)} (hl:dc.length=cg.length)
 (h1:∀(k:Nat) o' d,L[k]?=some o'->o'.dst=some d->k<j->dc[d]?=some (vals k)) (h2:∀t,(∀(k:Nat) o,k<j->L[k]?=some o->o.dst≠some t)->dc[t]?=cg[t]?):eP cx.D ρ S w (eE (eO bs j) L 0 dc) a.tmps/\
   ∀(t:Nat) v,(eE (eO bs j) L 0 dc)[t]?=some v->v≠.any->(∀(k:Nat) o',k<j->L[k]?=some o'->o'.dst≠some t)\/∃(k:Nat)(o':Oper),L[k]?=some o'/\o'.dst=some t/\listed[k]?=some true:=by
 have key:∀(t:Nat) v,(eE (eO bs j) L 0 dc)[t]?=some v->v≠.any->(((∀(k:Nat) o',k<j->L[k]?=some o'->o'.dst≠some t)/\(∀(k:Nat) o,L[k]?=some o->o.dst=some t->listed[k]?≠some true))/\cg[t]?=some v)\/∃(k:Nat)(o':Oper),L[k]?=some o'/\o'.dst=some t/\listed[k]?=some true/\v=vals k:=fun t v hv hne=>by
  obtain⟨g1,g2⟩:=Ry L 0 dc t v hv hne;rcases AB L t with hn|⟨k,o',hk,hkd⟩
  ·exact .inl ⟨⟨fun k o' _ h=>hn k o' h,fun k o' h h'=>absurd h' (hn k o' h)⟩,by rw[<-h2 t fun k o' _ h=>hn k o' h];exact g1⟩
  ·have hb:=g2 k o' hk hkd;rw[dI,hbs]at hb;rcases aly hb with hb|hb
   ·obtain⟨c1,c2⟩:=uz he (T:=fun i=>listed[i]?=some true) (fun i o hi nP=>hm.closed i o hi nP) j o ho lE k hb;have:=h1 k o' t hk hkd c2;rw[g1]at this;exact .inr ⟨k,o',hk,hkd,c1,by simpa using this⟩
   ·have c0:=(uz he (T:=fun _=>True) (fun _ _ _ _ _ _=>trivial) k o' hk (fun _ _=>trivial) j hb).2;have hun:listed[k]?≠some true:=fun hlk=>by
     have:=(uz he (T:=fun i=>listed[i]?=some true) (fun i o hi nP=>hm.closed i o hi nP) k o' hk (hm.closed k o' hk hlk) j hb).1;rw[gK]at this;cases this
    have F6:∀(k':Nat) o1,L[k']?=some o1->o1.dst=some t->k'=k:=fun k' o1 h1 h2=>hd.uniq k' k o1 o' t h1 hk h2 hkd
    have hlt:∀(k':Nat) o1,k'<j->L[k']?=some o1->o1.dst≠some t:=fun k' o1 hk' h1 h2=>by have:=F6 k' o1 h1 h2;omega
    exact .inl ⟨⟨hlt,fun k' o1 h1 h2=>by rw[F6 k' o1 h1 h2];exact hun⟩,by rw[<-h2 t hlt];exact g1⟩
 refine⟨⟨by rw[Rz,hl,hm.size],fun t v x hv hx=>?_⟩,fun t v hv hne=>?_⟩
 ·by_cases hne:v=.any
  ·subst hne;exact .jV (.any x)
  ·rcases key t v hv hne with⟨⟨-,hn⟩,g⟩|⟨k,o',hk,hkd,hlk,rfl⟩
   ·exact .jV (hm.base t v x hn g hx)
   ·exact hm.done k o' t x hk hlk hkd hx
 ·rcases key t v hv hne with⟨⟨hn,-⟩,-⟩|⟨k,o',hk,hkd,hlk,-⟩
  ·exact .inl hn
  ·exact .inr ⟨k,o',hk,hkd,hlk⟩
theorem Mid.put{cx:Cx K}{L:List Oper}{cg eQ:List (AV K)}{vals:Nat->AV K}{bs:List Nat}{listed:Array Bool}{a:Act}(hm:Mid cx L cg vals H ρ S listed a w)(hd:LU cx L bs H cg eQ vals){j:Nat}{o:Oper}(ho:L[j]?=some o)
 (hj:listed[j]?=some false) (lE:∀e∈o.after,listed[e.on]?=some true) {u:Value} (hs':aY cx.D ρ' S' w' H) (hst:Step cx.D H.length ρ S H w ρ' S' H w') (hv:eF cx.D ρ' S' w' a.tmps (vals j) u)
 (l6:∀g b y,vals j=.opt g b y->∃(k':Nat)(o':Oper),L[k']?=some o'/\o'.dst=some g/\listed[k']?=some true):Mid cx L cg vals H ρ' S' (listed.setIfInBounds j true) (a.put o.dst u) w':=by
 have hjs:j<listed.size:=(jd.1 hj).1;have hget:∀(k:Nat),(listed.setIfInBounds j true)[k]?=some true↔(k=j\/listed[k]?=some true):=fun k=>by
  rw[pN];by_cases hk:j=k
  ·subst hk;simp[hjs]
  ·rw[av hk];simp[nk hk]
 have hmono:∀{v:AV K}{x:Value},Rep cx.D ρ S w v x->Rep cx.D ρ' S' w' v x:=fun h=>h.mono hst.s1 (hst.FI hm.heap) (hst.Ru hm.heap)
 have alE:∀{v:AV K}{x:Value}{tmps:Array Value},eF cx.D ρ S w tmps v x->eF cx.D ρ' S' w' tmps v x:=fun h=>h.mono hst.s1 (hst.FI hm.heap) (hst.Ru hm.heap)
 have hclosed:∀(k:Nat) o1,L[k]?=some o1->(listed.setIfInBounds j true)[k]?=some true->∀e∈o1.after,(listed.setIfInBounds j true)[e.on]?=some true:=fun k o1 hk hlk e he=>by
  rw[hget]at hlk⊢;rcases hlk with rfl|hlk
  ·rw[ho]at hk;simp at hk;subst hk;exact .inr (lE e he)
  ·exact .inr (hm.closed k o1 hk hlk e he)
 have F7:∀(k g:Nat) b y,(listed.setIfInBounds j true)[k]?=some true->vals k=.opt g b y->∃(k':Nat)(o':Oper),L[k']?=some o'/\o'.dst=some g/\(listed.setIfInBounds j true)[k']?=some true:=fun k g b y hlk hvk=>by
  rw[hget]at hlk;rcases hlk with rfl|hlk
  ·obtain⟨k',o',h1,h2,h3⟩:=l6 g b y hvk;exact⟨k',o',h1,h2,(hget k').2 (.inr h3)⟩
  ·obtain⟨k',o',h1,h2,h3⟩:=hm.opts k g b y hlk hvk;exact⟨k',o',h1,h2,(hget k').2 (.inr h3)⟩
 cases hdst:o.dst with
 |none=>
  refine⟨hs',hm.defers,hm.size,by simp[hm.nO],fun t v x h1 h2 h3=>hmono (hm.base t v x (fun k o1 hk hd1 hl=>h1 k o1 hk hd1 ((hget k).2 (.inr hl))) h2 h3),fun k o1 d x hk hlk hd1 hx=>?_,F7,hclosed⟩;rw[hget]at hlk;rcases hlk with rfl|hlk
  ·rw[ho]at hk;simp at hk;subst hk;rw[hdst]at hd1;cases hd1
  ·exact alE (hm.done k o1 d x hk hlk hd1 hx)
 |some d=>
  have hne:∀{k:Nat}{o1:Oper},L[k]?=some o1->listed[k]?=some true->o1.dst≠some d:=fun{k o1} hk hlk hd1=>by
   have:=hd.uniq k j o1 o d hk ho hd1 hdst;subst this;rw[hj]at hlk;cases hlk
  refine⟨hs',hm.defers,by simp[Act.put,hm.size],by simp[hm.nO],fun t v x h1 h2 h3=>?_,fun k o1 d1 x hk hlk hd1 hx=>?_,F7,hclosed⟩
  ·have:d≠t:=fun e=>by subst e;exact h1 j o ho hdst ((hget j).2 (.inl rfl))
   simp only[Act.put,pN,av this]at h3;exact hmono (hm.base t v x (fun k o1 hk hd1 hl=>h1 k o1 hk hd1 ((hget k).2 (.inr hl))) h2 h3)
  ·rw[hget]at hlk;simp only[Act.put]at hx⊢;rw[pN]at hx;rcases hlk with rfl|hlk
   ·rw[ho]at hk;simp at hk;subst hk;rw[hdst]at hd1;simp at hd1;subst hd1;rw[aE rfl]at hx;split at hx
    ·simp at hx;subst hx;refine hv.put fun g b y e he=>?_
     obtain⟨k',o',h1,h2,h3⟩:=l6 g b y e;subst he;exact hne h1 h3 h2
    ·cases hx
   ·have hdd:d≠d1:=fun e=>by subst e;exact hne hk hlk hd1
    rw[av hdd]at hx;refine(alE (hm.done k o1 d1 x hk hlk hd1 hx)).put fun g b y e he=>?_
    obtain⟨k',o',h1,h2,h3⟩:=hm.opts k g b y hlk e;subst he;exact hne h1 h3 h2
def todo(listed:Array Bool):Nat:=(listed.toList.filter fun b=> !b).length
theorem alF{listed:Array Bool}{j:Nat}(h:listed[j]?=some false):todo (listed.setIfInBounds j true)+1=todo listed:=by
 have key:∀(l:List Bool)(j:Nat),l[j]?=some false->((l.set j true).filter fun b=> !b).length+1=(l.filter fun b=> !b).length:=fun l=>by
  induction l with
  |nil=>intro j h;simp at h
  |cons x r ih=>
   intro j h;cases j with
   |zero=>simp at h;subst h;simp
   |succ j=>
    have:=ih j (by simpa using h);simp only[List.set_cons_succ,List.filter_cons];cases x
    ·simp only[iP,eY,aO];omega
    ·simp only[dE,gz,fZ];omega
 simp only[todo,Array.toList_setIfInBounds];exact key _ _ (by simpa using h)
theorem alG{listed:Array Bool}(h:todo listed=0){j:Nat}:listed[j]?≠some false:=fun hj=>by
 have hm:false∈listed.toList:=by
  rw[List.mem_iff_getElem?];exact⟨j,by simpa using hj⟩
 have:false∈listed.toList.filter fun b=> !b:=by simp[hm]
 rw[ja h]at this;cases this
theorem alH{L:List Oper}(he:jU L 0=true){listed:Array Bool}(hl:listed.size=L.length)(hr:Region.ready .any L.toArray listed=[]):∀(i:Nat),i<L.length->listed[i]?=some true:=by
 intro i
 induction i using Nat.strongRecOn with
 |_ i ih=>
  intro hi;have ho:=ct hi;cases hb:listed[i]? with
  |none=>rw[Array.getElem?_eq_none_iff]at hb;omega
  |some b=>
   cases b with
   |true=>rfl
   |false=>
    have:i∈Region.ready .any L.toArray listed:=mem_ready.2 ⟨F5.2 hb,L[i],by simp[hi],fun e xI _=>by
     have:=(F4 L 0 i _ he ho e xI).1;exact RF.2 (ih e.on (by omega) (by omega))⟩
    rw[hr]at this;cases this
theorem aDQ{cx:Cx K}(hD:bW cx.D)(hc:aJ cx){L:List Oper}(RG:∀(i:Nat) o,L[i]?=some o->nI cx o.op=true)(he:jU L 0=true){cg eQ:List (AV K)}{vals:Nat->AV K}(hd:LU cx L (ik L []) H cg eQ vals)(h0:dy cg)
 {n0:Nat} (hn:n0<=H.length) {Q:Exit->Act->World->Prop}:∀(fuel:Nat)(listed:Array Bool)(ρ:List Value)(S:Nat->Prop)(a:Act)(w:World),Mid cx L cg vals H ρ S listed a w->todo listed<=fuel->
 (∀ρ' S' a' w',aY cx.D ρ' S' w' H->eP cx.D ρ' S' w' eQ a'.tmps->a'.defers=[]->Step cx.D n0 ρ S H w ρ' S' H w'->Q .normal a' w')->wpAny cx.P .any L.toArray Q fuel listed a w:=by
 have hfin:∀(listed:Array Bool)(ρ:List Value)(S:Nat->Prop)(a:Act)(w:World),Mid cx L cg vals H ρ S listed a w->Region.ready .any L.toArray listed=[]->eP cx.D ρ S w eQ a.tmps:=fun listed ρ S a w hm hr=>by
  have hall:=alH he hm.nO hr;refine⟨by rw[hd.len,hm.size],fun t v x hv hx=>?_⟩;rcases AB L t with hnd|⟨k,o,hk,hkd⟩
  ·rw[hd.rest t hnd]at hv;exact .jV (hm.base t v x (fun k o hk hkd=>absurd hkd (hnd k o hk)) hv hx)
  ·rw[hd.fin k o t hk hkd]at hv;simp only[aD]at hv;subst hv;exact hm.done k o t x hk (hall k (cz.1 hk).1) hkd hx
 intro fuel
 induction fuel with
 |zero=>
  intro listed ρ S a w hm ht hq;have hr:Region.ready .any L.toArray listed=[]:=by
   cases hh:Region.ready .any L.toArray listed with
   |nil=>rfl
   |cons j r=>
    have:j∈Region.ready .any L.toArray listed:=by rw[hh];simp
    exact absurd (F5.1 (mem_ready.1 this).1) (alG (by omega))
  exact⟨hr,hq ρ S a w hm.heap (hfin listed ρ S a w hm hr) hm.defers Step.refl⟩
 |succ fuel ih=>
  intro listed ρ S a w hm ht hq;refine⟨fun hr=>hq ρ S a w hm.heap (hfin listed ρ S a w hm hr) hm.defers Step.refl,fun j hj=>?_⟩;obtain⟨ry,o,hoj,hall⟩:=mem_ready.1 hj;have gK:=F5.1 ry;have ho:L[j]?=some o:=by simpa using hoj
  have lE:∀e∈o.after,listed[e.on]?=some true:=fun e xI=>RF.1 (hall e xI (F4 L 0 j o he ho e xI).2)
  obtain⟨dc,dP,H1,s1,s2,s3,s4,s5⟩:=hd.slot j o ho;obtain⟨hsl,hkn⟩:=hm.slots rfl he hd h0 ho gK lE s2 s3 s4;have hH1:H1=H:=by
   have hsm:=RG j o ho;unfold iD at s1;split at s1
   ·cases s1
   ·split at s1
    ·rename_i hy;split at s1
     ·cases s1
     ·simp only[aD,bj]at s1;obtain⟨-,rfl,-⟩:=s1;exact Az hy
    ·cases s1
   ·split at s1
    ·split at s1
     ·split at s1
      ·split at s1
       ·rename_i hy;split at s1
        ·cases s1
        ·simp only[aD,bj]at s1;obtain⟨-,rfl,-⟩:=s1;exact Az hy
       ·cases s1
      ·simp only[aD,bj]at s1;exact s1.2.1.symm
     ·cases s1
    split at s1
    ·cases s1
    ·split at s1
     ·split at s1
      ·simp only[aD,bj]at s1;exact s1.2.1.symm
      ·cases s1
     ·cases s1
  subst hH1;have l6:∀g b y,vals j=.opt g b y->∃(k':Nat)(o':Oper),L[k']?=some o'/\o'.dst=some g/\listed[k']?=some true:=fun g b y e=>by
   rw[e]at s1;obtain⟨v,g1,g2⟩:=alD s1;rcases hkn g v g1 g2 with hn'|h
   ·obtain⟨k,o',hk,h2,h3⟩:=s5 g (xH s1 g b y rfl);exact absurd h3 (hn' k o' hk h2)
   ·exact h
  have hw:=Rt hD hc hm.heap hsl (ops:=L) s1 rfl (k:=wpAny cx.P .any L.toArray Q fuel (listed.setIfInBounds j true)) (Q:=Q) fun u ρ1 S1 w1 q1 q2 q3=>by
   have hm1:=hm.put hd ho gK lE q1 q3 q2 l6;refine ih _ ρ1 S1 _ w1 hm1 (by have:=alF gK;omega) fun ρ' S' a' w' g1 g2 g3 g4=>hq ρ' S' a' w' g1 g2 g3 ((q3.weaken hn).trans g4)
  unfold wpOp;rw[hoj];dsimp only;split
  ·rename_i hwt;rw[aE hwt]at hw;exact .inl hw
  ·rename_i hwt;rw[av hwt]at hw;exact hw
theorem alI(n:Nat):todo (Array.replicate n false)<=n:=by
 simp only[todo,Array.toList_replicate];exact cD (List.length_filter_le _ _) (by simp)
end Go.V
namespace Go.V
open Go
variable {K :db}{ρ ρ':List Value}{S S':Nat->Prop}{w w':World}{H H':List (Ob K)}{D:bP K}
theorem F8{bits:Nat}:∀(l:List (Ob K))(i k:Nat),(iE bits i l)[k]?=(l[k]?).map fun o=>if bits.testBit (i+k)then .dead else o
 |[],i,k=>by simp[iE]
 |o::r,i,0=>by simp[iE]
 |o::r,i,k+1=>by
  simp only[iE,List.getElem?_cons_succ];rw[F8 r (i+1) k,show i+1+k=i+(k+1) by omega]
theorem F9{bits:Nat}:∀(l:List (Ob K))(i:Nat),(iE bits i l).length=l.length
 |[],i=>rfl
 |o::r,i=>by simp only[iE,aO,F9 r]
theorem LV{bits:Nat}:∀(l l':List (Ob K))(i:Nat),l.length<=l'.length->(kE bits i l l').length=l'.length
 |[],l',i,_=>by simp[kE]
 |o::r,[],i,h=>by simp at h
 |o::r,o'::r',i,h=>by
  simp only[kE,aO];rw[LV r r' (i+1) (by simpa using h)]
theorem LW{bits:Nat}:∀(l l':List (Ob K))(i k:Nat),l.length<=l'.length->(kE bits i l l')[k]?=if k<l.length/\bits.testBit (i+k)=true then l[k]? else l'[k]?
 |[],l',i,k,_=>by simp[kE]
 |o::r,[],i,k,h=>by simp at h
 |o::r,o'::r',i,0,h=>by
  simp only[kE,List.getElem?_cons_zero,aO,Nat.add_zero];by_cases hb:bits.testBit i=true<;>simp[hb]
 |o::r,o'::r',i,k+1,h=>by
  simp only[kE,List.getElem?_cons_succ,aO,Nat.add_lt_add_iff_right];rw[LW r r' (i+1) k (by simpa using h),show i+1+k=i+(k+1) by omega]
theorem xJ{n:Nat}:∀{l:List (AV K)}{i:Nat}{v:AV K},pS n l=true->l[i]?=some v->v.upto n=true
 |[],i,v,_,h=>by simp at h
 |x::r,0,v,h,hv=>by simp at hv;subst hv;simp only[pS,bC]at h;exact h.1
 |x::r,i+1,v,h,hv=>by simp only[pS,bC]at h;exact xJ h.2 (by simpa using hv)
theorem Rep.take(hD:bW D){n:Nat}{v:AV K}{x:Value}(h:Rep D ρ S w v x):v.upto n=true->Rep D (ρ.take n) S w v x:=by
 have tk:∀{k:Nat}{r:Value},k<n->ρ[k]?=some r->(ρ.take n)[k]?=some r:=fun hk hr=>by rw[eI,aE hk];exact hr
 induction h with
 |any v=>exact fun _=>.any v
 |int k n=>exact fun _=>.int k n
 |bool b=>exact fun _=>.bool b
 |str s=>exact fun _=>.str s
 |dt=>exact fun _=>.dt
 |dj=>exact fun _=>.dj
 |mp r=>exact fun _=>.mp r
 |fn hl _ ih=>exact fun hu=>.fn hl fun i v x h1 h2=>ih i v x h1 h2 (xJ (by simpa [AV.upto]using hu) h1)
 |ko=>exact fun _=>.ko
 |np hp=>exact fun hu=>.np (tk (by simpa [AV.upto]using hu) hp)
 |ptr hp=>exact fun hu=>.ptr (tk (by simpa [AV.upto]using hu) hp)
 |sl hp=>exact fun hu=>.sl (tk (by simpa [AV.upto]using hu) hp)
 |ep hp hi=>exact fun hu=>.ep (tk (by simpa [AV.upto]using hu) hp) hi
 |vw hp h1 h2 ha=>exact fun hu=>.vw (tk (by simpa [AV.upto]using hu) hp) h1 h2 ha
 |eM a cap=>exact fun _=>.eM a cap
 |ah val h1 h2 h3 h4 h5 ih=>exact fun _=>(Rep.ah val h1 h2 h3 h4 h5).closed hD rfl
 |rp vs h1 h2 h3 h4 ih=>exact fun _=>(Rep.rp vs h1 h2 h3 h4).closed hD rfl
 |agg hl _ ih=>exact fun hu=>.agg hl fun i v x h1 h2=>ih i v x h1 h2 (xJ (by simpa [AV.upto]using hu) h1)
 |bU hl _ ih=>exact fun hu=>.bU hl fun i v x h1 h2=>ih i v x h1 h2 (xJ (by simpa [AV.upto]using hu) h1)
theorem bE.aDR(hD:bW D){n:Nat}{l:List (AV K)}{vs:List Value}(h:bE D ρ S w l vs)(hu:pS n l=true):bE D (ρ.take n) S w l vs:=
 ⟨h.1,fun i v x h1 h2=>(h.2 i v x h1 h2).take hD (xJ hu h1)⟩
def dummy:Value:=.bool false
theorem Rep.mono'(hS:∀b,S b->S' b)(hw:∀b,S b->w'.heap[b]?=w.heap[b]?)(hρ:∀(h:Nat) r,ρ[h]?=some r->r≠dummy->ρ'[h]?=some r){v:AV K}{x:Value}
 (h:Rep D ρ S w v x):Rep D ρ' S' w' v x:=by
 induction h with
 |any v=>exact .any v
 |int k n=>exact .int k n
 |bool b=>exact .bool b
 |str s=>exact .str s
 |dt=>exact .dt
 |dj=>exact .dj
 |mp r=>exact .mp r
 |fn hl _ ih=>exact .fn hl ih
 |ko=>exact .ko
 |np hp=>exact .np (hρ _ _ hp (by simp[dummy]))
 |ptr hp=>exact .ptr (hρ _ _ hp (by simp[dummy]))
 |sl hp=>exact .sl (hρ _ _ hp (by simp[dummy]))
 |ep hp hi=>exact .ep (hρ _ _ hp (by simp[dummy])) hi
 |vw hp h1 h2 ha=>exact .vw (hρ _ _ hp (by simp[dummy])) h1 h2 ha
 |eM a cap=>exact .eM a cap
 |ah val h1 h2 h3 h4 _ ih=>exact .ah val (hS _ h1) h2 h3 (fun i hi=>(h4 i hi).keep (hw _ h1)) ih
 |rp vs h1 h2 h3 _ ih=>exact .rp vs (hS _ h1) h2 (h3.keep (hw _ h1)) ih
 |agg hl _ ih=>exact .agg hl ih
 |bU hl _ ih=>exact .bU hl ih
theorem bE.mono'(hS:∀b,S b->S' b)(hw:∀b,S b->w'.heap[b]?=w.heap[b]?)(hρ:∀(h:Nat) r,ρ[h]?=some r->r≠dummy->ρ'[h]?=some r){l:List (AV K)}{vs:List Value}
 (h:bE D ρ S w l vs):bE D ρ' S' w' l vs:=⟨h.1,fun i v x hv hx=>(h.2 i v x hv hx).mono' hS hw hρ⟩
theorem f8.take(hD:bW D){n:Nat}{o:Ob K}{r:Value}(h:f8 D ρ S w o r)(hu:o.upto n=true):f8 D (ρ.take n) S w o r:=by
 cases o with
 |dead=>trivial
 |gp c l=>exact Rep.closed hD h rfl
 |box cs=>
  obtain⟨b,vs,T,h1,h2,h3,h4⟩:=h;exact⟨b,vs,T,h1,h2,h3.aDR hD hu,h4⟩
 |arr c l=>
  rcases h with h|⟨b,o,cap,vs,T,fr,h1,h2,h3,h4,h5,h6⟩
  ·exact .inl h
  ·exact .inr ⟨b,o,cap,vs,T,fr,h1,h2,h3,h4,h5,fun i x hx=>(h6 i x hx).closed hD (hD.closed _ _)⟩
 |tree c l=>exact h
 |opn c l i off cs=>exact pX.keep (fun j v u hv hr=>hr.take hD (xJ hu hv)) (fun _ _=>rfl) h
theorem f8.mono'(hS:∀b,S b->S' b)(hw:∀b,S b->w'.heap[b]?=w.heap[b]?)(hρ:∀(h:Nat) r,ρ[h]?=some r->r≠dummy->ρ'[h]?=some r){o:Ob K}{r:Value}(h:f8 D ρ S w o r)
 (hb:∀b,o.live=true->cu D w o r b->w'.heap[b]?=w.heap[b]?):f8 D ρ' S' w' o r:=by
 cases o with
 |dead=>trivial
 |gp c l=>exact Rep.mono' hS hw hρ h
 |box cs=>
  obtain⟨b,vs,T,rfl,h2,h3,h4⟩:=h;exact⟨b,vs,T,rfl,by rw[hb b rfl rfl];exact h2,h3.mono' hS hw hρ,h4⟩
 |arr c l=>
  rcases h with h|⟨b,o,cap,vs,T,fr,rfl,h2,h3,h4,h5,h6⟩
  ·exact .inl h
  ·exact .inr ⟨b,o,cap,vs,T,fr,rfl,by rw[hb b rfl rfl];exact h2,h3,h4,h5,fun i x hx=>(h6 i x hx).mono' hS hw hρ⟩
 |tree c l=>exact Tree.mono h fun k hk=>hb k rfl hk
 |opn c l i off cs=>exact pX.keep (fun _ _ _ _ hr=>hr.mono' hS hw hρ) (fun k hk=>hb k rfl hk) h
structure View (n:Nat) (H Hv:List (Ob K)):Prop where
 len:Hv.length=n
 le:n<=H.length
 ob:∀(h:Nat) o,Hv[h]?=some o->o=.dead\/H[h]?=some o
 up:∀(h:Nat) o,Hv[h]?=some o->o.upto n=true
theorem View.lt{n:Nat}{H Hv:List (Ob K)}(v:View n H Hv){h:Nat}{o:Ob K}(ho:Hv[h]?=some o):h<n:=by
 have:=(cz.1 ho).1;rw[v.len]at this;exact this
theorem View.live{n:Nat}{H Hv:List (Ob K)}(v:View n H Hv){h:Nat}{o:Ob K}(ho:Hv[h]?=some o)(hl:o.live=true):H[h]?=some o:=by
 rcases v.ob h o ho with rfl|h
 ·cases hl
 ·exact h
theorem View.own{n:Nat}{H Hv:List (Ob K)}(v:View n H Hv){b:Nat}(h:Own D w (ρ.take n) Hv b):Own D w ρ H b:=by
 obtain⟨h,o,r,h1,h2,h3,h4⟩:=h;rw[eI,aE (v.lt h1)]at h3;exact⟨h,o,r,v.live h1 h2,h2,h3,h4⟩
theorem aY.view(hD:bW D){n:Nat}{H Hv:List (Ob K)}(hs:aY D ρ S w H)(v:View n H Hv):aY D (ρ.take n) S w Hv:={
 len:=by rw[ib,hs.len,v.len];have:=v.le;omega
 ob:=fun h o r ho hr=>by
  rw[eI,aE (v.lt ho)]at hr;rcases v.ob h o ho with rfl|h1
  ·trivial
  ·exact(hs.ob h o r h1 hr).take hD (v.up h o ho)
 eX:=fun h h' o o' r r' b h1 h2 h3 h4 h5 h6 h7 h8=>by
  rw[eI,aE (v.lt h1)]at h3;rw[eI,aE (v.lt h5)]at h7;exact hs.eX h h' o o' r r' b (v.live h1 h2) h2 h3 h4 (v.live h5 h6) h6 h7 h8
 lt:=fun b hb=>hs.lt b (v.own hb)
 slt:=hs.slt
 base:=hs.base}
structure Joined (n m:Nat) (H Hv H1 Hf:List (Ob K)):Prop where
 le:n<=m
 len1:H1.length=m
 len:Hf.length=H.length
 leN:m<=H.length
 ob:∀(h:Nat) o,Hf[h]?=some o->(h<m/\H1[h]?=some o)\/(H[h]?=some o/\((h<n/\Hv[h]?=some .dead)\/m<=h))
theorem alK{n m:Nat}{ρ ρ1:List Value}(hl:ρ1.length=m)(hm:m<=ρ.length)(k:Nat):(ρ1++ρ.drop m)[k]?=if k<m then ρ1[k]? else ρ[k]?:=by
 by_cases h:k<m
 ·rw[aE h,dD (by omega)]
 ·rw[av h,d5 (by omega),iK];congr 1;omega
theorem aY.join{n m n0:Nat}{H Hv H1 Hf:List (Ob K)}{ρ1:List Value}{S1:Nat->Prop}{w1:World}(hs:aY D ρ S w H)(v:View n H Hv)(hs1:aY D ρ1 S1 w1 H1)(st:Step D n (ρ.take n) S Hv w ρ1 S1 H1 w1)(j:Joined n m H Hv H1 Hf)
 (hd:∀h,n<=h->h<m->ρ[h]?=some dummy) (hn0:n0<=n):aY D (ρ1++ρ.drop m) S1 w1 Hf/\Step D n0 ρ S H w (ρ1++ρ.drop m) S1 Hf w1/\∀(h:Nat) r,ρ[h]?=some r->r≠dummy->(ρ1++ρ.drop m)[h]?=some r:=by
 have hl1:ρ1.length=m:=by rw[hs1.len,j.len1]
 have aDS:m<=ρ.length:=by rw[hs.len];exact j.leN
 have hρ:∀k,(ρ1++ρ.drop m)[k]?=if k<m then ρ1[k]? else ρ[k]?:=alK (n:=n) hl1 aDS
 have hpre:∀h,h<n->ρ1[h]?=ρ[h]?:=fun h hh=>by rw[st.pre h hh,eI,aE hh]
 have hmono:∀(h:Nat) r,ρ[h]?=some r->r≠dummy->(ρ1++ρ.drop m)[h]?=some r:=fun h r hr hne=>by
  rw[hρ];by_cases h1:h<m
  ·rw[aE h1];by_cases h2:h<n
   ·rw[hpre h h2];exact hr
   ·rw[hd h (by omega) h1]at hr;exact absurd (f6 hr).symm hne
  ·rw[av h1];exact hr
 have hun:∀{h:Nat}{o:Ob K}{r:Value}{b:Nat},H[h]?=some o->o.live=true->ρ[h]?=some r->cu D w o r b->((h<n/\Hv[h]?=some .dead)\/m<=h)->¬Own D w (ρ.take n) Hv b:=fun{h o r b} h1 h2 h3 h4 h5 ho=>by
  obtain⟨h',o',r',g1,g2,g3,g4⟩:=ho;have g3':ρ[h']?=some r':=by rw[eI,aE (v.lt g1)]at g3;exact g3
  have e:=hs.eX h h' o o' r r' b h1 h2 h3 h4 (v.live g1 g2) g2 g3' g4;subst e;rcases h5 with⟨-,h5⟩|h5
  ·rw[g1]at h5;simp at h5;subst h5;cases g2
  ·have:=v.lt g1;have:=j.le;omega
 have hblk:∀{h:Nat}{o:Ob K}{r:Value}{b:Nat},H[h]?=some o->o.live=true->ρ[h]?=some r->cu D w o r b->b<w.heap.size/\¬S b:=fun{h o r b} h1 h2 h3 h4=>hs.lt b ⟨h,o,r,h1,h2,h3,h4⟩
 have hkp:∀{h:Nat}{o:Ob K}{r:Value},H[h]?=some o->o.live=true->ρ[h]?=some r->((h<n/\Hv[h]?=some .dead)\/m<=h)->∀b,cu D w o r b->w1.heap[b]?=w.heap[b]?:=fun{h o r} h1 h2 h3 h5 b h4=>st.old b (hblk h1 h2 h3 h4).1 (hun h1 h2 h3 h4 h5)
 have hrr:∀{h:Nat}{o:Ob K}{r:Value},H[h]?=some o->((h<n/\Hv[h]?=some .dead)\/m<=h)->(ρ1++ρ.drop m)[h]?=some r->ρ[h]?=some r:=fun{h o r} _ h5 hr=>by
  rw[hρ]at hr;rcases h5 with⟨h5,-⟩|h5
  ·rw[aE (by have:=j.le;omega),hpre h h5]at hr;exact hr
  ·rw[av (by omega)]at hr;exact hr
 have hown:∀b,Own D w1 (ρ1++ρ.drop m) Hf b->Own D w1 ρ1 H1 b\/∃(h:Nat)(o:Ob K)(r:Value),H[h]?=some o/\o.live=true/\ρ[h]?=some r/\cu D w o r b/\((h<n/\Hv[h]?=some .dead)\/m<=h):=fun b hb=>by
  obtain⟨h,o,r,g1,g2,g3,g4⟩:=hb;rcases j.ob h o g1 with⟨k1,k2⟩|⟨k1,k2⟩
  ·rw[hρ,aE k1]at g3;exact .inl ⟨h,o,r,k2,g2,g3,g4⟩
  ·exact .inr ⟨h,o,r,k1,g2,hrr k1 k2 g3,g4.old (hkp k1 g2 (hrr k1 k2 g3) k2),k2⟩
 have hnew:∀b,Own D w1 ρ1 H1 b->Own D w (ρ.take n) Hv b\/w.heap.size<=b:=st.own;refine⟨⟨?_,?_,?_,?_,hs1.slt,hs1.base⟩,⟨st.os,st.tape,st.output,st.size,fun b hb ho=>st.old b hb fun h=>ho (v.own h),fun b hb=>?_,st.s1,fun b hb=>?_,fun h hh=>?_⟩,hmono⟩
 ·rw[bA,List.length_drop,hl1,hs.len,j.len];have:=j.leN;omega
 ·intro h o r g1 g2;rcases j.ob h o g1 with⟨k1,k2⟩|⟨k1,k2⟩
  ·rw[hρ,aE k1]at g2;refine(hs1.ob h o r k2 g2).mono' (fun _ h=>h) (fun _ _=>rfl) (fun h' r' hr' _=>?_) (fun _ _ _=>rfl);have:h'<m:=by have:=(cz.1 hr').1;omega
   rw[hρ,aE this];exact hr'
  ·have g2':=hrr k1 k2 g2;exact(hs.ob h o r k1 g2').mono' st.s1 (fun b hb=>st.old b (hs.slt b hb) fun ho=>(hs.lt b (v.own ho)).2 hb) hmono fun b hl hbk=>st.old b (hblk k1 hl g2' hbk).1 (hun k1 hl g2' hbk k2)
 ·intro h h' o o' r r' b g1 g2 g3 g4 g5 g6 g7 g8;rcases j.ob h o g1 with⟨k1,k2⟩|⟨k1,k2⟩<;>rcases j.ob h' o' g5 with⟨l1,l2⟩|⟨l1,l2⟩
  ·rw[hρ,aE k1]at g3;rw[hρ,aE l1]at g7;exact hs1.eX h h' o o' r r' b k2 g2 g3 g4 l2 g6 g7 g8
  ·rw[hρ,aE k1]at g3;have RH:=hrr l1 l2 g7;have g8:=g8.old (hkp l1 g6 RH l2);rcases hnew b ⟨h,o,r,k2,g2,g3,g4⟩with ho|ho
   ·exact absurd ho (hun l1 g6 RH g8 l2)
   ·have:=(hblk l1 g6 RH g8).1;omega
  ·rw[hρ,aE l1]at g7;have g3':=hrr k1 k2 g3;have g4:=g4.old (hkp k1 g2 g3' k2);rcases hnew b ⟨h',o',r',l2,g6,g7,g8⟩with ho|ho
   ·exact absurd ho (hun k1 g2 g3' g4 k2)
   ·have:=(hblk k1 g2 g3' g4).1;omega
  ·exact hs.eX h h' o o' r r' b k1 g2 (hrr k1 k2 g3) (g4.old (hkp k1 g2 (hrr k1 k2 g3) k2)) l1 g6 (hrr l1 l2 g7) (g8.old (hkp l1 g6 (hrr l1 l2 g7) l2))
 ·intro b hb;rcases hown b hb with ho|⟨h,o,r,k1,k2,k3,k4,k5⟩
  ·exact hs1.lt b ho
  ·obtain⟨a1,a2⟩:=hblk k1 k2 k3 k4;refine⟨ju a1 st.size,fun hS=>?_⟩;rcases st.s2 b hS with h1|h1|h1
   ·exact a2 h1
   ·exact hun k1 k2 k3 k4 k5 h1
   ·omega
 ·rcases hown b hb with ho|⟨h,o,r,k1,k2,k3,k4,-⟩
  ·rcases hnew b ho with h1|h1
   ·exact .inl (v.own h1)
   ·exact .inr h1
  ·exact .inl ⟨h,o,r,k1,k2,k3,k4⟩
 ·rcases st.s2 b hb with h1|h1|h1
  ·exact .inl h1
  ·exact .inr (.inl (v.own h1))
  ·exact .inr (.inr h1)
 ·rw[hρ,aE (by have:=j.le;omega),hpre h (by omega)]
end Go.V
namespace Go.V
open Go
variable {K :db}{H H':List (Ob K)}
def cw(T:List Nat)(H H':List (Ob K)):Prop:=H.length<=H'.length/\∀h,h<H.length->h∉T->H'[h]?=H[h]?
theorem cw.refl(T:List Nat)(H:List (Ob K)):cw T H H:=⟨bY _,fun _ _ _=>rfl⟩
theorem cw.app(T:List Nat)(H N:List (Ob K)):cw T H (H++N):=⟨by simp,fun h hh _=>dD hh⟩
theorem cw.trans{T:List Nat}{H H1 H2:List (Ob K)}(a:cw T H H1)(b:cw T H1 H2):cw T H H2:=
 ⟨cD a.1 b.1,fun h hh hn=>(b.2 h (ju hh a.1) hn).trans (a.2 h hh hn)⟩
theorem cw.set{T:List Nat}{H:List (Ob K)}{h:Nat}(o:Ob K)(hT:h∈T):cw T H (H.set h o):=
 ⟨by simp,fun k _ hn=>List.getElem?_set_ne (fun e=>hn (by rw[<-e];exact hT))⟩
theorem cw.more{T T':List Nat}{H H1:List (Ob K)}(a:cw T H H1)(h:∀x∈T,x∈T'):cw T' H H1:=⟨a.1,fun k hk hn=>a.2 k hk fun hm=>hn (h k hm)⟩
theorem RJ(dp:K.U->Bool):∀(cs:List (Option K.U))(l:List (AV K))(H:List (Ob K)),∃N,(thaw dp H cs l).2=H++N
 |[],l,H=>⟨[],by simp[thaw]⟩
 |some c::cs,[],H=>⟨[],by simp[thaw]⟩
 |none::cs,[],H=>⟨[],by simp[thaw]⟩
 |oc::cs,v::r,H=>by
  have keep:thaw dp H (oc::cs) (v::r)=(v::(thaw dp H cs r).1,(thaw dp H cs r).2)->∃N,(thaw dp H (oc::cs) (v::r)).2=H++N:=fun e=>by
   rw[e];exact RJ dp cs r H
  cases oc with
  |none=>exact keep (by cases v<;>rfl)
  |some c=>
   cases v with
   |dj=>
    have e:thaw dp H (some c::cs) (.dj::r)=(.sl H.length::(thaw dp (H++[mw (dp c) c]) cs r).1,(thaw dp (H++[mw (dp c) c]) cs r).2):=rfl;rw[e];obtain⟨N,hN⟩:=RJ dp cs r (H++[mw (dp c) c]);exact⟨mw (dp c) c::N,by simp only;rw[hN];simp⟩
   |_=>exact keep rfl
theorem RL(T:List Nat)(dp:K.U->Bool)(cs:List (Option K.U))(l:List (AV K))(H:List (Ob K)):cw T H (thaw dp H cs l).2:=by
 obtain⟨N,hN⟩:=RJ dp cs l H;rw[hN];exact cw.app _ _ _
theorem aDT{T:List Nat}{h:Nat}(hT:h∈T)(H:List (Ob K)):cw T H (xj H h):=by
 unfold xj;split
 ·exact cw.set _ hT
 ·exact cw.set _ hT
 ·exact cw.refl _ _
theorem LX{T:List Nat}:∀(l:List Nat)(H:List (Ob K)),(∀x∈l,x∈T)->cw T H (iN H l)
 |[],H,_=>cw.refl _ _
 |h::r,H,hT=>(aDT (hT h (by simp)) H).trans (LX r _ fun x hx=>hT x (by simp[hx]))
def rC(ev:Operand->AV K)(op:Op):List Nat:=(match op with
    |.store _ p _=>hands (ev p)
    |.convert _ _ x=>hands (ev x)
    |.call {callee:=.builtin .append,args, ..}=>(match args.toList with
      |s::x::_=>hands (ev s)++hands (ev x)
      |[s]=>hands (ev s)
      |[]=>[])
    |.call {callee:=.builtin .clear,args, ..}=>(match args.toList with
      |s::_=>hands (ev s)
      |[]=>[])
    |.call {callee:=.builtin .copy,args, ..}=>(match args.toList with
      |s::_=>hands (ev s)
      |[]=>[])
    |_=>[])
theorem aDU{cx:Cx K}{sT:TypeId}{s x v:AV K}{c:Bool}{t:List Nat}(h:Fq cx H sT s x=some (v,H',c,t)):cw (hands s) H H':=by unfold Fq at h;cases h
theorem aDV{cx:Cx K}{sT:TypeId}{s x v:AV K}{c:Bool}{t:List Nat}(h:Lh cx H sT s x=some (v,H',c,t)):cw (hands s) H H':=by
 unfold Lh at h;split at h
 ·cases h
 ·split at h
  ·cases h
  ·split at h
   ·split at h
    ·cases h
    ·split at h
     ·simp only[aD,bj]at h;rw[<-h.2.1];exact cw.app _ _ _
     ·split at h
      ·split at h
       ·cases h
       ·split at h
        ·simp only[aD,bj]at h;rw[<-h.2.1];exact(cw.set _ (by simp[hands])).trans (cw.app _ _ _)
        ·cases h
      ·split at h
       ·simp only[aD,bj]at h;rw[<-h.2.1];exact(cw.set _ (by simp[hands])).trans (cw.app _ _ _)
       ·cases h
     ·cases h
   ·cases h
theorem alL{cx:Cx K}{ev:Operand->AV K}{op:Op}{v:AV K}{c:Bool}{t:List Nat}(h:xl cx ev H op=some (v,H',c,t)):cw (rC ev op) H H':=by
 unfold xl at h;split at h
 ·split at h
  ·dsimp only at h;split at h
   ·cases h
   ·simp only[aD,bj]at h;rw[<-h.2.1];exact(RL _ _ _ _ _).trans (cw.app _ _ _)
  ·cases h
 ·split at h
  ·split at h
   ·dsimp only at h;split at h
    ·cases h
    ·simp only[aD,bj]at h;rw[<-h.2.1];exact(RL _ _ _ _ _).trans (cw.app _ _ _)
   ·cases h
  ·split at h
   ·simp only[aD,bj]at h;rw[<-h.2.1];exact cw.app _ _ _
   ·cases h
 ·split at h
  ·split at h
   ·simp only[eN,bj]at h;obtain⟨cs,-,-,rfl,-⟩:=h;exact cw.refl _ _
   ·cases h
  ·cases h
 ·split at h
  ·split at h
   ·split at h
    ·rename_i hh off hp;split at h
     ·split at h
      ·dsimp only at h;split at h
       ·cases h
       ·simp only[aD,bj]at h;rw[<-h.2.1];refine(RL _ _ _ _ _).trans (cw.set _ ?_);simp only[rC,hp,hands,zo]
      ·cases h
     ·cases h
    ·rename_i hh st i off hp;split at h
     ·split at h
      ·split at h
       ·simp only[aD,bj]at h;rw[<-h.2.1];refine cw.set _ ?_;simp only[rC,hp,hands,zo]
       ·cases h
      ·cases h
     ·cases h
    ·cases h
   ·cases h
  ·cases h
 ·split at h
  ·cases h
  ·split at h
   ·split at h
    ·split at h
     ·simp only[aD,bj]at h;rw[<-h.2.1];exact cw.app _ _ _
     ·cases h
    ·cases h
   ·cases h
 ·split at h
  ·cases h
  ·split at h
   ·split at h
    ·split at h
     ·simp only[aD,bj]at h;rw[<-h.2.1];exact cw.app _ _ _
     ·cases h
    ·cases h
   ·cases h
 ·split at h
  ·split at h
   ·split at h
    ·split at h
     ·simp only[aD,bj]at h;rw[<-h.2.1];exact cw.app _ _ _
     ·cases h
    ·cases h
   ·cases h
  ·split at h
   ·split at h
    ·simp only[aD,bj]at h;rw[<-h.2.1];exact cw.refl _ _
    ·cases h
   ·cases h
  ·cases h
 ·simp only[aD,bj]at h;rw[<-h.2.1];exact cw.app _ _ _
 ·split at h
  ·rename_i s x sT xT ha ht;split at h
   ·cases h
   split at h
   ·refine(aDU h).more fun y hy=>?_
    simp only[rC,ha];exact dx.2 (.inl hy)
   ·refine(aDV h).more fun y hy=>?_
    simp only[rC,ha];exact dx.2 (.inl hy)
  ·cases h
 ·cases h
mutual
theorem mA:∀(v:AV K){y:Nat},y∈hands (eK H v)->y∈hands v
 |.sl k,y,h=>by
   simp only[eK]at h;split at h
   ·simp[hands]at h
   ·exact h
 |.vw k a b c,y,h=>by
   simp only[eK]at h;split at h
   ·split at h
    ·simp[hands]at h
    ·exact h
   ·exact h
 |.agg l,y,h=>by simp only[eK,hands]at h⊢;exact RN l h
 |.bU l,y,h=>by simp only[eK,hands]at h⊢;exact RN l h
 |.any,y,h|.int _ _,y,h|.bool _,y,h|.str _,y,h|.dt,y,h|.dj,y,h|.mp,y,h|.fn _ _,y,h|.ptr _ _,y,h|.ep _ _ _ _,y,h|.ah _ _,y,h|.rp _ _ _,y,h|.np _,y,h|.opt _ _ _,y,h=>by simpa only[eK]using h
theorem RN:∀(l:List (AV K)){y:Nat},y∈cJ (pP H l)->y∈cJ l
 |[],y,h=>by simpa [pP]using h
 |v::r,y,h=>by
  simp only[pP,cJ,dx]at h⊢;exact h.imp (mA v) (RN r)
end
theorem alM{ev:Operand->AV K}{op:Op}{y:Nat}(h:y∈rC (fun x=>eK H (ev x)) op):y∈rC ev op:=by
 unfold rC at h⊢;split at h
 ·exact mA _ h
 ·exact mA _ h
 ·split at h
  ·rename_i hs;rcases dx.1 h with h|h
   ·exact dx.2 (.inl (mA _ h))
   ·exact dx.2 (.inr (mA _ h))
  ·exact mA _ h
  ·simp at h
 ·split at h
  ·exact mA _ h
  ·simp at h
 ·split at h
  ·exact mA _ h
  ·simp at h
 ·simp at h
theorem RO{T:List Nat}:∀(l:List Nat)(H:List (Ob K)),(∀x∈l,x∈T)->cw T H (jk H l)
 |[],H,_=>cw.refl _ _
 |h::r,H,hT=>(cw.set _ (hT h (by simp))).trans (RO r _ fun x hx=>hT x (by simp[hx]))
theorem alN{c:K.U}{v:AV K}{l:List (K.El c)}{ks:List Nat}(h:rl H c v=some (l,ks)):∀x∈ks,x∈hands v:=fun x hx=>by
 unfold rl at h;split at h
 ·simp only[aD,bj]at h;obtain⟨rfl,rfl⟩:=h;cases hx
 ·split at h
  ·split at h
   ·simp only[aD,bj]at h;obtain⟨-,rfl⟩:=h;simpa [hands]using hx
   ·cases h
  ·cases h
 ·cases h
theorem alO{ev:Operand->AV K}{x:Nat}:∀(l:List (Nat×Operand)),x∈cJ (l.map fun p=>eK H (ev p.2))->x∈cJ (l.map fun p=>ev p.2)
 |[],h=>h
 |y::r,h=>by
  simp only[eu,cJ,dx]at h⊢;exact h.imp (mA _) (alO r)
theorem aDW{cx:Cx K}{ev:Operand->AV K}{op:Op}{v:AV K}{c:Bool}{t:List Nat}(h:Ae cx (fun x=>eK H (ev x)) H op=some (v,H',c,t)):cw (nJ ev op) H H':=by
 unfold Ae at h;split at h
 ·rename_i T len parts;split at h
  ·cases h
  ·split at h
   ·rename_i hty hl;split at h
    ·split at h
     ·split at h
      ·simp only[aD,bj]at h;rw[<-h.2.1];refine cw.trans (RO _ _ fun x hx=>?_) (cw.app _ _ _);rw[(LJ _ _ _ hl).1]at hx;simp only[nJ,ri,K7];exact alO _ hx
      ·cases h
     ·cases h
    ·cases h
   ·cases h
 ·rename_i args argTypes;split at h
  ·rename_i s x sT xT hargs hat;split at h
   ·cases h
   ·split at h
    ·cases h
    ·split at h
     ·cases h
     ·split at h
      ·split at h
       ·rename_i l ks m ks' hl hm;split at h
        ·simp only[aD,bj]at h;rw[<-h.2.1];refine cw.trans (RO _ _ fun y hy=>?_) (cw.app _ _ _);simp only[nJ,ri,hargs,kP,dx];rcases dx.1 hy with hy|hy
         ·exact .inl (mA _ (alN hl y hy))
         ·exact .inr (mA _ (alN hm y hy))
        ·cases h
       ·cases h
      ·cases h
  ·cases h
 ·cases h
theorem aDX{cx:Cx K}{ev:Operand->AV K}{op:Op}{v:AV K}{c:Bool}{t:List Nat}(h:Ah cx ev H op=some (v,H',c,t)):cw (nJ ev op) H H':=by
 have e:nJ ev op=ri ev op++rC ev op:=rfl;unfold Ah at h;split at h
 ·rename_i r hd;simp only[aD]at h;subst h;exact aDW hd
 split at h
 ·refine(alL h).more fun y hy=>?_
  rw[e,dx];exact .inr (alM hy)
 ·have hz:cw (nJ ev op) H (iN H (ri ev op)):=LX _ _ fun x hx=>by rw[e,dx];exact .inl hx
  split at h
  ·simp only[aD,bj]at h;rw[<-h.2.1];exact hz
  ·refine hz.trans ((alL h).more fun y hy=>?_);rw[e,dx];exact .inr (alM hy)
theorem aDY{cx:Cx K}{ev:Operand->AV K}{op:Op}{v:AV K}{c:Bool}{t:List Nat}(h:cutV cx ev H op=some (v,H',c,t)):cw (nJ ev op) H H':=by
 unfold cutV at h;split at h
 ·split at h
  ·split at h
   ·rename_i hx hy he;split at h
    ·split at h
     ·simp only[aD,bj]at h;rw[<-h.2.1];refine cw.trans (cw.set _ ?_) (cw.app _ _ _);simp[nJ,ri,hx]
     ·cases h
    ·cases h
   ·cases h
  ·cases h
 ·cases h
theorem RP{cx:Cx K}{m:Mode}(hm:m=.iz\/m=.fresh){T:List Nat}{f:FuncId}{args:List (AV K)}{v:AV K}{c:Bool}{t:List Nat}(h:lA cx m H f args=some (v,H',c,t)):cw T H H':=by
 unfold lA at h;rcases hm with rfl|rfl
 ·simp only at h;split at h
  ·split at h
   ·split at h
    ·simp only[aD,bj]at h;rw[<-h.2.1];exact cw.app _ _ _
    ·cases h
   ·cases h
  ·cases h
 ·simp only at h;split at h
  ·split at h
   ·split at h
    ·split at h
     ·simp only[aD,bj]at h;rw[<-h.2.1];exact cw.app _ _ _
     ·cases h
    ·cases h
   ·cases h
  ·cases h
theorem alP:∀(m:List Nat)(H os:List (Ob K)){T:List Nat},(∀x∈m,x∈T)->cw T H (jj H m os)
 |[],H,os,T,_=>by cases os<;>exact cw.refl _ _
 |h::m,H,[],T,_=>cw.refl _ _
 |h::m,H,o::r,T,hm=>by
  simp only[jj];exact cw.trans (cw.set _ (hm h (by simp))) (alP m _ r fun x hx=>hm x (by simp[hx]))
theorem alQ{cx:Cx K}{T:List Nat}{f:FuncId}{args:List (AV K)}{v:AV K}{c:Bool}{t:List Nat}(h:lA cx .pass H f args=some (v,H',c,t))(hT:∀x∈reach H 64 (cJ args) [],x∈T):cw T H H':=by
 unfold lA at h;simp only at h;split at h
 ·cases h
 ·split at h
  ·split at h
   ·split at h
    ·split at h
     ·simp only[aD,bj]at h;rw[<-h.2.1];exact cw.trans (alP _ _ _ hT) (cw.app _ _ _)
     ·cases h
    ·cases h
   ·cases h
  ·cases h
theorem aDZ{cx:Cx K}{ev:Operand->AV K}{t:TypeId}{p:Operand}{v:AV K}{c:Bool}{ts:List Nat}(h:Af cx ev H (.load t p)=some (v,H',c,ts)):cw (hands (ev p)) H H':=by unfold Af at h;cases h
theorem aD0{cx:Cx K}{tm:List (AV K)}{T t:TypeId}{p:Operand}{v:AV K}{c:Bool}{ts:List Nat}(hn:iO cx (.load t p)=false)(h:lB false cx tm [] H T (.load t p)=some (v,H',c,ts)):
 cw (match xk cx (fun x=>eK H (dH tm [] x)) H (.load t p)with
  |some _=>[]
  |none=>hands (dH tm [] p)) H H':=by
 unfold lB at h;simp only at h;split at h
 ·rename_i v1 c1 hp;rw[hp];simp only[aD,bj]at h;rw[<-h.2.1];exact cw.refl _ _
 ·rename_i hp;rw[hp];simp only[gz,fZ,hn]at h;split at h
  ·rename_i hov;simp only[aD]at h;rw[h]at hov;exact aDZ hov
  ·split at h
   ·rename_i hct;simp[cutV]at hct
   ·simp[Ah,Ae,ri,xl]at h
theorem aD1{cx:Cx K}{tm:List (AV K)}{gs:List (Nat×Bool)}{T:TypeId}{op:Op}{v:AV K}{c:Bool}{t:List Nat}(he:ug cx op=true)(hnl:∀a b,op≠.load a b)(h:lB false cx tm gs H T op=some (v,H',c,t)):cw ((nJ (dH tm gs) op++QA (dH tm gs) op)++Ai cx H (dH tm gs) op) H H':=by
 unfold lB at h;split at h
 ·simp[ug]at he
 ·rename_i fo args _;cases fo with
  |func f=>
   have hf:(cx.mode f=.fresh\/(cx.mode f=.pass\/cx.mode f=.kW))/\(cx.opn=false\/cx.lz=true):=by simpa [ug]using he
   have Rr:(cx.opn&& !cx.lz&& !false)=false:=by rcases hf.2 with e|e<;>simp[e]
   have e:dH tm gs (.func f)=(.fn f []:AV K):=rfl;rw[e]at h;simp only[Ag,Rr,gz,fZ,K7]at h
   replace hf:=hf.1
   rcases hf with hf|hf|hf
   rotate_left
   ·simp only[rk,hf,gz,fZ]at h;refine alQ h fun x hx=>dx.2 (.inr ?_)
    simp only[Ai,hf];exact hx
   ·simp only[rk,hf,gz,fZ,xq]at h;refine cw.trans (LX _ _ fun x hx=>dx.2 (.inr ?_)) (alQ h fun x hx=>dx.2 (.inr ?_))
    ·simp only[Ai,hf];exact dx.2 (.inl hx)
    ·simp only[Ai,hf];exact dx.2 (.inr hx)
   simp only[rk,hf,gz,fZ]at h;split at h
   ·rename_i hc;simp only[aD]at h;rw[h]at hc;exact RP (.inl rfl) hc
   ·split at h
    ·rename_i hc;simp only[aD]at h;rw[h]at hc;exact RP (.inr rfl) hc
    ·unfold xq at h;refine cw.trans (LX _ _ fun x hx=>?_) (RP (.inl rfl) h);refine dx.2 (.inl (dx.2 (.inr ?_)));have key:∀l:List Operand,x∈cJ (l.map fun y=>eK H (dH tm gs y))->x∈cJ (l.map (dH tm gs)):=fun l=>by
      induction l with
      |nil=>exact fun h=>h
      |cons y r ih=>
       simp only[eu,cJ,dx];exact fun h=>h.imp (mA _) ih
     exact key _ hx
  |_=>simp[ug]at he
 ·simp[ug]at he
 ·split at h
  ·simp only[aD,bj]at h;rw[<-h.2.1];exact cw.refl _ _
  ·rw[av (by simp)]at h;split at h
   ·cases h
   ·split at h
    ·rename_i hov;exfalso;unfold Af at hov;cases hov
    split at h
    ·rename_i hct;simp only[aD]at h;rw[h]at hct;exact(aDY hct).more fun x hx=>dx.2 (.inl (dx.2 (.inl hx)))
    ·exact(aDX h).more fun x hx=>dx.2 (.inl (dx.2 (.inl hx)))
theorem alR:∀(l:List Nat)(h:Nat),(bitsOf l).testBit h=true↔h∈l
 |[],h=>by simp[bitsOf]
 |k::r,h=>by
  simp only[bitsOf,zY,eC,alR r,Nat.testBit_two_pow,bq,fi];exact⟨fun h=>h.imp Eq.symm id,fun h=>h.imp Eq.symm id⟩
theorem alS{A:Nat}:∀(ws:List Nat)(i h:Nat),(Ak A i ws).testBit h=true↔∃(k:Nat)(b:Nat),ws[k]?=some b/\A.testBit (i+k)=false/\b.testBit h=true
 |[],i,h=>by simp[Ak]
 |b::r,i,h=>by
  simp only[Ak,zY,eC,alS r];constructor
  ·rintro (h1|⟨k,b',h1,h2,h3⟩)
   ·split at h1
    ·simp at h1
    ·rename_i hA;exact⟨0,b,rfl,by simpa using hA,h1⟩
   ·exact⟨k+1,b',by simpa using h1,by rw[show i+(k+1)=i+1+k by omega];exact h2,h3⟩
  ·rintro ⟨k,b',h1,h2,h3⟩
   cases k with
   |zero=>simp at h1;subst h1;left;rw[av (by simpa using h2)];exact h3
   |succ k=>exact .inr ⟨k,b',by simpa using h1,by rw[show i+1+k=i+(k+1) by omega];exact h2,h3⟩
theorem alT{A:Nat}{T:List Nat}:∀(ms:List (Nat×Nat))(i:Nat),Lm A T i ms=true->∀(k m n:Nat),ms[k]?=some (m,n)->A.testBit (i+k)=false->∀h∈T,h<n->m.testBit h=true
 |[],i,_,k,m,n,h,_=>by simp at h
 |(m0,n0)::r,i,hr,k,m,n,hk,hA=>by
  simp only[Lm,bC,eC,dz,bq]at hr;cases k with
  |zero=>
   simp at hk;obtain⟨rfl,rfl⟩:=hk;intro h hT hn;rcases hr.1 with h1|h1
   ·rw[Nat.add_zero]at hA;rw[hA]at h1;cases h1
   ·rcases h1 h hT with h2|h2
    ·omega
    ·exact h2
  |succ k=>exact alT r (i+1) hr.2 k m n (by simpa using hk) (by rw[show i+1+k=i+(k+1) by omega];exact hA)
end Go.V
namespace Go.V
open Go
variable {K :db}{H H':List (Ob K)}
theorem alU{cx:Cx K}{tm:List (AV K)}{T:TypeId}{op:Op}{v:AV K}{c:Bool}{t:List Nat}(he:ug cx op=true)(hq:nI cx op=false)(h:lB false cx tm [] H T op=some (v,H',c,t)):cw (pT cx tm H op) H H':=by
 by_cases hl:∃a b,op=.load a b
 ·obtain⟨a,b,rfl⟩:=hl;have:pT cx tm H (.load a b)=(match xk cx (fun x=>eK H (dH tm [] x)) H (.load a b)with
   |some _=>[]
   |none=>hands (dH tm [] b)):=by unfold pT;rw[hq];rfl
  rw[this];exact aD0 hq h
 ·have:pT cx tm H op=(nJ (dH tm []) op++QA (dH tm []) op)++Ai cx H (dH tm []) op:=by
   unfold pT;rw[hq];simp only[gz,fZ];split
   ·rename_i a b;exact absurd ⟨a,b,rfl⟩ hl
   ·rfl
  rw[this];exact aD1 he (fun a b e=>hl ⟨a,b,e⟩) h
theorem aD2{cx:Cx K}{ops:List Oper}{tm:List (AV K)}{wr:List Nat}{o:Oper}{v:AV K}{c:Bool}(h:Aj cx ops tm H wr o=some (v,H',c)):cw (pT cx tm H o.op) H H':=by
 unfold Aj at h;split at h
 ·rename_i hq;have:H'=H:=by
   unfold iD at h;split at h
   ·cases h
   ·split at h
    ·rename_i hy;split at h
     ·cases h
     ·simp only[aD,bj]at h;obtain⟨-,rfl,-⟩:=h;exact Az hy
    ·cases h
   ·split at h
    ·split at h
     ·split at h
      ·split at h
       ·rename_i hy;split at h
        ·cases h
        ·simp only[aD,bj]at h;obtain⟨-,rfl,-⟩:=h;exact Az hy
       ·cases h
      ·simp only[aD,bj]at h;exact h.2.1.symm
     ·cases h
    split at h
    ·cases h
    ·split at h
     ·split at h
      ·simp only[aD,bj]at h;exact h.2.1.symm
      ·cases h
     ·cases h
  subst this;exact cw.refl _ _
 ·rename_i hq;split at h
  ·rename_i he;have hq':nI cx o.op=false:=by simpa using hq
   unfold iD at h;split at h
   ·cases h
   ·split at h
    ·rename_i hy;split at h
     ·cases h
     ·simp only[aD,bj]at h;obtain⟨-,rfl,-⟩:=h;exact alU he hq' hy
    ·cases h
   ·split at h
    ·split at h
     ·split at h
      ·split at h
       ·rename_i hy;split at h
        ·cases h
        ·simp only[aD,bj]at h;obtain⟨-,rfl,-⟩:=h;exact alU he hq' hy
       ·cases h
      ·simp only[aD,bj]at h;rw[<-h.2.1];exact cw.refl _ _
     ·cases h
    split at h
    ·cases h
    ·split at h
     ·split at h
      ·simp only[aD,bj]at h;rw[<-h.2.1];exact cw.refl _ _
      ·cases h
     ·cases h
  ·cases h
structure kH (K:db) where
 vals:Nat->AV K
 hin:Nat->List (Ob K)
 hout:Nat->List (Ob K)
 mask:Nat->Nat
 T:Nat->List Nat
def kH.W(F:kH K)(k h:Nat):Prop:=h∈F.T k\/((F.hin k).length<=h/\h<(F.hout k).length)
structure AD (cx:Cx K) (L:List Oper) (bs:List Nat) (cg:List (AV K)) (F:kH K) (i:Nat) (o:Oper) (dc:List (AV K)) (dP:List Nat):Prop where
 slot:Aj cx L (eE (eO bs i) L 0 dc) (iE (F.mask i) 0 (F.hin i)) dP o=some (F.vals i,F.hout i,true)
 up:pS (F.hin i).length (eE (eO bs i) L 0 dc)=true
 LY:(iE (F.mask i) 0 (F.hin i)).all (Ob.upto (F.hin i).length)=true
 turns:cw (F.T i) (iE (F.mask i) 0 (F.hin i)) (F.hout i)
 len:dc.length=cg.length
 fin:∀(k:Nat) o' d,L[k]?=some o'->o'.dst=some d->k<i->dc[d]?=some (F.vals k)
 rest:∀t,(∀(k:Nat) o,k<i->L[k]?=some o->o.dst≠some t)->dc[t]?=cg[t]?
 dP:∀d∈dP,∃(k:Nat)(o':Oper),k<i/\L[k]?=some o'/\o'.dst=some d
structure gk (cx:Cx K) (L:List Oper) (bs:List Nat) (H0:List (Ob K)) (cg:List (AV K)) (F:kH K) (n:Nat) (tm:List (AV K)) (H:List (Ob K)) (wr:List Nat) (ms:List (Nat×Nat)) (ws:List Nat):Prop where
 len:tm.length=cg.length
 uniq:∀(i j:Nat) o o' d,i<n->j<n->L[i]?=some o->L[j]?=some o'->o.dst=some d->o'.dst=some d->i=j
 inb:∀(i:Nat) o d,i<n->L[i]?=some o->o.dst=some d->d<cg.length
 fin:∀(i:Nat) o d,i<n->L[i]?=some o->o.dst=some d->tm[d]?=some (F.vals i)
 rest:∀t,(∀(k:Nat) o,k<n->L[k]?=some o->o.dst≠some t)->tm[t]?=cg[t]?
 mz:∀d,d∈wr↔∃(k:Nat)(o':Oper),k<n/\L[k]?=some o'/\o'.dst=some d
 slot:∀(i:Nat) o,i<n->L[i]?=some o->∃dc dP,AD cx L bs cg F i o dc dP
 h0:F.hin 0=H0
 hn:F.hin n=H
 hs:∀i,i<n->F.hin (i+1)=kE (F.mask i) 0 (F.hin i) (F.hout i)/\(F.hin i).length<=(F.hout i).length
 Ge:ms.length=n
 Gf:ws.length=n
 ms:∀i,i<n->ms[i]?=some (F.mask i,(F.hin i).length)
 ws:∀i,i<n->∃b,ws[i]?=some b/\∀h,b.testBit h=true↔F.W i h
 masks:∀i,i<n->∀h,(∃k,k<i/\(bs.getD i 0).testBit k=false/\F.W k h)->(F.mask i).testBit h=true
 clear:∀k,k<n->∀h∈F.T k,(F.mask k).testBit h=false/\h<(F.hin k).length
 readers:∀k,k<n->∀i,i<k->(bs.getD k 0).testBit i=false->∀h∈F.T k,h<(F.hin i).length->(F.mask i).testBit h=true
theorem RQ{cx:Cx K}{L:List Oper}{bs:List Nat}:∀(l:List Oper)(i:Nat)(st st':St K)(wr wr':List Nat)(ms:List (Nat×Nat))(ws:List Nat),rn cx L bs l i st wr ms ws=some (st',wr')->st'.ok=true->st.ok=true
 |[],i,st,st',wr,wr',ms,ws,h,hok=>by simp only[rn,aD,bj]at h;rw[h.1];exact hok
 |o::r,i,st,st',wr,wr',ms,ws,h,hok=>by
  simp only[rn]at h;split at h
  ·split at h
   ·cases h
   ·split at h
    ·split at h
     ·rename_i st1 ip hp;obtain⟨p1,p2,-⟩:=rB hp;have q1:=RQ r (i+1) st1 st' ip wr' _ _ h hok;rw[p2]at q1;simp only[bC]at q1;exact q1.2
     ·cases h
    ·cases h
  ·cases h
theorem alV{cx:Cx K}{L:List Oper}{bs:List Nat}{H0:List (Ob K)}{cg:List (AV K)}:∀(l:List Oper)(n:Nat)(st st':St K)(wr wr':List Nat)(ms:List (Nat×Nat))(ws:List Nat)(F:kH K),rn cx L bs l n st wr ms ws=some (st',wr')->st'.ok=true->
 (∀j,l[j]?=L[n+j]?)->n+l.length=L.length->gk cx L bs H0 cg F n st.tm st.H wr ms ws->∃F' ms' ws',gk cx L bs H0 cg F' L.length st'.tm st'.H wr' ms' ws'
 |[],n,st,st',wr,wr',ms,ws,F,h,hok,hl,hn,hp=>by
   simp only[rn,aD,bj]at h;obtain⟨rfl,rfl⟩:=h;simp at hn;subst hn;exact⟨F,ms,ws,hp⟩
 |o::r,n,st,st',wr,wr',ms,ws,F,h,hok,hl,hn,hp=>by
  have hLn:L[n]?=some o:=by have:=hl 0;simpa using this.symm
  simp only[rn]at h;split at h
  ·rename_i hup;simp only[bC]at hup;split at h
   ·cases h
   ·rename_i v H1 c hsv;split at h
    ·rename_i hrd;simp only[bC,bq]at hrd;split at h
     ·rename_i st1 ip hput;obtain⟨p1,p2,p3⟩:=rB hput;have hok1:=RQ r (n+1) st1 st' ip wr' _ _ h hok;rw[p2]at hok1;simp only[bC]at hok1;obtain⟨rfl,-⟩:=hok1;have aD3:=hp.hn
      let mk:=rm bs ws n (eE (eO bs n) L 0 st.tm) st.H.length o.op
      let TT:=pT cx (eE (eO bs n) L 0 st.tm) (iE mk 0 st.H) o.op
      let F':kH K:={vals:=fun i=>if i=n then v else F.vals i,hin:=fun i=>if i=n+1 then kE mk 0 st.H H1 else F.hin i,hout:=fun i=>if i=n then H1 else F.hout i,mask:=fun i=>if i=n then mk else F.mask i,T:=fun i=>if i=n then TT else F.T i}
      have ev:∀i,i<n->F'.vals i=F.vals i:=fun i hi=>by simp[F',show i≠n by omega]
      have eh:∀i,i<=n->F'.hin i=F.hin i:=fun i hi=>by simp[F',show i≠n+1 by omega]
      have eo:∀i,i<n->F'.hout i=F.hout i:=fun i hi=>by simp[F',show i≠n by omega]
      have em:∀i,i<n->F'.mask i=F.mask i:=fun i hi=>by simp[F',show i≠n by omega]
      have eT:∀i,i<n->F'.T i=F.T i:=fun i hi=>by simp[F',show i≠n by omega]
      have nv:F'.vals n=v:=by simp[F']
      have nh:F'.hin n=st.H:=by rw[eh n (bY _)];exact aD3
      have nh1:F'.hin (n+1)=kE mk 0 st.H H1:=by simp[F']
      have no:F'.hout n=H1:=by simp[F']
      have nm:F'.mask n=mk:=by simp[F']
      have nT:F'.T n=TT:=by simp[F']
      have eW:∀i,i<n->∀h,F'.W i h↔F.W i h:=fun i hi h=>by unfold kH.W;rw[eT i hi,eh i (by omega),eo i hi]
      have RE:AD cx L bs cg F' n o st.tm wr:=
       {slot:=by rw[nv,no,nm,nh];exact hsv
        up:=by rw[nh];exact hup.1
        LY:=by rw[nm,nh];exact hup.2
        turns:=by rw[nT,nm,nh,no];exact aD2 hsv
        len:=hp.len
        fin:=fun k o' d h1 h2 h3=>by rw[ev k h3];exact hp.fin k o' d h3 h1 h2
        rest:=fun t ht=>hp.rest t fun k o' hk h1=>ht k o' hk h1
        dP:=fun d hd=>(hp.mz d).1 hd}
      have uA:∀(i:Nat) o1,i<n+1->L[i]?=some o1->∃dc dP,AD cx L bs cg F' i o1 dc dP:=fun i o1 hi ho1=>by
       by_cases hin:i=n
       ·subst hin;rw[hLn]at ho1;simp at ho1;subst ho1;exact⟨_,_,RE⟩
       ·have hlt:i<n:=by omega
        obtain⟨dc,dP,a⟩:=hp.slot i o1 hlt ho1;exact⟨dc,dP,{slot:=by rw[ev i hlt,eo i hlt,em i hlt,eh i (by omega)];exact a.slot,up:=by rw[eh i (by omega)];exact a.up,LY:=by rw[em i hlt,eh i (by omega)];exact a.LY,turns:=by rw[eT i hlt,em i hlt,eh i (by omega),eo i hlt];exact a.turns,len:=a.len,fin:=fun k o' d h1 h2 h3=>by rw[ev k (by omega)];exact a.fin k o' d h1 h2 h3,rest:=a.rest,dP:=a.dP}⟩
      have hmk:∀h,(∃k,k<n/\(bs.getD n 0).testBit k=false/\F'.W k h)->mk.testBit h=true:=fun h=>by
       rintro ⟨k,hk,h2,h3⟩
       rw[show mk=Ak (bs.getD n 0) 0 ws|||aki (eE (eO bs n) L 0 st.tm) st.H.length o.op from rfl,zY,eC];refine .inl ?_;rw[alS];obtain⟨b',g1,g2⟩:=hp.ws k hk;exact⟨k,b',g1,by simpa using h2,(g2 h).2 ((eW k hk h).1 h3)⟩
      have base:gk cx L bs H0 cg F' (n+1) st1.tm st1.H ip (ms++[(mk,st.H.length)]) (ws++[bitsOf (TT++List.range' st.H.length (H1.length-st.H.length))]):=by
       have c1:F'.hin 0=H0:=by rw[eh 0 (by omega)];exact hp.h0
       have c2:F'.hin (n+1)=st1.H:=by rw[nh1,p1]
       have c3:∀i,i<n+1->F'.hin (i+1)=kE (F'.mask i) 0 (F'.hin i) (F'.hout i)/\(F'.hin i).length<=(F'.hout i).length:=fun i hi=>by
        by_cases hin:i=n
        ·subst hin;rw[nh1,nm,nh,no];exact⟨rfl,hrd.2⟩
        ·have hlt:i<n:=by omega
         rw[eh (i+1) (by omega),em i hlt,eh i (by omega),eo i hlt];exact hp.hs i hlt
       have c4:∀i,i<n+1->(ms++[(mk,st.H.length)])[i]?=some (F'.mask i,(F'.hin i).length):=fun i hi=>by
        by_cases hin:i=n
        ·subst hin;rw[nm,nh,d5 (by rw[hp.Ge];exact bY _),hp.Ge];simp
        ·have hlt:i<n:=by omega
         rw[em i hlt,eh i (by omega),dD (by rw[hp.Ge];exact hlt)];exact hp.ms i hlt
       have c5:∀i,i<n+1->∃b,(ws++[bitsOf (TT++List.range' st.H.length (H1.length-st.H.length))])[i]?=some b/\∀h,b.testBit h=true↔F'.W i h:=fun i hi=>by
        by_cases hin:i=n
        ·subst hin;refine⟨bitsOf (TT++List.range' st.H.length (H1.length-st.H.length)),by rw[d5 (by rw[hp.Gf];exact bY _),hp.Gf];simp,fun h=>?_⟩;rw[alR,dx];unfold kH.W;rw[nT,nh,no,List.mem_range'];constructor
         ·rintro (h1|⟨j,h1,h2⟩)
          ·exact .inl h1
          ·exact .inr (by omega)
         ·rintro (h1|⟨h1,h2⟩)
          ·exact .inl h1
          ·exact .inr ⟨h-st.H.length,by omega,by omega⟩
        ·have hlt:i<n:=by omega
         obtain⟨b,g1,g2⟩:=hp.ws i hlt;exact⟨b,by rw[dD (by rw[hp.Gf];exact hlt)];exact g1,fun h=>(g2 h).trans (eW i hlt h).symm⟩
       have c6:∀i,i<n+1->∀h,(∃k,k<i/\(bs.getD i 0).testBit k=false/\F'.W k h)->(F'.mask i).testBit h=true:=fun i hi hh=>by
        by_cases hin:i=n
        ·subst hin;rw[nm];exact hmk hh
        ·have hlt:i<n:=by omega
         rw[em i hlt];exact fun⟨k,h1,h2,h3⟩=>hp.masks i hlt hh ⟨k,h1,h2,(eW k (by omega) hh).1 h3⟩
       have c7:∀k,k<n+1->∀i,i<k->(bs.getD k 0).testBit i=false->∀h∈F'.T k,h<(F'.hin i).length->(F'.mask i).testBit h=true:=fun k hk i hik hA hh hT hlt=>by
        rw[eh i (by omega)]at hlt;rw[em i (by omega)];by_cases hkn:k=n
        ·subst hkn;rw[nT]at hT;exact alT ms 0 hrd.1.1 i _ _ (hp.ms i hik) (by simpa using hA) hh hT hlt
        ·rw[eT k (by omega)]at hT;exact hp.readers k (by omega) i hik hA hh hT hlt
       have c8:∀k,k<n+1->∀h∈F'.T k,(F'.mask k).testBit h=false/\h<(F'.hin k).length:=fun k hk hh hT=>by
        by_cases hkn:k=n
        ·subst hkn;rw[nT]at hT;rw[nm,nh];have:=hrd.1.2;rw[dz]at this;have h2:=this hh hT;rw[bC,eL,bq]at h2;exact h2
        ·rw[eT k (by omega)]at hT;rw[em k (by omega),eh k (by omega)];exact hp.clear k (by omega) hh hT
       rcases p3 with⟨e1,e2,e3⟩|⟨d,e1,e2,e3,e4,e5⟩
       ·refine⟨by rw[e2];exact hp.len,fun i j o1 o2 d hi hj h1 h2 h3 h4=>?_,fun i o1 d hi h1 h2=>?_,fun i o1 d hi h1 h2=>?_,fun t ht=>by rw[e2];exact hp.rest t fun k o' hk=>ht k o' (by omega),fun d=>?_,uA,c1,c2,c3,by simp[hp.Ge],by simp[hp.Gf],c4,c5,c6,c8,c7⟩
        ·have hin:i≠n:=fun e=>by subst e;rw[hLn]at h1;simp at h1;subst h1;rw[e1]at h3;cases h3
         have hjn:j≠n:=fun e=>by subst e;rw[hLn]at h2;simp at h2;subst h2;rw[e1]at h4;cases h4
         exact hp.uniq i j o1 o2 d (by omega) (by omega) h1 h2 h3 h4
        ·have hin:i≠n:=fun e=>by subst e;rw[hLn]at h1;simp at h1;subst h1;rw[e1]at h2;cases h2
         exact hp.inb i o1 d (by omega) h1 h2
        ·have hin:i≠n:=fun e=>by subst e;rw[hLn]at h1;simp at h1;subst h1;rw[e1]at h2;cases h2
         rw[e2,ev i (by omega)];exact hp.fin i o1 d (by omega) h1 h2
        ·rw[e3,hp.mz d];constructor
         ·rintro ⟨k,o',hk,h1,h2⟩;exact⟨k,o',by omega,h1,h2⟩
         ·rintro ⟨k,o',hk,h1,h2⟩
          have hkn:k≠n:=fun e=>by subst e;rw[hLn]at h1;simp at h1;subst h1;rw[e1]at h2;cases h2
          exact⟨k,o',by omega,h1,h2⟩
       ·have hnew:∀(k:Nat) o',k<n->L[k]?=some o'->o'.dst≠some d:=fun k o' hk h1 h2=>e2 ((hp.mz d).2 ⟨k,o',hk,h1,h2⟩)
        have hdn:∀{o1:Oper}{d1:Nat},L[n]?=some o1->o1.dst=some d1->d1=d:=fun{o1 d1} h1 h2=>by rw[hLn]at h1;simp at h1;subst h1;rw[e1]at h2;simpa using h2.symm
        refine⟨by rw[e4];simp[hp.len],fun i j o1 o2 d1 hi hj h1 h2 h3 h4=>?_,fun i o1 d1 hi h1 h2=>?_,fun i o1 d1 hi h1 h2=>?_,fun t ht=>?_,fun d1=>?_,uA,c1,c2,c3,by simp[hp.Ge],by simp[hp.Gf],c4,c5,c6,c8,c7⟩
        ·by_cases hin:i=n<;>by_cases hjn:j=n
         ·omega
         ·subst hin;have:=hdn h1 h3;subst this;exact absurd h4 (hnew j o2 (by omega) h2)
         ·subst hjn;have:=hdn h2 h4;subst this;exact absurd h3 (hnew i o1 (by omega) h1)
         ·exact hp.uniq i j o1 o2 d1 (by omega) (by omega) h1 h2 h3 h4
        ·by_cases hin:i=n
         ·subst hin;have:=hdn h1 h2;subst this;rw[<-hp.len];exact e3
         ·exact hp.inb i o1 d1 (by omega) h1 h2
        ·rw[e4];by_cases hin:i=n
         ·subst hin;have:=hdn h1 h2;subst this;rw[jy,aE rfl,aE e3,nv]
         ·have hne:d1≠d:=fun e=>by subst e;exact hnew i o1 (by omega) h1 h2
          rw[jy,av (nk hne),ev i (by omega)];exact hp.fin i o1 d1 (by omega) h1 h2
        ·have hne:d≠t:=fun e=>by subst e;exact ht n o (by omega) hLn e1
         rw[e4,jy,av hne];exact hp.rest t fun k o' hk=>ht k o' (by omega)
        ·rw[e5,fi,hp.mz d1];constructor
         ·rintro (rfl|⟨k,o',hk,h1,h2⟩)
          ·exact⟨n,o,by omega,hLn,e1⟩
          ·exact⟨k,o',by omega,h1,h2⟩
         ·rintro ⟨k,o',hk,h1,h2⟩
          by_cases hkn:k=n
          ·subst hkn;exact .inl (hdn h1 h2)
          ·exact .inr ⟨k,o',by omega,h1,h2⟩
      exact alV r (n+1) st1 st' ip wr' _ _ F' h hok (fun j=>by have:=hl (j+1);simp only[List.getElem?_cons_succ]at this;rw[this];congr 1;omega) (by simp at hn;omega) base
     ·cases h
    ·cases h
  ·cases h
theorem aD4{cx:Cx K}{L:List Oper}{bs:List Nat}{st st':St K}{wr':List Nat}(h:rn cx L bs L 0 st [] [] []=some (st',wr'))(hok:st'.ok=true):
 ∃F ms ws,gk cx L bs st.H st.tm F L.length st'.tm st'.H wr' ms ws:=
 alV (cg:=st.tm) (H0:=st.H) L 0 st st' [] wr' [] [] {vals:=fun _=>.any,hin:=fun _=>st.H,hout:=fun _=>[],mask:=fun _=>0,T:=fun _=>[]} h hok (fun j=>by simp) (by simp)
  ⟨rfl,fun i j _ _ _ hi=>by omega,fun i _ _ hi=>by omega,fun i _ _ hi=>by omega,fun t _=>rfl,fun d=>by simp,fun i _ hi=>by omega,rfl,rfl,fun i hi=>by omega,rfl,rfl,fun i hi=>by omega,fun i hi=>by omega,fun i hi=>by omega,fun i hi=>by omega,fun i hi=>by omega⟩
end Go.V
namespace Go.V
open Go
variable {K :db}{ρ ρ':List Value}{S S':Nat->Prop}{w w':World}{H H':List (Ob K)}{D:bP K}
section
variable {cx :Cx K}{L:List Oper}{bs:List Nat}{H0:List (Ob K)}{cg eQ:List (AV K)}{F:kH K}{HF:List (Ob K)}{wr:List Nat}{ms:List (Nat×Nat)}{ws:List Nat}
theorem gk.uB(hp:gk cx L bs H0 cg F L.length eQ HF wr ms ws){i:Nat}(hi:i<L.length):(F.hin (i+1)).length=(F.hout i).length:=by
 obtain⟨h1,h2⟩:=hp.hs i hi;rw[h1,LV _ _ _ h2]
theorem gk.mono(hp:gk cx L bs H0 cg F L.length eQ HF wr ms ws):∀{i j:Nat},i<=j->j<=L.length->(F.hin i).length<=(F.hin j).length:=by
 intro i j hij hj
 induction j with
 |zero=>have:i=0:=by omega
        subst this;exact bY _
 |succ j ih=>
  rcases cA i (j+1)with h|h
  ·have h1:=ih (by omega) (by omega);rw[hp.uB (show j<L.length by omega)];exact cD h1 (hp.hs j (by omega)).2
  ·have:i=j+1:=by omega
   subst this;exact bY _
theorem gk.aD5(hp:gk cx L bs H0 cg F L.length eQ HF wr ms ws){i h:Nat}(hi:i<L.length)(hn:¬F.W i h)(hh:h<(F.hin i).length):(F.hin (i+1))[h]?=(F.hin i)[h]?:=by
 obtain⟨h1,h2⟩:=hp.hs i hi;obtain⟨dc,dP,a⟩:=hp.slot i L[i] hi (ct hi);rw[h1,LW _ _ _ _ h2];by_cases hm:h<(F.hin i).length/\(F.mask i).testBit (0+h)=true
 ·rw[aE hm]
 ·rw[av hm];have hm':(F.mask i).testBit h=false:=by
   cases hb:(F.mask i).testBit h with
   |false=>rfl
   |true=>exact absurd ⟨hh,by rw[dI];exact hb⟩ hm
  have:=a.turns.2 h (by rw[F9];exact hh) (fun hT=>hn (.inl hT));rw[this,F8,dI,hm'];cases (F.hin i)[h]?<;>simp
theorem gk.stay(hp:gk cx L bs H0 cg F L.length eQ HF wr ms ws){i h:Nat}:∀{j:Nat},i<=j->j<=L.length->(∀k,i<=k->k<j->¬F.W k h)->h<(F.hin i).length->(F.hin j)[h]?=(F.hin i)[h]?:=by
 intro j hij hj hn hh
 induction j with
 |zero=>have:i=0:=by omega
        subst this;rfl
 |succ j ih=>
  rcases cA i (j+1)with h1|h1
  ·have h2:=ih (by omega) (by omega) fun k a b=>hn k a (by omega)
   rw[hp.aD5 (by omega) (hn j (by omega) (by omega)) (ju hh (hp.mono (by omega) (by omega))),h2]
  ·have:i=j+1:=by omega
   subst this;rfl
theorem gk.maker(hp:gk cx L bs H0 cg F L.length eQ HF wr ms ws){j k h:Nat}(hj:j<L.length)(hk:k<L.length)(h1:(F.hin j).length<=h)(h2:h<(F.hout j).length)(h3:(F.hin k).length<=h)(h4:h<(F.hout k).length):j=k:=by
 rcases Nat.lt_trichotomy j k with h|h|h
 ·have:=hp.mono (show j+1<=k by omega) (by omega);rw[hp.uB hj]at this;omega
 ·exact h
 ·have:=hp.mono (show k+1<=j by omega) (by omega);rw[hp.uB hk]at this;omega
theorem gk.made(hp:gk cx L bs H0 cg F L.length eQ HF wr ms ws){h:Nat}:∀{j:Nat},j<=L.length->h<(F.hin j).length->H0.length<=h->∃k,k<j/\(F.hin k).length<=h/\h<(F.hout k).length:=by
 intro j hj hh h0
 induction j with
 |zero=>rw[hp.h0]at hh;omega
 |succ j ih=>
  rw[hp.uB (show j<L.length by omega)]at hh;rcases cA h (F.hin j).length with h1|h1
  ·obtain⟨k,a,b⟩:=ih (by omega) h1;exact⟨k,by omega,b⟩
  ·exact⟨j,by omega,h1,hh⟩
end
theorem alX{p:Nat->Prop}{n:Nat}(hb:∀k,p k->k<n)(h:∃k,p k):∃k,p k/\∀k',p k'->k'<=k:=by
 induction n with
 |zero=>obtain⟨k,hk⟩:=h;exact absurd (hb k hk) (jQ _)
 |succ n ih=>
  by_cases hn:p n
  ·exact⟨n,hn,fun k' hk'=>by have:=hb k' hk';omega⟩
  ·exact ih fun k hk=>by
    have:=hb k hk;rcases cA k n with h1|h1
    ·exact h1
    ·have:k=n:=by omega
     subst this;exact absurd hk hn
structure jW (cx:Cx K) (L:List Oper) (bs:List Nat) (cg:List (AV K)) (F:kH K) (H0 HF H:List (Ob K)) (ρ:List Value) (S:Nat->Prop) (listed:Array Bool) (a:Act) (w:World):Prop where
 heap:aY cx.D ρ S w H
 hlen:H.length=HF.length
 defers:a.defers=[]
 size:a.tmps.size=cg.length
 nO:listed.size=L.length
 base:∀(t:Nat) v x,(∀(k:Nat) o,L[k]?=some o->o.dst=some t->listed[k]?≠some true)->cg[t]?=some v->a.tmps[t]?=some x->Rep cx.D ρ S w v x
 done:∀(k:Nat) o d x,L[k]?=some o->listed[k]?=some true->o.dst=some d->a.tmps[d]?=some x->eF cx.D ρ S w a.tmps (F.vals k) x
 opts:∀(k g:Nat) b y,listed[k]?=some true->F.vals k=.opt g b y->∃(k':Nat)(o':Oper),L[k']?=some o'/\o'.dst=some g/\listed[k']?=some true
 closed:∀(k:Nat) o,L[k]?=some o->listed[k]?=some true->∀e∈o.after,listed[e.on]?=some true
 RR:∀h,(∀k,listed[k]?=some true->¬F.W k h)->h<HF.length->(h<H0.length->H[h]?=H0[h]?)/\(H0.length<=h->H[h]?=some .dead)
 RU:∀h k,listed[k]?=some true->F.W k h->(∀k',listed[k']?=some true->F.W k' h->k'<=k)->H[h]?=(F.hin (k+1))[h]?
 dum:∀h,H0.length<=h->h<HF.length->(∀k,listed[k]?=some true->¬((F.hin k).length<=h/\h<(F.hout k).length))->ρ[h]?=some dummy
section
variable {cx :Cx K}{L:List Oper}{bs:List Nat}{H0:List (Ob K)}{cg eQ:List (AV K)}{F:kH K}{HF:List (Ob K)}{wr:List Nat}{ms:List (Nat×Nat)}{ws:List Nat}{listed:Array Bool}{a:Act}
theorem jW.sees(hp:gk cx L bs H0 cg F L.length eQ HF wr ms ws)(hm:jW cx L bs cg F H0 HF H ρ S listed a w){j:Nat}(hj:j<L.length)(gK:listed[j]?=some false)
 (hA:∀k,(bs.getD j 0).testBit k=true->listed[k]?=some true) (hcl:∀i k,listed[i]?=some true->(bs.getD i 0).testBit k=true->listed[k]?=some true) {h:Nat} (hh:h<(F.hin j).length) (hun:(F.mask j).testBit h=false):H[h]?=(F.hin j)[h]?:=by
 have hlt:∀k,listed[k]?=some true->k<L.length:=fun k hk=>by have:=(jd.1 hk).1;rw[hm.nO]at this;exact this
 have hne:∀k,listed[k]?=some true->k≠j:=fun k hk e=>by subst e;rw[gK]at hk;cases hk
 have hbef:∀k,k<j->F.W k h->listed[k]?=some true:=fun k hk hw=>by
  cases hb:(bs.getD j 0).testBit k with
  |true=>exact hA k hb
  |false=>have:=hp.masks j hj h ⟨k,hk,hb,hw⟩;rw[hun]at this;cases this
 have haft:∀k,listed[k]?=some true->F.W k h->k<j:=fun k hk hw=>by
  rcases Nat.lt_trichotomy k j with h1|h1|h1
  ·exact h1
  ·exact absurd h1 (hne k hk)
  ·have mB:=hlt k hk;have hlen:=hp.mono (show j<=k by omega) (by omega);rcases hw with hT|⟨h2,-⟩
   ·cases hb:(bs.getD k 0).testBit j with
    |true=>have:=hcl k j hk hb;rw[gK]at this;cases this
    |false=>have:=hp.readers k mB j h1 hb h hT hh;rw[hun]at this;cases this
   ·omega
 by_cases hex:∃k,listed[k]?=some true/\F.W k h
 ·obtain⟨k,⟨hk1,hk2⟩,hk3⟩:=alX (p:=fun k=>listed[k]?=some true/\F.W k h) (n:=L.length) (fun k hk=>hlt k hk.1) hex;rw[hm.RU h k hk1 hk2 fun k' a b=>hk3 k' ⟨a,b⟩];have hkj:=haft k hk1 hk2;have hno:∀k',k+1<=k'->k'<j->¬F.W k' h:=fun k' h1 h2 hw=>by have:=hk3 k' ⟨hbef k' h2 hw,hw⟩;omega
  by_cases hl:h<(F.hin (k+1)).length
  ·exact(hp.stay (show k+1<=j by omega) (by omega) hno hl).symm
  ·
   exfalso;have:H0.length<=h:=by have:=hp.mono (show 0<=k+1 by omega) (show k+1<=L.length by omega);rw[hp.h0]at this;omega
   obtain⟨k',g1,g2,g3⟩:=hp.made (show j<=L.length by omega) hh this;by_cases hkk:k+1<=k'
   ·exact hno k' hkk g1 (.inr ⟨g2,g3⟩)
   ·have:=hp.mono (show k'+1<=k+1 by omega) (show k+1<=L.length by omega);rw[hp.uB (show k'<L.length by omega)]at this;omega
 ·have hno:∀k,listed[k]?=some true->¬F.W k h:=fun k a b=>hex ⟨k,a,b⟩
  have xK:∀k,0<=k->k<j->¬F.W k h:=fun k _ hk hw=>hno k (hbef k hk hw) hw
  have hHF:h<HF.length:=by have:=hp.mono (show j<=L.length by omega) (bY _);rw[hp.hn]at this;omega
  obtain⟨g1,g2⟩:=hm.RR h hno hHF;by_cases h0:h<H0.length
  ·rw[g1 h0,hp.stay (abo j) (by omega) xK (by rw[hp.h0];exact h0),hp.h0]
  ·obtain⟨k',a1,a2,a3⟩:=hp.made (show j<=L.length by omega) hh (by omega);exact absurd (.inr ⟨a2,a3⟩) (xK k' (abo _) a1)
end
end Go.V
namespace Go.V
open Go
variable {K :db}{ρ ρ':List Value}{S S':Nat->Prop}{w w':World}{H H':List (Ob K)}{D:bP K}
theorem eF.take(hD:bW D){n:Nat}{tmps:Array Value}{v:AV K}{x:Value}(h:eF D ρ S w tmps v x)(hu:v.upto n=true):eF D (ρ.take n) S w tmps v x:=by
 cases v with
 |opt g b v=>
  simp only[eF]at h⊢;rcases h with⟨h1,h2⟩|h
  ·exact .inl ⟨h1,h2.take hD (by simpa [AV.upto]using hu)⟩
  ·exact .inr h
 |_=>exact Rep.take hD h hu
theorem eF.mono'{tmps:Array Value}(hS:∀b,S b->S' b)(hw:∀b,S b->w'.heap[b]?=w.heap[b]?)(hρ:∀(h:Nat) r,ρ[h]?=some r->r≠dummy->ρ'[h]?=some r){v:AV K}{x:Value}(h:eF D ρ S w tmps v x):eF D ρ' S' w' tmps v x:=by
 cases v with
 |opt g b v=>
  simp only[eF]at h⊢;rcases h with⟨h1,h2⟩|h
  ·exact .inl ⟨h1,h2.mono' hS hw hρ⟩
  ·exact .inr h
 |_=>exact Rep.mono' hS hw hρ h
section
variable {cx :Cx K}{L:List Oper}{bs:List Nat}{H0:List (Ob K)}{cg eQ:List (AV K)}{F:kH K}{HF:List (Ob K)}{wr:List Nat}{ms:List (Nat×Nat)}{ws:List Nat}{listed:Array Bool}{a:Act}
theorem jW.slots(hD:bW cx.D)(hbs:bs=ik L [])(he:jU L 0=true)(hp:gk cx L bs H0 cg F L.length eQ HF wr ms ws)(hm:jW cx L bs cg F H0 HF H ρ S listed a w){j:Nat}{o:Oper}(ho:L[j]?=some o)(gK:listed[j]?=some false)(lE:∀e∈o.after,listed[e.on]?=some true){dc:List (AV K)}{dP:List Nat}
 (fs:AD cx L bs cg F j o dc dP):eP cx.D (ρ.take (F.hin j).length) S w (eE (eO bs j) L 0 dc) a.tmps/\
   ∀(t:Nat) v,(eE (eO bs j) L 0 dc)[t]?=some v->v≠.any->(∀(k:Nat) o',k<j->L[k]?=some o'->o'.dst≠some t)\/∃(k:Nat)(o':Oper),L[k]?=some o'/\o'.dst=some t/\listed[k]?=some true:=by
 have key:∀(t:Nat) v,(eE (eO bs j) L 0 dc)[t]?=some v->v≠.any->(((∀(k:Nat) o',k<j->L[k]?=some o'->o'.dst≠some t)/\(∀(k:Nat) o,L[k]?=some o->o.dst=some t->listed[k]?≠some true))/\cg[t]?=some v)\/∃(k:Nat)(o':Oper),L[k]?=some o'/\o'.dst=some t/\listed[k]?=some true/\v=F.vals k:=fun t v hv hne=>by
  obtain⟨g1,g2⟩:=Ry L 0 dc t v hv hne;rcases AB L t with hn|⟨k,o',hk,hkd⟩
  ·exact .inl ⟨⟨fun k o' _ h=>hn k o' h,fun k o' h h'=>absurd h' (hn k o' h)⟩,by rw[<-fs.rest t fun k o' _ h=>hn k o' h];exact g1⟩
  ·have hb:=g2 k o' hk hkd;rw[dI,hbs]at hb;rcases aly hb with hb|hb
   ·obtain⟨c1,c2⟩:=uz he (T:=fun i=>listed[i]?=some true) (fun i o hi nP=>hm.closed i o hi nP) j o ho lE k hb;have:=fs.fin k o' t hk hkd c2;rw[g1]at this;exact .inr ⟨k,o',hk,hkd,c1,by simpa using this⟩
   ·have c0:=(uz he (T:=fun _=>True) (fun _ _ _ _ _ _=>trivial) k o' hk (fun _ _=>trivial) j hb).2;have hun:listed[k]?≠some true:=fun hlk=>by
     have:=(uz he (T:=fun i=>listed[i]?=some true) (fun i o hi nP=>hm.closed i o hi nP) k o' hk (hm.closed k o' hk hlk) j hb).1;rw[gK]at this;cases this
    have F6:∀(k':Nat) o1,L[k']?=some o1->o1.dst=some t->k'=k:=fun k' o1 h1 h2=>hp.uniq k' k o1 o' t (cz.1 h1).1 (cz.1 hk).1 h1 hk h2 hkd
    have hlt:∀(k':Nat) o1,k'<j->L[k']?=some o1->o1.dst≠some t:=fun k' o1 hk' h1 h2=>by have:=F6 k' o1 h1 h2;omega
    exact .inl ⟨⟨hlt,fun k' o1 h1 h2=>by rw[F6 k' o1 h1 h2];exact hun⟩,by rw[<-fs.rest t hlt];exact g1⟩
 refine⟨⟨by rw[Rz,fs.len,hm.size],fun t v x hv hx=>?_⟩,fun t v hv hne=>?_⟩
 ·by_cases hne:v=.any
  ·subst hne;exact .jV (.any x)
  ·have hu:=xJ fs.up hv;rcases key t v hv hne with⟨⟨-,hn⟩,g⟩|⟨k,o',hk,hkd,hlk,rfl⟩
   ·exact(eF.jV (hm.base t v x hn g hx)).take hD hu
   ·exact(hm.done k o' t x hk hlk hkd hx).take hD hu
 ·rcases key t v hv hne with⟨⟨hn,-⟩,-⟩|⟨k,o',hk,hkd,hlk,-⟩
  ·exact .inl hn
  ·exact .inr ⟨k,o',hk,hkd,hlk⟩
theorem jW.view(hp:gk cx L bs H0 cg F L.length eQ HF wr ms ws)(hm:jW cx L bs cg F H0 HF H ρ S listed a w){j:Nat}{o:Oper}(hj:j<L.length)(gK:listed[j]?=some false)
 (hA:∀k,(bs.getD j 0).testBit k=true->listed[k]?=some true) (hcl:∀i k,listed[i]?=some true->(bs.getD i 0).testBit k=true->listed[k]?=some true) {dc:List (AV K)} {dP:List Nat} (fs:AD cx L bs cg F j o dc dP):
 View (F.hin j).length H (iE (F.mask j) 0 (F.hin j)):={
 len:=F9 _ _
 le:=by rw[hm.hlen];have:=hp.mono (show j<=L.length by omega) (bY _);rw[hp.hn]at this;exact this
 ob:=fun h o ho=>by
  rw[F8,dI]at ho;cases hb:(F.mask j).testBit h with
  |true=>
   rw[hb]at ho;cases hx:(F.hin j)[h]? with
   |none=>rw[hx]at ho;cases ho
   |some y=>rw[hx]at ho;simp at ho;exact .inl ho.symm
  |false=>
   rw[hb]at ho;cases hx:(F.hin j)[h]? with
   |none=>rw[hx]at ho;cases ho
   |some y=>
    rw[hx]at ho;simp at ho;subst ho;exact .inr (by rw[hm.sees hp hj gK hA hcl (cz.1 hx).1 hb];exact hx)
 up:=fun h o ho=>by
  have:=fs.LY;rw[dz]at this;exact this o (gG ho)}
def after(F:kH K)(j:Nat)(H:List (Ob K)):List (Ob K):=kE (F.mask j) 0 (H.take (F.hin j).length) (F.hout j)++H.drop (F.hout j).length
theorem aD7{j:Nat}(h1:(F.hin j).length<=(F.hout j).length)(h2:(F.hout j).length<=H.length)(h:Nat):
 (after F j H)[h]?=if h<(F.hout j).length then(if h<(F.hin j).length/\(F.mask j).testBit h=true then H[h]? else(F.hout j)[h]?)else H[h]?:=by
 have hl:(H.take (F.hin j).length).length=(F.hin j).length:=by rw[ib];omega
 have hml:(kE (F.mask j) 0 (H.take (F.hin j).length) (F.hout j)).length=(F.hout j).length:=LV _ _ _ (by omega);unfold after;by_cases hh:h<(F.hout j).length
 ·rw[dD (by omega),aE hh,LW _ _ _ _ (by omega),hl,dI];by_cases hc:h<(F.hin j).length/\(F.mask j).testBit h=true
  ·rw[aE hc,aE hc,eI,aE hc.1]
  ·rw[av hc,av hc]
 ·rw[d5 (by omega),av hh,hml,iK];congr 1;omega
theorem after_length{j:Nat}(h1:(F.hin j).length<=(F.hout j).length)(h2:(F.hout j).length<=H.length):(after F j H).length=H.length:=by
 have hl:(H.take (F.hin j).length).length=(F.hin j).length:=by rw[ib];omega
 unfold after;rw[bA,LV _ _ _ (by omega),List.length_drop];omega
end
end Go.V
namespace Go.V
open Go
variable {K :db}{ρ ρ':List Value}{S S':Nat->Prop}{w w':World}{H H':List (Ob K)}{D:bP K}
section
variable {cx :Cx K}{L:List Oper}{bs:List Nat}{H0:List (Ob K)}{cg eQ:List (AV K)}{F:kH K}{HF:List (Ob K)}{wr:List Nat}{ms:List (Nat×Nat)}{ws:List Nat}{listed:Array Bool}{a:Act}
theorem jW.put(hD:bW cx.D)(hp:gk cx L bs H0 cg F L.length eQ HF wr ms ws)(hm:jW cx L bs cg F H0 HF H ρ S listed a w){j:Nat}{o:Oper}(ho:L[j]?=some o)(gK:listed[j]?=some false)(lE:∀e∈o.after,listed[e.on]?=some true)
 (hA:∀k,(bs.getD j 0).testBit k=true->listed[k]?=some true) (hcl:∀i k,listed[i]?=some true->(bs.getD i 0).testBit k=true->listed[k]?=some true) {dc:List (AV K)} {dP:List Nat} (fs:AD cx L bs cg F j o dc dP)
 {ρ1:List Value} {S1:Nat->Prop} {w1:World} {u:Value} (hs1:aY cx.D ρ1 S1 w1 (F.hout j)) (hst:Step cx.D (F.hin j).length (ρ.take (F.hin j).length) S (iE (F.mask j) 0 (F.hin j)) w ρ1 S1 (F.hout j) w1) (hv:eF cx.D ρ1 S1 w1 a.tmps (F.vals j) u)
 (l6:∀g b y,F.vals j=.opt g b y->∃(k':Nat)(o':Oper),L[k']?=some o'/\o'.dst=some g/\listed[k']?=some true) {n0:Nat} (hn0:n0<=H0.length):
 jW cx L bs cg F H0 HF (after F j H) (ρ1++ρ.drop (F.hout j).length) S1 (listed.setIfInBounds j true) (a.put o.dst u) w1/\Step cx.D n0 ρ S H w (ρ1++ρ.drop (F.hout j).length) S1 (after F j H) w1:=by
 have hj:j<L.length:=(cz.1 ho).1;have hjs:j<listed.size:=(jd.1 gK).1;have hnm:=(hp.hs j hj).2;have hmN:(F.hout j).length<=H.length:=by
  have:=hp.mono (show j+1<=L.length by omega) (bY _);rw[hp.uB hj,hp.hn]at this;rw[hm.hlen];exact this
 have h0n:H0.length<=(F.hin j).length:=by have:=hp.mono (abo j) (by omega);rw[hp.h0]at this;exact this
 have hlt:∀k,listed[k]?=some true->k<L.length:=fun k hk=>by have:=(jd.1 hk).1;rw[hm.nO]at this;exact this
 have hne:∀k,listed[k]?=some true->k≠j:=fun k hk e=>by subst e;rw[gK]at hk;cases hk
 have view:=hm.view hp hj gK hA hcl fs;have hd:∀h,(F.hin j).length<=h->h<(F.hout j).length->ρ[h]?=some dummy:=fun h h1 h2=>
  hm.dum h (by omega) (by rw[<-hm.hlen];omega) fun k hk ⟨h3,h4⟩=>hne k hk (hp.maker hj (hlt k hk) h1 h2 h3 h4).symm
 have ag:=aD7 (F:=F) (H:=H) hnm hmN;have joined:Joined (F.hin j).length (F.hout j).length H (iE (F.mask j) 0 (F.hin j)) (F.hout j) (after F j H):=⟨hnm,rfl,after_length hnm hmN,hmN,fun h o1 h1=>by
  rw[ag]at h1;by_cases hh:h<(F.hout j).length
  ·rw[aE hh]at h1;by_cases hc:h<(F.hin j).length/\(F.mask j).testBit h=true
   ·rw[aE hc]at h1;refine .inr ⟨h1,.inl ⟨hc.1,?_⟩⟩;rw[F8,dI,hc.2,ct hc.1];rfl
   ·rw[av hc]at h1;exact .inl ⟨hh,h1⟩
  ·rw[av hh]at h1;exact .inr ⟨h1,.inr (by omega)⟩⟩
 obtain⟨hsF,stF,hmono⟩:=hm.heap.join (n0:=n0) view hs1 hst joined hd (by omega);have hl1:ρ1.length=(F.hout j).length:=hs1.len;have hρ:=alK (n:=0) (ρ:=ρ) (ρ1:=ρ1) hl1 (by rw[hm.heap.len];exact hmN);have hread:∀b,S b->w1.heap[b]?=w.heap[b]?:=fun b hb=>hst.old b (hm.heap.slt b hb) fun h=>(hm.heap.lt b (view.own h)).2 hb
 have hrep:∀{v:AV K}{x:Value},Rep cx.D ρ S w v x->Rep cx.D (ρ1++ρ.drop (F.hout j).length) S1 w1 v x:=fun h=>h.mono' hst.s1 hread hmono
 have uA:∀{v:AV K}{x:Value}{tmps:Array Value},eF cx.D ρ S w tmps v x->eF cx.D (ρ1++ρ.drop (F.hout j).length) S1 w1 tmps v x:=fun h=>h.mono' hst.s1 hread hmono
 have hvF:eF cx.D (ρ1++ρ.drop (F.hout j).length) S1 w1 a.tmps (F.vals j) u:=hv.mono' (fun _ h=>h) (fun _ _=>rfl) fun h r hr _=>by
  have:h<(F.hout j).length:=by have:=(cz.1 hr).1;omega
  rw[hρ,aE this];exact hr
 have hget:∀(k:Nat),(listed.setIfInBounds j true)[k]?=some true↔(k=j\/listed[k]?=some true):=fun k=>by
  rw[pN];by_cases hk:j=k
  ·subst hk;simp[hjs]
  ·rw[av hk];simp[nk hk]
 have hclosed:∀(k:Nat) o1,L[k]?=some o1->(listed.setIfInBounds j true)[k]?=some true->∀e∈o1.after,(listed.setIfInBounds j true)[e.on]?=some true:=fun k o1 hk hlk e he=>by
  rw[hget]at hlk⊢;rcases hlk with rfl|hlk
  ·rw[ho]at hk;simp at hk;subst hk;exact .inr (lE e he)
  ·exact .inr (hm.closed k o1 hk hlk e he)
 have F7:∀(k g:Nat) b y,(listed.setIfInBounds j true)[k]?=some true->F.vals k=.opt g b y->∃(k':Nat)(o':Oper),L[k']?=some o'/\o'.dst=some g/\(listed.setIfInBounds j true)[k']?=some true:=fun k g b y hlk hvk=>by
  rw[hget]at hlk;rcases hlk with rfl|hlk
  ·obtain⟨k',o',h1,h2,h3⟩:=l6 g b y hvk;exact⟨k',o',h1,h2,(hget k').2 (.inr h3)⟩
  ·obtain⟨k',o',h1,h2,h3⟩:=hm.opts k g b y hlk hvk;exact⟨k',o',h1,h2,(hget k').2 (.inr h3)⟩
 have hsame:∀h,¬F.W j h->(after F j H)[h]?=H[h]?:=fun h hn=>by
  rw[ag];by_cases hh:h<(F.hout j).length
  ·rw[aE hh];by_cases hc:h<(F.hin j).length/\(F.mask j).testBit h=true
   ·rw[aE hc]
   ·rw[av hc];have hln:h<(F.hin j).length:=by
     rcases cA h (F.hin j).length with h1|h1
     ·exact h1
     ·exact absurd (.inr ⟨h1,hh⟩) hn
    have hun:(F.mask j).testBit h=false:=by
     cases hb:(F.mask j).testBit h with
     |false=>rfl
     |true=>exact absurd ⟨hln,hb⟩ hc
    rw[fs.turns.2 h (by rw[F9];exact hln) (fun hT=>hn (.inl hT)),F8,dI,hun,hm.sees hp hj gK hA hcl hln hun];cases (F.hin j)[h]?<;>simp
  ·rw[av hh]
 have hnew:∀h,F.W j h->(after F j H)[h]?=(F.hin (j+1))[h]?:=fun h hw=>by
  have hc:¬(h<(F.hin j).length/\(F.mask j).testBit h=true):=fun⟨h1,h2⟩=>by
   rcases hw with hT|hT
   ·have:=(hp.clear j hj h hT).1;rw[h2]at this;cases this
   ·omega
  have hh:h<(F.hout j).length:=by
   rcases hw with hT|hT
   ·have:=(hp.clear j hj h hT).2;omega
   ·exact hT.2
  rw[ag,aE hh,av hc,(hp.hs j hj).1,LW _ _ _ _ hnm,dI,av hc]
 have c0:∀h,(∀k,(listed.setIfInBounds j true)[k]?=some true->¬F.W k h)->h<HF.length->(h<H0.length->(after F j H)[h]?=H0[h]?)/\(H0.length<=h->(after F j H)[h]?=some .dead):=fun h hno hh=>by
  rw[hsame h (hno j ((hget j).2 (.inl rfl)))];exact hm.RR h (fun k hk=>hno k ((hget k).2 (.inr hk))) hh
 have ck:∀h k,(listed.setIfInBounds j true)[k]?=some true->F.W k h->(∀k',(listed.setIfInBounds j true)[k']?=some true->F.W k' h->k'<=k)->(after F j H)[h]?=(F.hin (k+1))[h]?:=fun h k hk hw hmax=>by
  by_cases hkj:k=j
  ·subst hkj;exact hnew h hw
  ·have hk':listed[k]?=some true:=((hget k).1 hk).resolve_left hkj;have xK:¬F.W j h:=fun RV=>by
    have hjk:j<k:=by have:=hmax j ((hget j).2 (.inl rfl)) RV;omega
    have mB:=hlt k hk';have hlen:=hp.mono (show j+1<=k by omega) (by omega);rw[hp.uB hj]at hlen;have hb:(bs.getD k 0).testBit j=false:=by
     cases hb:(bs.getD k 0).testBit j with
     |false=>rfl
     |true=>have:=hcl k j hk' hb;rw[gK]at this;cases this
    have hmk:=hp.masks k mB h ⟨j,hjk,hb,RV⟩;rcases hw with hT|hT
    ·have:=(hp.clear k mB h hT).1;rw[hmk]at this;cases this
    ·have:h<(F.hout j).length:=by
      rcases RV with h1|h1
      ·have:=(hp.clear j hj h h1).2;omega
      ·exact h1.2
     omega
   rw[hsame h xK];exact hm.RU h k hk' hw fun k' a b=>hmax k' ((hget k').2 (.inr a)) b
 have cd:∀h,H0.length<=h->h<HF.length->(∀k,(listed.setIfInBounds j true)[k]?=some true->¬((F.hin k).length<=h/\h<(F.hout k).length))->(ρ1++ρ.drop (F.hout j).length)[h]?=some dummy:=fun h h1 h2 hno=>by
  have h3:=hm.dum h h1 h2 fun k hk=>hno k ((hget k).2 (.inr hk))
  have h4:=hno j ((hget j).2 (.inl rfl));rw[hρ];by_cases hh:h<(F.hout j).length
  ·have hl:h<(F.hin j).length:=by
    rcases cA h (F.hin j).length with h5|h5
    ·exact h5
    ·exact absurd ⟨h5,hh⟩ h4
   rw[aE hh,hst.pre h hl,eI,aE hl];exact h3
  ·rw[av hh];exact h3
 have hlen2:(after F j H).length=HF.length:=by rw[after_length hnm hmN,hm.hlen]
 refine⟨?_,stF⟩;cases hdst:o.dst with
 |none=>
  refine⟨hsF,hlen2,hm.defers,hm.size,by simp[hm.nO],fun t v x h1 h2 h3=>hrep (hm.base t v x (fun k o1 hk hd1 hl=>h1 k o1 hk hd1 ((hget k).2 (.inr hl))) h2 h3),fun k o1 d x hk hlk hd1 hx=>?_,F7,hclosed,c0,ck,cd⟩;rw[hget]at hlk;rcases hlk with rfl|hlk
  ·rw[ho]at hk;simp at hk;subst hk;rw[hdst]at hd1;cases hd1
  ·exact uA (hm.done k o1 d x hk hlk hd1 hx)
 |some d=>
  have RX:∀{k:Nat}{o1:Oper},L[k]?=some o1->listed[k]?=some true->o1.dst≠some d:=fun{k o1} hk hlk hd1=>by
   have:=hp.uniq k j o1 o d (hlt k hlk) hj hk ho hd1 hdst;exact hne k hlk this
  refine⟨hsF,hlen2,hm.defers,by simp[Act.put,hm.size],by simp[hm.nO],fun t v x h1 h2 h3=>?_,fun k o1 d1 x hk hlk hd1 hx=>?_,F7,hclosed,c0,ck,cd⟩
  ·have:d≠t:=fun e=>by subst e;exact h1 j o ho hdst ((hget j).2 (.inl rfl))
   simp only[Act.put,pN,av this]at h3;exact hrep (hm.base t v x (fun k o1 hk hd1 hl=>h1 k o1 hk hd1 ((hget k).2 (.inr hl))) h2 h3)
  ·rw[hget]at hlk;simp only[Act.put]at hx⊢;rw[pN]at hx;rcases hlk with rfl|hlk
   ·rw[ho]at hk;simp at hk;subst hk;rw[hdst]at hd1;simp at hd1;subst hd1;rw[aE rfl]at hx;split at hx
    ·simp at hx;subst hx;refine hvF.put fun g b y e he=>?_
     obtain⟨k',o',h1,h2,h3⟩:=l6 g b y e;subst he;exact RX h1 h3 h2
    ·cases hx
   ·have hdd:d≠d1:=fun e=>by subst e;exact RX hk hlk hd1
    rw[av hdd]at hx;refine(uA (hm.done k o1 d1 x hk hlk hd1 hx)).put fun g b y e he=>?_
    obtain⟨k',o',h1,h2,h3⟩:=hm.opts k g b y hlk e;subst he;exact RX h1 h3 h2
end
end Go.V
namespace Go.V
open Go
variable {K :db}{ρ ρ':List Value}{S S':Nat->Prop}{w w':World}{H H':List (Ob K)}{D:bP K}
def nQ(H0:List (Ob K))(n:Nat):List (Ob K):=H0++List.replicate (n-H0.length) .dead
def mC(ρ:List Value)(n:Nat):List Value:=ρ++List.replicate (n-ρ.length) dummy
theorem al0{H0:List (Ob K)}{n:Nat}(h:H0.length<=n):(nQ H0 n).length=n:=by simp[nQ];omega
theorem al1{n h:Nat}{r:Value}(hr:ρ[h]?=some r):(mC ρ n)[h]?=some r:=by
 unfold mC;rw[dD (cz.1 hr).1];exact hr
theorem al2{H0:List (Ob K)}{n h:Nat}{o:Ob K}(ho:(nQ H0 n)[h]?=some o):H0[h]?=some o\/(H0.length<=h/\o=.dead):=by
 unfold nQ at ho;rcases cA h H0.length with h1|h1
 ·rw[dD h1]at ho;exact .inl ho
 ·rw[d5 h1,mo]at ho;split at ho
  ·simp at ho;exact .inr ⟨h1,ho.symm⟩
  ·cases ho
theorem LZ{H0:List (Ob K)}{n h:Nat}{o:Ob K}{r:Value}(hl:ρ.length=H0.length)(ho:(nQ H0 n)[h]?=some o)(hlv:o.live=true)(hr:(mC ρ n)[h]?=some r):H0[h]?=some o/\ρ[h]?=some r:=by
 rcases al2 ho with h1|⟨-,rfl⟩
 ·have:h<ρ.length:=by rw[hl];exact(cz.1 h1).1
  unfold mC at hr;rw[dD this]at hr;exact⟨h1,hr⟩
 ·cases hlv
theorem aY.pad{H0:List (Ob K)}(hs:aY D ρ S w H0){n:Nat}(hn:H0.length<=n):aY D (mC ρ n) S w (nQ H0 n):=by
 have own:∀b,Own D w (mC ρ n) (nQ H0 n) b->Own D w ρ H0 b:=fun b ⟨h,o,r,h1,h2,h3,h4⟩=>by
  obtain⟨g1,g2⟩:=LZ hs.len h1 h2 h3;exact⟨h,o,r,g1,h2,g2,h4⟩
 refine⟨by rw[al0 hn];simp[mC];have:=hs.len;omega,fun h o r h1 h2=>?_,fun h h' o o' r r' b h1 h2 h3 h4 h5 h6 h7 h8=>?_,fun b hb=>hs.lt b (own b hb),hs.slt,hs.base⟩
 ·rcases al2 h1 with h3|⟨-,rfl⟩
  ·have:h<ρ.length:=by rw[hs.len];exact(cz.1 h3).1
   have h4:ρ[h]?=some r:=by unfold mC at h2;rwa [dD this]at h2
   refine(hs.ob h o r h3 h4).mono' (fun _ h=>h) (fun _ _=>rfl) (fun h' r' hr' _=>al1 hr') fun _ _ _=>rfl
  ·trivial
 ·obtain⟨g1,g2⟩:=LZ hs.len h1 h2 h3;obtain⟨k1,k2⟩:=LZ hs.len h5 h6 h7;exact hs.eX h h' o o' r r' b g1 h2 g2 h4 k1 h6 k2 h8
theorem Step.pad{H0:List (Ob K)}(hs:aY D ρ S w H0){n n0:Nat}(hn:n0<=H0.length):Step D n0 ρ S H0 w (mC ρ n) S (nQ H0 n) w:=
 ⟨rfl,rfl,rfl,bY _,fun _ _ _=>rfl,fun b ⟨h,o,r,h1,h2,h3,h4⟩=>by
   obtain⟨g1,g2⟩:=LZ hs.len h1 h2 h3;exact .inl ⟨h,o,r,g1,h2,g2,h4⟩,fun _ h=>h,fun _ h=>.inl h,fun h hh=>by
   have:h<ρ.length:=by rw[hs.len];omega
   unfold mC;rw[dD this]⟩
section
variable {cx :Cx K}{L:List Oper}{bs:List Nat}{H0:List (Ob K)}{cg eQ:List (AV K)}{F:kH K}{HF:List (Ob K)}{wr:List Nat}{ms:List (Nat×Nat)}{ws:List Nat}{listed:Array Bool}{a:Act}
theorem gk.len0(hp:gk cx L bs H0 cg F L.length eQ HF wr ms ws):H0.length<=HF.length:=by
 have:=hp.mono (abo L.length) (bY _);rw[hp.h0,hp.hn]at this;exact this
theorem jW.final(hp:gk cx L bs H0 cg F L.length eQ HF wr ms ws)(hm:jW cx L bs cg F H0 HF H ρ S listed a w)(hall:∀i,i<L.length->listed[i]?=some true):H=HF:=by
 have hlt:∀k,listed[k]?=some true->k<L.length:=fun k hk=>by have:=(jd.1 hk).1;rw[hm.nO]at this;exact this
 apply qg;intro h;rcases cA h HF.length with hh|hh
 ·have hhF:h<(F.hin L.length).length:=by rw[hp.hn];exact hh
  by_cases hex:∃k,listed[k]?=some true/\F.W k h
  ·obtain⟨k,⟨hk1,hk2⟩,hk3⟩:=alX (p:=fun k=>listed[k]?=some true/\F.W k h) (n:=L.length) (fun k hk=>hlt k hk.1) hex;rw[hm.RU h k hk1 hk2 fun k' a b=>hk3 k' ⟨a,b⟩];have mB:=hlt k hk1;have hno:∀k',k+1<=k'->k'<L.length->¬F.W k' h:=fun k' h1 h2 hw=>by have:=hk3 k' ⟨hall k' h2,hw⟩;omega
   by_cases hl:h<(F.hin (k+1)).length
   ·rw[<-hp.stay (show k+1<=L.length by omega) (bY _) hno hl,hp.hn]
   ·exfalso;have:H0.length<=h:=by have:=hp.mono (show 0<=k+1 by omega) (show k+1<=L.length by omega);rw[hp.h0]at this;omega
    obtain⟨k',g1,g2,g3⟩:=hp.made (bY _) hhF this;by_cases hkk:k+1<=k'
    ·exact hno k' hkk g1 (.inr ⟨g2,g3⟩)
    ·have:=hp.mono (show k'+1<=k+1 by omega) (show k+1<=L.length by omega);rw[hp.uB g1]at this;omega
  ·have hno:∀k,listed[k]?=some true->¬F.W k h:=fun k a b=>hex ⟨k,a,b⟩
   have xK:∀k,0<=k->k<L.length->¬F.W k h:=fun k _ hk hw=>hno k (hall k hk) hw
   obtain⟨g1,g2⟩:=hm.RR h hno hh;by_cases h0:h<H0.length
   ·rw[g1 h0,<-hp.hn,hp.stay (abo _) (bY _) xK (by rw[hp.h0];exact h0),hp.h0]
   ·obtain⟨k',a1,a2,a3⟩:=hp.made (bY _) hhF (by omega);exact absurd (.inr ⟨a2,a3⟩) (xK k' (abo _) a1)
 ·rw[m9 (by rw[hm.hlen];exact hh),m9 hh]
theorem aEa(hD:bW cx.D)(hc:aJ cx)(he:jU L 0=true)(hp:gk cx L (ik L []) H0 cg F L.length eQ HF wr ms ws){n0:Nat}(hn:n0<=H0.length){Q:Exit->Act->World->Prop}:
 ∀(fuel:Nat)(listed:Array Bool)(H:List (Ob K))(ρ:List Value)(S:Nat->Prop)(a:Act)(w:World),jW cx L (ik L []) cg F H0 HF H ρ S listed a w->todo listed<=fuel->
 (∀ρ' S' a' w',aY cx.D ρ' S' w' HF->eP cx.D ρ' S' w' eQ a'.tmps->a'.defers=[]->Step cx.D n0 ρ S H w ρ' S' HF w'->Q .normal a' w')->wpAny cx.P .any L.toArray Q fuel listed a w:=by
 have hfin:∀(listed:Array Bool)(H:List (Ob K))(ρ:List Value)(S:Nat->Prop)(a:Act)(w:World),jW cx L (ik L []) cg F H0 HF H ρ S listed a w->Region.ready .any L.toArray listed=[]->H=HF/\eP cx.D ρ S w eQ a.tmps:=fun listed H ρ S a w hm hr=>by
  have hall:=alH he hm.nO hr;refine⟨hm.final hp hall,by rw[hp.len,hm.size],fun t v x hv hx=>?_⟩;rcases AB L t with hnd|⟨k,o,hk,hkd⟩
  ·rw[hp.rest t fun k o _ h=>hnd k o h]at hv;exact .jV (hm.base t v x (fun k o hk hkd=>absurd hkd (hnd k o hk)) hv hx)
  ·have mB:=(cz.1 hk).1;rw[hp.fin k o t mB hk hkd]at hv;simp only[aD]at hv;subst hv;exact hm.done k o t x hk (hall k mB) hkd hx
 intro fuel
 induction fuel with
 |zero=>
  intro listed H ρ S a w hm ht hq;have hr:Region.ready .any L.toArray listed=[]:=by
   cases hh:Region.ready .any L.toArray listed with
   |nil=>rfl
   |cons j r=>
    have:j∈Region.ready .any L.toArray listed:=by rw[hh];simp
    exact absurd (F5.1 (mem_ready.1 this).1) (alG (by omega))
  obtain⟨e,hs⟩:=hfin listed H ρ S a w hm hr;subst e;exact⟨hr,hq ρ S a w hm.heap hs hm.defers Step.refl⟩
 |succ fuel ih=>
  intro listed H ρ S a w hm ht hq;refine⟨fun hr=>by
   obtain⟨e,hs⟩:=hfin listed H ρ S a w hm hr;subst e;exact hq ρ S a w hm.heap hs hm.defers Step.refl,fun j hj=>?_⟩
  obtain⟨ry,o,hoj,hall⟩:=mem_ready.1 hj;have gK:=F5.1 ry;have ho:L[j]?=some o:=by simpa using hoj
  have hjL:=(cz.1 ho).1;have lE:∀e∈o.after,listed[e.on]?=some true:=fun e xI=>RF.1 (hall e xI (F4 L 0 j o he ho e xI).2)
  have hA:∀k,((ik L []).getD j 0).testBit k=true->listed[k]?=some true:=fun k hk=>
   (uz he (T:=fun i=>listed[i]?=some true) (fun i o hi nP=>hm.closed i o hi nP) j o ho lE k hk).1
  have hcl:∀i k,listed[i]?=some true->((ik L []).getD i 0).testBit k=true->listed[k]?=some true:=fun i k hi hk=>by
   have hiL:i<L.length:=by have:=(jd.1 hi).1;rw[hm.nO]at this;exact this
   exact(uz he (T:=fun i=>listed[i]?=some true) (fun i o hi nP=>hm.closed i o hi nP) i _ (ct hiL) (hm.closed i _ (ct hiL) hi) k hk).1
  obtain⟨dc,dP,fs⟩:=hp.slot j o hjL ho;obtain⟨hsl,hkn⟩:=hm.slots hD rfl he hp ho gK lE fs;have view:=hm.view hp hjL gK hA hcl fs;have hsv:=hm.heap.view hD view;have main:∀q,iD q cx L (eE (eO (ik L []) j) L 0 dc) (iE (F.mask j) 0 (F.hin j)) dP o=some (F.vals j,F.hout j,true)->wpOp cx.P L.toArray Q j (wpAny cx.P .any L.toArray Q fuel (listed.setIfInBounds j true)) a w:=fun q s1=>by
   have l6:∀g b y,F.vals j=.opt g b y->∃(k':Nat)(o':Oper),L[k']?=some o'/\o'.dst=some g/\listed[k']?=some true:=fun g b y e=>by
    rw[e]at s1;obtain⟨v,g1,g2⟩:=alD s1;rcases hkn g v g1 g2 with hn'|h
    ·obtain⟨k,o',hk,h2,h3⟩:=fs.dP g (xH s1 g b y rfl);exact absurd h3 (hn' k o' hk h2)
    ·exact h
   have hw:=Rt hD hc hsv hsl (ops:=L) s1 rfl (k:=wpAny cx.P .any L.toArray Q fuel (listed.setIfInBounds j true)) (Q:=Q) fun u ρ1 S1 w1 q1 q2 q3=>by
    rw[F9]at q3;obtain⟨hm1,st1⟩:=hm.put hD hp ho gK lE hA hcl fs q1 q3 q2 l6 hn;exact ih _ _ _ S1 _ w1 hm1 (by have:=alF gK;omega) fun ρ' S' a' w' g1 g2 g3 g4=>hq ρ' S' a' w' g1 g2 g3 (st1.trans g4)
   unfold wpOp;rw[hoj];dsimp only;split
   ·rename_i hwt;rw[aE hwt]at hw;exact .inl hw
   ·rename_i hwt;rw[av hwt]at hw;exact hw
  have s1:=fs.slot;unfold Aj at s1;split at s1
  ·exact main true s1
  ·split at s1
   ·exact main false s1
   ·cases s1
theorem jW.start(hp:gk cx L bs H0 cg F L.length eQ HF wr ms ws)(hs:aY cx.D ρ S w H0)(hd:a.defers=[])(hsl:eP cx.D ρ S w cg a.tmps)(h0:dy cg):
 jW cx L bs cg F H0 HF (nQ H0 HF.length) (mC ρ HF.length) S (Array.replicate L.length false) a w:=by
 have hf:∀(k:Nat),(Array.replicate L.length false)[k]?≠some true:=fun k e=>by
  rw[La]at e;split at e<;>simp at e
 have hl:=hp.len0;refine⟨hs.pad hl,al0 hl,hd,hsl.len.symm,by simp,fun t v x hn1 h1 h2=>?_,fun k o d x h1 h2=>absurd h2 (hf k),fun k g b y h1=>absurd h1 (hf k),fun k o h1 h2=>absurd h2 (hf k),fun h _ hh=>⟨fun h1=>?_,fun h1=>?_⟩,fun h k hk=>absurd hk (hf k),fun h h1 h2 _=>?_⟩
 ·have h3:=hsl.ok t v x h1 h2;have h4:Rep cx.D ρ S w v x:=by
   cases v with
   |opt g b y=>exact absurd h1 (h0 t g b y)
   |_=>exact h3
  exact h4.mono' (fun _ h=>h) (fun _ _=>rfl) fun h r hr _=>al1 hr
 ·unfold nQ;rw[dD h1]
 ·unfold nQ;rw[d5 h1,mo,aE (by omega)]
 ·unfold mC;rw[d5 (by rw[hs.len];exact h1),mo,aE (by rw[hs.len];omega)]
end
end Go.V
namespace Go.V
open Go
theorem al5:∀(π:List Nat),pR π=true->∀(i j k:Nat),π[i]?=some k->π[j]?=some k->i=j
 |[],_,i,j,k,h,_=>by simp at h
 |x::r,hn,i,j,k,hi,hj=>by
  simp only[pR,bC,eL,zX,dR]at hn;cases i with
  |zero=>
   cases j with
   |zero=>rfl
   |succ j=>simp at hi hj;subst hi;exact absurd (gG hj) hn.1
  |succ i=>
   cases j with
   |zero=>simp at hi hj;subst hj;exact absurd (gG hi) hn.1
   |succ j=>rw[al5 r hn.2 i j k (by simpa using hi) (by simpa using hj)]
structure rD (π:List Nat) (ops ops':Array Oper):Prop where
 len:π.length=ops.size
 len':ops'.size=ops.size
 L0:∀i,i<ops.size->∃j:Nat,π[j]?=some i
 inj:∀(i j k:Nat),π[i]?=some k->π[j]?=some k->i=j
 ops:∀(j i:Nat),π[j]?=some i->∃o,ops[i]?=some o/\ops'[j]?=some (xx π ops.size o)
theorem al6{π:List Nat}{ops:List Oper}(h:Fz π ops.length=true):rD π ops.toArray (permuted π ops).toArray:=by
 simp only[Fz,bC,bq,dz,zN,zX]at h;obtain⟨h1,h2,h3,h4⟩:=h;refine⟨by simpa using h1,by simp[permuted,h1],fun i hi=>?_,al5 π h4,fun j i hj=>?_⟩
 ·have:=h3 i (by simpa using hi);obtain⟨j,hj,e⟩:=pK this;exact⟨j,by rw[ct hj,e]⟩
 ·have hi:i<ops.length:=h2 i (gG hj);refine⟨ops[i],by simp[hi],?_⟩;simp only[List.getElem?_toArray,permuted,f5,hj,pM,ct hi,pG]
section
variable {P :Program}{π:List Nat}{ops ops':Array Oper}{Q:Exit->Act->World->Prop}
theorem al7{π:List Nat}{i j:Nat}(h:π.idxOf? i=some j):π[j]?=some i:=by
 rw[List.idxOf?_eq_some_iff]at h;obtain⟨hlt,he,-⟩:=h;rw[ct hlt];simpa using he
theorem al8{π:List Nat}{i:Nat}(h:π.idxOf? i=none):i∉π:=by
 rw[List.idxOf?_eq_none_iff]at h;exact h
structure Listed (π:List Nat) (n:Nat) (l l':Array Bool):Prop where
 sz:l.size=n
 sz':l'.size=n
 eq:∀(j i:Nat),π[j]?=some i->l'[j]?=l[i]?
theorem Listed.getD(hp:rD π ops ops'){l l':Array Bool}(h:Listed π ops.size l l')(i:Nat):l'.getD ((π.idxOf? i).getD ops.size) false=l.getD i false:=by
 cases hx:π.idxOf? i with
 |some j=>
  have:=h.eq j i (al7 hx);simp only[aV,nD,this]
 |none=>
  have hi:ops.size<=i:=by
   rcases cA i ops.size with hlt|hge
   ·obtain⟨j,hj⟩:=hp.L0 i hlt;exact absurd (gG hj) (al8 hx)
   ·exact hge
  simp only[Option.getD_none,nD];rw[qK (by rw[h.sz'];exact bY _),qK (by rw[h.sz];exact hi)]
theorem mem_ready{ops:Array Oper}{l:Array Bool}{i:Nat}:i∈Region.ready .any ops l↔i<ops.size/\l.getD i true=false/\∃o,ops[i]?=some o/\(o.after.all fun e=> !Region.binds .any e||l.getD e.on false)=true:=by
 unfold Region.ready;rw[List.mem_filter,zN];constructor
 ·rintro ⟨h1,h2⟩
  rw[bC,eL]at h2;refine⟨h1,h2.1,ops[i],by simp[h1],?_⟩;have:=h2.2;rw[zW h1]at this;simpa using this
 ·rintro ⟨h1,h2,o,h3,h4⟩
  refine⟨h1,?_⟩;rw[bC,eL];refine⟨h2,?_⟩;rw[h3];simpa using h4
theorem al9(hp:rD π ops ops'){l l':Array Bool}(h:Listed π ops.size l l')(o:Oper):
 ((xx π ops.size o).after.all fun e=> !Region.binds .any e||l'.getD e.on false)=(o.after.all fun e=> !Region.binds .any e||l.getD e.on false):=by
 have key:∀(L:List Edge),(((L.filter (Region.binds .any)).map fun e=>({e with on:=(π.idxOf? e.on).getD ops.size}:Edge)).all fun e=> !Region.binds .any e||l'.getD e.on false)=L.all fun e=> !Region.binds .any e||l.getD e.on false:=by
  intro L
  induction L with
  |nil=>rfl
  |cons e r ih=>
   rw[List.filter_cons,kK,<-ih];cases hb:Region.binds .any e with
   |false=>simp
   |true=>
    have hb':Region.binds .any {e with on:=(π.idxOf? e.on).getD ops.size}=true:=hb;simp only[eY,eu,kK,hb',h.getD hp]
 have:=key o.after.toList;simp only[xx];rw[<-Array.all_toList,<-Array.all_toList,Array.toList_map,Array.toList_filter];exact this
theorem RY(hp:rD π ops ops'){l l':Array Bool}(h:Listed π ops.size l l'){i j:Nat}(hj:π[j]?=some i):j∈Region.ready .any ops' l'↔i∈Region.ready .any ops l:=by
 obtain⟨o,ho,ho'⟩:=hp.ops j i hj;have hi:i<ops.size:=(jd.1 ho).1;have hj':j<ops'.size:=(jd.1 ho').1;have hl:l'.getD j true=l.getD i true:=by simp only[nD,h.eq j i hj]
 rw[mem_ready,mem_ready,hl];constructor
 ·rintro ⟨-,h2,o1,h3,h4⟩
  rw[ho']at h3;simp only[aD]at h3;subst h3;rw[al9 hp h]at h4;exact⟨hi,h2,o,ho,h4⟩
 ·rintro ⟨-,h2,o1,h3,h4⟩
  rw[ho]at h3;simp only[aD]at h3;subst h3;exact⟨hj',h2,_,ho',by rw[al9 hp h];exact h4⟩
theorem aEb(hp:rD π ops ops')(tm:Array Value)(i:Nat):yielded ops' tm ((π.idxOf? i).getD ops.size)=yielded ops tm i:=by
 unfold yielded;have:(ops'[(π.idxOf? i).getD ops.size]?).bind (·.dst)=(ops[i]?).bind (·.dst):=by
  cases hx:π.idxOf? i with
  |some j=>
   obtain⟨o,ho,ho'⟩:=hp.ops j i (al7 hx);simp only[aV];rw[ho,ho'];rfl
  |none=>
   have hi:ops.size<=i:=by
    rcases cA i ops.size with hlt|hge
    ·obtain⟨j,hj⟩:=hp.L0 i hlt;exact absurd (gG hj) (al8 hx)
    ·exact hge
   simp only[Option.getD_none];rw[qK (by rw[hp.len'];exact bY _),qK hi]
 rw[this]
theorem aEc(hp:rD π ops ops')(tm:Array Value)(o:Oper):Region.wanted (xx π ops.size o) (yielded ops' tm)=Region.wanted o (yielded ops tm):=by
 unfold Region.wanted xx;cases hg:o.guard with
 |none=>rfl
 |some g=>simp only[pM,aEb hp]
theorem aEd(hp:rD π ops ops'){i j:Nat}(hj:π[j]?=some i){K:Act->World->Prop}{a:Act}{w:World}(h:wpOp P ops' Q j K a w):wpOp P ops Q i K a w:=by
 obtain⟨o,ho,ho'⟩:=hp.ops j i hj;unfold wpOp at h⊢;rw[ho']at h;rw[ho];dsimp only at h⊢;rw[aEc hp]at h;exact h
theorem Listed.set(hp:rD π ops ops'){l l':Array Bool}(h:Listed π ops.size l l'){i j:Nat}(hj:π[j]?=some i):Listed π ops.size (l.setIfInBounds i true) (l'.setIfInBounds j true):=by
 refine⟨by simp[h.sz],by simp[h.sz'],fun j' i' hj'=>?_⟩;rw[pN,pN];have hb:j<l'.size↔i<l.size:=by
  have:=h.eq j i hj;constructor
  ·intro hlt;rcases cA i l.size with h1|h1
   ·exact h1
   ·rw[qK h1,zW hlt]at this;cases this
  ·intro hlt;rcases cA j l'.size with h1|h1
   ·exact h1
   ·rw[qK h1,zW hlt]at this;cases this
 by_cases e:j=j'
 ·subst e;rw[hj]at hj';simp only[aD]at hj';subst hj';simp only[eY];by_cases h1:j<l'.size
  ·rw[aE h1,aE (hb.1 h1)]
  ·rw[av h1,av (fun h2=>h1 (hb.2 h2))]
 ·have e':i≠i':=fun e2=>by subst e2;exact e (hp.inj j j' i hj hj')
  rw[av e,av e'];exact h.eq j' i' hj'
theorem aEe(hp:rD π ops ops'):∀(fuel:Nat)(l l':Array Bool)(a:Act)(w:World),Listed π ops.size l l'->wpAny P .any ops' Q fuel l' a w->wpAny P .any ops Q fuel l a w:=by
 have nil:∀{l l':Array Bool},Listed π ops.size l l'->Region.ready .any ops l=[]->Region.ready .any ops' l'=[]:=fun{l l'} h he=>by
  apply List.eq_nil_iff_forall_not_mem.2;intro j hj;have hjn:j<π.length:=by rw[hp.len,<-hp.len'];exact(mem_ready.1 hj).1
  have:=(RY hp h (ct hjn)).1 hj;rw[he]at this;cases this
 have nil':∀{l l':Array Bool},Listed π ops.size l l'->Region.ready .any ops' l'=[]->Region.ready .any ops l=[]:=fun{l l'} h he=>by
  apply List.eq_nil_iff_forall_not_mem.2;intro i hi;obtain⟨j,hj⟩:=hp.L0 i (mem_ready.1 hi).1;have:=(RY hp h hj).2 hi;rw[he]at this;cases this
 intro fuel
 induction fuel with
 |zero=>
  intro l l' a w h hw;exact⟨nil' h hw.1,hw.2⟩
 |succ fuel ih=>
  intro l l' a w h hw;refine⟨fun he=>hw.1 (nil h he),fun i hi=>?_⟩;obtain⟨j,hj⟩:=hp.L0 i (mem_ready.1 hi).1;refine aEd hp hj (wpOp_mono (fun a w=>ih _ _ a w (h.set hp hj)) (hw.2 j ((RY hp h hj).2 hi)))
end
end Go.V
namespace Go.V
open Go
variable {K :db}{ρ ρ':List Value}{S S':Nat->Prop}{w w':World}{H H':List (Ob K)}
def Tr(cx:Cx K)(n0:Nat)(c:Code)(st:St K)(e:Ex)(st':St K):Prop:=
 ∀(ρ:List Value)(S:Nat->Prop)(a:Act)(w:World),n0<=st.H.length->Sat cx ρ S a w st->
  c.wp cx.P (fun e' a' w'=>e'=e.nE/\n0<=st'.H.length/\∃ρ' S',Sat cx ρ' S' a' w' st'/\Step cx.D n0 ρ S st.H w ρ' S' st'.H w') a w
theorem Step.drew{D:bP K}{n0 n:Nat}{ρ ρ':List Value}{S S':Nat->Prop}{w w':World}{H H':List (Ob K)}(h:Step D n0 ρ S H {w with drawn:=n} ρ' S' H' w'):Step D n0 ρ S H w ρ' S' H' w':=
 have g:∀b,Own D {w with drawn:=n} ρ H b->Own D w ρ H b:=fun b h=>h.old fun _ _=>rfl
 ⟨h.os,h.tape,h.output,h.size,fun b hb hn=>h.old b hb fun hO=>hn (g b hO),fun b hb=>(h.own b hb).imp (g b) id,h.s1,fun b hb=>(h.s2 b hb).imp id (Or.imp (g b) id),h.pre⟩
theorem Sat.drawn{cx:Cx K}{a:Act}{st:St K}(h:Sat cx ρ S a w st)(n:Nat):Sat cx ρ S a {w with drawn:=n} st:=
 ⟨h.heap.world (bY _) (fun _ _=>rfl) (fun _ _=>rfl),eP.mono (w:=w) (w':={w with drawn:=n}) (fun _ h=>h) (fun _ _=>rfl) (fun _ _ h=>h) h.slots,h.defers⟩
theorem ama{cx:Cx K}{ops:List Oper}:∀(l:List Oper)(st st':St K)(wr wr':List Nat),lC cx ops l st wr=some (st',wr')->lD st.tm wr->lD st'.tm wr'
 |[],st,st',wr,wr',h,ho=>by simp only[lC,aD,bj]at h;obtain⟨rfl,rfl⟩:=h;exact ho
 |o::r,st,st',wr,wr',h,ho=>by
  simp only[lC]at h;split at h
  ·rename_i st1 ip h1;refine ama r st1 st' ip wr' h ?_;unfold xw at h1;split at h1
   ·rename_i v H1 c hsv;obtain⟨-,-,p3⟩:=rB h1;rcases p3 with⟨e1,e2,e3⟩|⟨d,e1,e2,e3,e4,e5⟩
    ·rw[e2,e3];exact ho
    ·rw[e4,e5];exact ho.put (xH hsv)
   ·cases h1
  ·cases h
theorem aEf{cx:Cx K}{op:Op}(h:iO cx op=true):nI cx op=true:=by
 unfold nI;split
 ·rfl
 ·simp only[iO]at h;simp[h]
 ·simp only[iO,bC]at h;simp[h.1]
 ·exact h
theorem RZ{cx:Cx K}{ops:List Oper}{π:List Nat}{st st':St K}(h:FA cx ops π st=some st'):Fz π ops.length=true/\pU cx (permuted π ops) st=some st':=by
 unfold FA at h;split at h
 ·rename_i hp;exact⟨hp,h⟩
 ·cases h
theorem amb{cx:Cx K}{ops:List Oper}{st st':St K}(h:QB cx ops st=some st'):pU cx ops st=some st'\/∃π,Fz π ops.length=true/\pU cx (permuted π ops) st=some st':=by
 unfold QB at h;split at h
 ·split at h
  ·rename_i r hr;simp only[aD]at h;subst h;exact .inl hr
  ·exact .inr ⟨_,RZ h⟩
 ·split at h
  ·rename_i r hr;simp only[aD]at h;subst h;exact .inr ⟨_,RZ hr⟩
  ·exact .inr ⟨_,RZ h⟩
theorem amc{cx:Cx K}(hD:bW cx.D)(hc:aJ cx){n0:Nat}{ops:Array Oper}{st st':St K}(h:pU cx ops.toList st=some st'):
 (st'.ok=true->st.ok=true)/\(st'.ok=true->dy st.tm->dy st'.tm/\∀(ρ:List Value)(S:Nat->Prop)(a:Act)(w:World),n0<=st.H.length->Sat cx ρ S a w st->
   wpAny cx.P .any ops (fun e' a' w'=>e'=Ex.normal.nE/\n0<=st'.H.length/\∃ρ' S',Sat cx ρ' S' a' w' st'/\Step cx.D n0 ρ S st.H w ρ' S' st'.H w') ops.size (Array.replicate ops.size false) a {w with drawn:=w.drawn+1}):=by
 unfold pU at h;split at h
 ·rename_i hsm;simp only[bC]at hsm;split at h
  ·rename_i s1 wr hr;simp only[aD]at h;subst h;have hk:=RD _ _ _ _ _ _ hr;refine⟨fun hok=>(hk hok).1,fun hok h0=>?_⟩;obtain⟨vals,hd,hwr⟩:=aDP hr hok;have hH:=(hk hok).2;have RG:∀(i:Nat) o,ops.toList[i]?=some o->nI cx o.op=true:=fun i o ho=>
    dz.1 hsm.1 o (gG ho)
   have l6:lD s1.tm wr:=fun t g b v e=>by
    rcases AB ops.toList t with hn|⟨k,o,hk1,hk2⟩
    ·rw[hd.rest t hn]at e;exact absurd e (h0 t g b v)
    ·rw[hd.fin k o t hk1 hk2]at e;refine⟨(hwr t).2 ⟨k,o,hk1,hk2⟩,?_⟩;obtain⟨dc,dP,H1,q1,q2,q3,q4,q5⟩:=hd.slot k o hk1;simp only[aD]at e;rw[e]at q1;obtain⟨k',o',-,c2,c3⟩:=q5 g (xH q1 g b v rfl);exact(hwr g).2 ⟨k',o',c2,c3⟩
   refine⟨dy.wipe l6,fun ρ S a w hn bS=>?_⟩;have rE:=bS.drawn (w.drawn+1);have hall:ops=ops.toList.toArray:=by simp
   have hmid:Mid cx ops.toList st.tm vals st.H ρ S (Array.replicate ops.size false) a {w with drawn:=w.drawn+1}:=by
    have hf:∀(k:Nat),(Array.replicate ops.size false)[k]?≠some true:=fun k e=>by
     rw[La]at e;split at e<;>simp at e
    refine⟨rE.heap,rE.defers,rE.slots.len.symm,by simp,fun t v x hn1 h1 h2=>?_,fun k o d x h1 h2=>absurd h2 (hf k),fun k g b y h1=>absurd h1 (hf k),fun k o h1 h2=>absurd h2 (hf k)⟩;have:=rE.slots.ok t v x h1 h2;cases v with
    |opt g b y=>exact absurd h1 (h0 t g b y)
    |_=>exact this
   rw[hH];have key:=aDQ hD hc RG hsm.2 hd h0 (n0:=n0) hn (Q:=fun e' a' w'=>e'=Ex.normal.nE/\n0<=st.H.length/\∃ρ' S',Sat cx ρ' S' a' w' ⟨jl s1.tm wr,st.H,s1.ok⟩/\Step cx.D n0 ρ S st.H w ρ' S' st.H w') ops.size (Array.replicate ops.size false) ρ S a {w with drawn:=w.drawn+1} hmid (alI _) fun ρ' S' a' w' g1 g2 g3 g4=>by
    exact⟨rfl,hn,ρ',S',⟨g1,g2.wipe _ _,g3⟩,g4.drew⟩
   rw[<-hall]at key;exact key
  ·cases h
 ·split at h
  ·rename_i R7;split at h
   ·rename_i s1 wr hr;simp only[aD]at h;subst h;refine⟨fun hok=>RQ _ _ _ _ _ _ _ _ hr hok,fun hok h0=>?_⟩;obtain⟨F,ms,ws,hp⟩:=aD4 hr hok;have l6:lD s1.tm wr:=fun t g b v e=>by
     rcases AB ops.toList t with hn|⟨k,o,hk1,hk2⟩
     ·rw[hp.rest t fun k o _ h=>hn k o h]at e;exact absurd e (h0 t g b v)
     ·have mB:=(cz.1 hk1).1;rw[hp.fin k o t mB hk1 hk2]at e;refine⟨(hp.mz t).2 ⟨k,o,mB,hk1,hk2⟩,?_⟩;obtain⟨dc,dP,fs⟩:=hp.slot k o mB hk1;simp only[aD]at e;have q1:=fs.slot;rw[e]at q1;have hg:g∈dP:=by
       unfold Aj at q1;split at q1
       ·exact xH q1 g b v rfl
       ·split at q1
        ·exact xH q1 g b v rfl
        ·cases q1
      obtain⟨k',o',c1,c2,c3⟩:=fs.dP g hg;exact(hp.mz g).2 ⟨k',o',by omega,c2,c3⟩
    refine⟨dy.wipe l6,fun ρ S a w hn bS=>?_⟩;have rE:=bS.drawn (w.drawn+1);have hall:ops=ops.toList.toArray:=by simp
    have hmid:=jW.start hp rE.heap rE.defers rE.slots h0;have aEg:=Step.pad (n:=s1.H.length) (n0:=n0) rE.heap hn;have key:=aEa hD hc R7 hp (n0:=n0) hn (Q:=fun e' a' w'=>e'=Ex.normal.nE/\n0<=s1.H.length/\∃ρ' S',Sat cx ρ' S' a' w' ⟨jl s1.tm wr,s1.H,s1.ok⟩/\Step cx.D n0 ρ S st.H w ρ' S' s1.H w') ops.size (Array.replicate ops.toList.length false) _ _ S a {w with drawn:=w.drawn+1} hmid (by have:=alI ops.toList.length;simpa using this) fun ρ' S' a' w' g1 g2 g3 g4=>by
     have g5:=aEg.trans g4;exact⟨rfl,cD hn hp.len0,ρ',S',⟨g1,g2.wipe _ _,g3⟩,g5.drew⟩
    rw[<-hall]at key;simpa using key
   ·cases h
  ·cases h
theorem AE{cx:Cx K}(hD:bW cx.D)(hc:aJ cx)(hm:cx.P.follows .mixedOrders=true){n0:Nat}{id:Nat}{ops:Array Oper}{draw:Bool}{st st':St K}(h:iF cx ops.toList draw st=some st'):
 (st'.ok=true->st.ok=true)/\(st'.ok=true->dy st.tm->dy st'.tm/\Tr cx n0 (.region id ops draw) st .normal st'):=by
 unfold iF at h;split at h
 ·rename_i hdr;subst hdr;rcases amb h with h|⟨π,hp,h⟩
  ·obtain⟨h1,h2⟩:=amc (n0:=n0) hD hc h;refine⟨h1,fun hok h0=>⟨(h2 hok h0).1,fun ρ S a w hn bS=>wp_region_any hm ((h2 hok h0).2 ρ S a w hn bS)⟩⟩
  ·have hp':=al6 hp;have e:ops.toList.toArray=ops:=by simp
   rw[e]at hp';have h':pU cx ((permuted π ops.toList).toArray).toList st=some st':=h;obtain⟨h1,h2⟩:=amc (n0:=n0) hD hc h';refine⟨h1,fun hok h0=>⟨(h2 hok h0).1,fun ρ S a w hn bS=>wp_region_any hm ?_⟩⟩;have:=(h2 hok h0).2 ρ S a w hn bS;rw[hp'.len']at this;exact aEe hp' _ _ _ _ _ ⟨by simp,by simp,fun j i hj=>by
    obtain⟨o,ho,ho'⟩:=hp'.ops j i hj;have hi:=(jd.1 ho).1;have hj':=(jd.1 ho').1;rw[hp'.len']at hj';rw[La,La,aE hi,aE hj']⟩ this
 ·rename_i hdr;split at h
  ·rename_i s1 wr hr;simp only[aD]at h;subst h;refine⟨fun hok=>Rw _ _ _ _ _ hr hok,fun hok h0=>?_⟩;refine⟨dy.wipe (ama _ _ _ _ _ hr h0.in),fun ρ S a w hn bS=>?_⟩;have hdr':draw=false:=by simpa using hdr
   subst hdr';refine wp_region_list ?_;have key:=alu (n0:=n0) hD hc ops.toList st s1 [] wr ρ S a w hr hok bS h0.in hn (Q:=fun e' a' w'=>e'=Ex.normal.nE/\n0<=s1.H.length/\∃ρ' S',Sat cx ρ' S' a' w' ⟨jl s1.tm wr,s1.H,s1.ok⟩/\Step cx.D n0 ρ S st.H w ρ' S' s1.H w') fun ρ' S' a' w' g1 g2 g3=>
    ⟨rfl,g3.grow bS.heap g1.heap hn,ρ',S',⟨g1.heap,g1.slots.wipe _ _,g1.defers⟩,g3⟩
   exact key
  ·cases h
theorem R9:∀(wr:List Nat)(tm:List (AV K))(t:Nat),t∉wr->(jl tm wr)[t]?=tm[t]?
 |[],tm,t,h=>rfl
 |d::r,tm,t,h=>by
  simp only[fi,not_or]at h;simp only[jl];split
  ·rw[R9 r _ t h.2,List.getElem?_set_ne (nk h.1)]
  ·exact R9 r tm t h.2
theorem Si:∀(wr:List Nat)(tm:List (AV K)),(jl tm wr).length=tm.length
 |[],tm=>rfl
 |d::r,tm=>by
  simp only[jl];split
  ·rw[Si r];simp
  ·exact Si r tm
theorem aEh{q:Bool}{cx:Cx K}{ops:List Oper}{tm:List (AV K)}{wr:List Nat}{o:Oper}{v:AV K}{c:Bool}(hs:iO cx o.op=true)(h:iD q cx ops tm H wr o=some (v,H',c)):H'=H:=by
 unfold iD at h;split at h
 ·cases h
 ·split at h
  ·rename_i hy;split at h
   ·cases h
   ·simp only[aD,bj]at h;obtain⟨-,rfl,-⟩:=h;exact alr hs hy
  ·cases h
 ·split at h
  ·split at h
   ·split at h
    ·split at h
     ·rename_i hy;split at h
      ·cases h
      ·simp only[aD,bj]at h;obtain⟨-,rfl,-⟩:=h;exact alr hs hy
     ·cases h
    ·simp only[aD,bj]at h;exact h.2.1.symm
   ·cases h
  split at h
  ·cases h
  ·split at h
   ·split at h
    ·simp only[aD,bj]at h;exact h.2.1.symm
    ·cases h
   ·cases h
structure Quiet (st st':St K) (wr:List Nat):Prop where
 H:st'.H=st.H
 len:st'.tm.length=st.tm.length
 rest:∀t,t∉wr->st'.tm[t]?=st.tm[t]?
theorem amd{st st':St K}{wr wr' ds:List Nat}{dst:Option Nat}{v:AV K}{ok:Bool}(h:xu st wr dst v st.H ok=some (st',wr'))(hd:∀d,dst=some d->d∈ds)(hw:∀d∈wr,d∈ds):Quiet st st' ds/\∀d∈wr',d∈ds:=by
 obtain⟨p1,p2,p3⟩:=rB h;rcases p3 with⟨e1,e2,e3⟩|⟨d,e1,e2,e3,e4,e5⟩
 ·exact⟨⟨p1,by rw[e2],fun t _=>by rw[e2]⟩,by rw[e3];exact hw⟩
 ·refine⟨⟨p1,by rw[e4];simp,fun t ht=>?_⟩,fun d' hd'=>?_⟩
  ·rw[e4,List.getElem?_set_ne fun e=>ht (by rw[<-e];exact hd d e1)]
  ·rw[e5]at hd';rcases fi.1 hd' with rfl|h'
   ·exact hd _ e1
   ·exact hw _ h'
theorem Quiet.trans{st st1 st2:St K}{wr:List Nat}(a:Quiet st st1 wr)(b:Quiet st1 st2 wr):Quiet st st2 wr:=
 ⟨b.H.trans a.H,b.len.trans a.len,fun t ht=>(b.rest t ht).trans (a.rest t ht)⟩
theorem Quiet.more{st st1:St K}{wr wr':List Nat}(a:Quiet st st1 wr)(h:∀d∈wr,d∈wr'):Quiet st st1 wr':=⟨a.H,a.len,fun t ht=>a.rest t fun h'=>ht (h t h')⟩
theorem ame{cx:Cx K}{ops:List Oper}{ds:List Nat}:∀(l:List Oper)(st st':St K)(wr wr':List Nat),lC cx ops l st wr=some (st',wr')->(∀o∈l,iO cx o.op=true)->(∀o∈l,∀d,o.dst=some d->d∈ds)->(∀d∈wr,d∈ds)->Quiet st st' ds/\∀d∈wr',d∈ds
 |[],st,st',wr,wr',h,_,_,hw=>by simp only[lC,aD,bj]at h;obtain⟨rfl,rfl⟩:=h;exact⟨⟨rfl,rfl,fun _ _=>rfl⟩,hw⟩
 |o::r,st,st',wr,wr',h,hs,hd,hw=>by
  simp only[lC]at h;split at h
  ·rename_i st1 ip h1;unfold xw at h1;split at h1
   ·rename_i v H1 c hsv;have hH:=aEh (hs o (by simp)) hsv;subst hH;obtain⟨q1,q2⟩:=amd h1 (fun d e=>hd o (by simp) d e) hw;obtain⟨q3,q4⟩:=ame r st1 st' ip wr' h (fun o ho=>hs o (by simp[ho])) (fun o ho=>hd o (by simp[ho])) q2;exact⟨q1.trans q3,q4⟩
   ·cases h1
  ·cases h
theorem amf{cx:Cx K}{L:List Oper}{bs ds:List Nat}:∀(l:List Oper)(i:Nat)(st st':St K)(wr wr':List Nat),mr cx L bs l i st wr=some (st',wr')->(∀o∈l,∀d,o.dst=some d->d∈ds)->(∀d∈wr,d∈ds)->Quiet st st' ds/\∀d∈wr',d∈ds
 |[],i,st,st',wr,wr',h,_,hw=>by simp only[mr,aD,bj]at h;obtain⟨rfl,rfl⟩:=h;exact⟨⟨rfl,rfl,fun _ _=>rfl⟩,hw⟩
 |o::r,i,st,st',wr,wr',h,hd,hw=>by
  simp only[mr]at h;split at h
  ·split at h
   ·rename_i st1 ip h1;obtain⟨q1,q2⟩:=amd h1 (fun d e=>hd o (by simp) d e) hw;obtain⟨q3,q4⟩:=amf r _ st1 st' ip wr' h (fun o ho=>hd o (by simp[ho])) q2;exact⟨q1.trans q3,q4⟩
   ·cases h
  ·cases h
theorem Quiet.wipe{st st1:St K}{wr ds:List Nat}(a:Quiet st st1 ds)(h:∀d∈wr,d∈ds):Quiet st ⟨jl st1.tm wr,st1.H,st1.ok⟩ ds:=
 ⟨a.H,by simp[Si,a.len],fun t ht=>by dsimp only;rw[R9 wr _ t fun h'=>ht (h t h')];exact a.rest t ht⟩
theorem L1{cx:Cx K}{ops:List Oper}{draw:Bool}{st:St K}{b:Bool}{s1 s2:St K}:∀(l:List Nat),FC cx ops draw st l=some (b,s1,s2)->
 ∃t,iF {cx with gs:=[(t,true)]} ops draw st=some s1/\iF {cx with gs:=[(t,false)]} ops draw st=some s2
 |[],h=>by cases h
 |t::r,h=>by
  unfold FC at h;split at h
  ·rename_i a1 a2 h1 h2;split at h
   ·simp only[aD,bj]at h;obtain⟨-,rfl,rfl⟩:=h;exact⟨t,h1,h2⟩
   ·exact L1 r h
  ·exact L1 r h
theorem Sat.gs{cx:Cx K}{g:List (Nat×Bool)}{a:Act}{st:St K}(h:Sat cx ρ S a w st):Sat {cx with gs:=g} ρ S a w st:=⟨h.heap,h.slots,h.defers⟩
theorem Sat.aEi{cx:Cx K}{g:List (Nat×Bool)}{a:Act}{st:St K}(h:Sat {cx with gs:=g} ρ S a w st):Sat cx ρ S a w st:=⟨h.heap,h.slots,h.defers⟩
theorem Tr.gs{cx:Cx K}{g:List (Nat×Bool)}{n0:Nat}{c:Code}{st st':St K}{e:Ex}(h:Tr {cx with gs:=g} n0 c st e st'):Tr cx n0 c st e st':=fun ρ S a w hn hs=>
 wp_mono (h ρ S a w hn hs.gs) fun e' a' w' ⟨h1,h2,ρ',S',h3,h4⟩=>⟨h1,h2,ρ',S',h3.aEi,h4⟩
def hQ.All(Q:St K->Prop):hQ K->Prop
 |.no=>True
 |.leaf s=>Q s
 |.node _ x y=>x.All Q/\y.All Q
 |.two x y=>Q x/\Q y
theorem hQ.Sj{cx:Cx K}{Q:St K->Prop}(hor:∀{R:Type}(a b:Option R)(r:R),cx.Fg a b=some r->a=some r\/b=some r):∀(T:hQ K),T.All Q->∀{R:Type}{k:St K->Option R}{r:R},T.go cx k=some r->∃s,Q s/\k s=some r
 |.no,_,R,k,r,h=>by cases h
 |.leaf s,hq,R,k,r,h=>⟨s,hq,h⟩
 |.node b x y,hq,R,k,r,h=>by
   cases b with
   |true=>exact hQ.Sj hor x hq.1 h
   |false=>exact hQ.Sj hor y hq.2 h
 |.two x y,hq,R,k,r,h=>by
   rcases hor _ _ _ h with h|h
   ·exact⟨x,hq.1,h⟩
   ·exact⟨y,hq.2,h⟩
theorem Sl{cx:Cx K}{ops:List Oper}{draw:Bool}{st:St K}{Q:St K->Prop}(h0:∀gs s,iF {cx with gs:=gs} ops draw st=some s->Q s)
 (h1:∀x gs s,iF {cx with call:=cx.alt x,mode:=cx.rh x,gs:=gs} ops draw st=some s->Q s):∀(n:Nat)(gs:List (Nat×Bool))(T:hQ K),FD cx ops draw st n gs=some T->T.All Q
 |0,gs,T,h=>by cases h
 |n+1,gs,T,h=>by
  unfold FD at h;split at h
  ·rename_i s hs;cases h;exact h0 gs s hs
  ·split at h
   ·rename_i s1 s2 e1 e2;cases h;exact⟨h1 true gs s1 e1,h1 false gs s2 e2⟩
   ·split at h
    ·split at h
     ·rename_i x y ex ey;cases h;exact⟨Sl h0 h1 n _ x ex,Sl h0 h1 n _ y ey⟩
     ·cases h
    ·split at h
     ·cases h;trivial
     ·cases h
theorem hQ.L2{Q:St K->Prop}:∀(T:hQ K),T.All Q->∀{R:Type}{k:St K->Option R}{r:R},T.Lp k=some r->∃s,Q s/\k s=some r
 |.no,_,R,k,r,h=>by cases h
 |.leaf s,hq,R,k,r,h=>⟨s,hq,h⟩
 |.node b x y,hq,R,k,r,h=>by
   cases b with
   |true=>exact hQ.L2 x hq.1 h
   |false=>exact hQ.L2 y hq.2 h
 |.two x y,hq,R,k,r,h=>by cases h
theorem L6{cx:Cx K}{ops:List Oper}{draw:Bool}{st:St K}{Q:St K->Prop}(h0:∀gs s,iF {cx with gs:=gs} ops draw st=some s->Q s):
 ∀(n:Nat)(gs:List (Nat×Bool))(T:hQ K),FG cx ops draw st n gs=some T->T.All Q
 |0,gs,T,h=>by cases h
 |n+1,gs,T,h=>by
  unfold FG at h;split at h
  ·rename_i s hs;cases h;exact h0 gs s hs
  ·split at h
   ·split at h
    ·rename_i x y ex ey;cases h;exact⟨L6 h0 n _ x ex,L6 h0 n _ y ey⟩
    ·cases h
   ·split at h
    ·cases h;trivial
    ·cases h
theorem Sat.call{cx:Cx K}{g:FuncId->List (AV K)->List (Ob K)->Option (AV K×List (Ob K)×Bool)}{m:FuncId->Mode}{a:Act}{st:St K}(h:Sat cx ρ S a w st):Sat {cx with call:=g,mode:=m} ρ S a w st:=⟨h.heap,h.slots,h.defers⟩
theorem Sat.aEj{cx:Cx K}{g:FuncId->List (AV K)->List (Ob K)->Option (AV K×List (Ob K)×Bool)}{m:FuncId->Mode}{a:Act}{st:St K}(h:Sat {cx with call:=g,mode:=m} ρ S a w st):Sat cx ρ S a w st:=⟨h.heap,h.slots,h.defers⟩
theorem Tr.call{cx:Cx K}{g:FuncId->List (AV K)->List (Ob K)->Option (AV K×List (Ob K)×Bool)}{m:FuncId->Mode}{n0:Nat}{c:Code}{st st':St K}{e:Ex}(h:Tr {cx with call:=g,mode:=m} n0 c st e st'):Tr cx n0 c st e st':=fun ρ S a w hn hs=>
 wp_mono (h ρ S a w hn hs.call) fun e' a' w' ⟨h1,h2,ρ',S',h3,h4⟩=>⟨h1,h2,ρ',S',h3.aEj,h4⟩
theorem Sm{cx:Cx K}{g:List (Nat×Bool)}:∀(o:Op),iO {cx with gs:=g} o=iO cx o:=fun o=>by
 unfold iO;rfl
theorem L8{cx:Cx K}{id:Nat}{ops:Array Oper}{draw:Bool}{st st':St K}(hs:∀o∈ops.toList,iO cx o.op=true)(hr:iF cx ops.toList draw st=some st'):Quiet st st' (writes (.region id ops draw)):=by
 have hd:∀o∈ops.toList,∀d,o.dst=some d->d∈writes (.region id ops draw):=fun o ho d hd=>by
  simp only[writes,List.mem_filterMap];exact⟨o,ho,hd⟩
 have dq:∀(L:List Oper),(∀o∈L,iO cx o.op=true)->(∀o∈L,∀d,o.dst=some d->d∈writes (.region id ops draw))->pU cx L st=some st'->Quiet st st' (writes (.region id ops draw)):=fun L hs hd hr=>by
  unfold pU at hr;split at hr
  ·split at hr
   ·rename_i s1 wr h1;simp only[aD]at hr;subst hr;obtain⟨q1,q2⟩:=amf _ _ _ _ _ _ h1 hd (by simp);exact q1.wipe q2
   ·cases hr
  ·rename_i hnq;split at hr
   ·rename_i R7;exact absurd (by rw[bC];exact⟨dz.2 fun o ho=>aEf (hs o ho),R7⟩) hnq
   ·cases hr
 unfold iF at hr;split at hr
 ·rcases amb hr with hr|⟨π,hp,hr⟩
  ·exact dq _ hs hd hr
  ·have hp':=al6 hp;have src:∀o∈permuted π ops.toList,∃o1∈ops.toList,o=xx π ops.toList.length o1:=fun o ho=>by
    obtain⟨j,hj,e⟩:=pK ho;have hjn:j<π.length:=by simpa [permuted]using hj
    obtain⟨o1,h1,h2⟩:=hp'.ops j _ (ct hjn);have h3:(permuted π ops.toList)[j]?=some o:=by rw[ct hj,e]
    have h4:=h3.symm.trans (by simpa using h2);exact⟨o1,gG (by simpa using h1),by simpa using f6 h4⟩
   refine dq _ (fun o ho=>?_) (fun o ho d hod=>?_) hr
   ·obtain⟨o1,h1,rfl⟩:=src o ho;exact hs o1 h1
   ·obtain⟨o1,h1,rfl⟩:=src o ho;exact hd o1 h1 d hod
 ·split at hr
  ·rename_i s1 wr h1;simp only[aD]at hr;subst hr;obtain⟨q1,q2⟩:=ame _ _ _ _ _ h1 hs hd (by simp);exact q1.wipe q2
  ·cases hr
theorem AG{cx:Cx K}:∀(c:Code),simple cx c=true->∀{R:Type}(st:St K)(k:Ex->St K->Option R)(r:R),fw cx c st k=some r->∃st',k .normal st'=some r/\Quiet st st' (writes c)
 |.skip,_,R,st,k,r,h=>⟨st,h,rfl,rfl,fun _ _=>rfl⟩
 |.region id ops draw,hs,R,st,k,r,h=>by
   simp only[fw]at h;have hs':∀o∈ops.toList,iO cx o.op=true:=by simpa only[simple,dz]using hs
   split at h
   ·rename_i st' hr;exact⟨st',h,L8 hs' hr⟩
   ·split at h
    ·rename_i b s1 s2 hsp;obtain⟨t,h1,h2⟩:=L1 _ hsp;cases b with
     |true=>exact⟨s1,h,L8 (cx:={cx with gs:=[(t,true)]}) (fun o ho=>by rw[Sm];exact hs' o ho) h1⟩
     |false=>exact⟨s2,h,L8 (cx:={cx with gs:=[(t,false)]}) (fun o ho=>by rw[Sm];exact hs' o ho) h2⟩
    ·rw[aE (dz.2 hs')]at h;split at h
     ·rename_i T hT;obtain⟨s,hq,hk⟩:=hQ.L2 _ (L6 (Q:=fun s'=>Quiet st s' (writes (.region id ops draw))) (fun gs s' hr=>L8 (cx:={cx with gs:=gs}) (fun o ho=>by rw[Sm];exact hs' o ho) hr) 4 [] T hT) h;exact⟨s,hk,hq⟩
     ·cases h
 |.seq a b,hs,R,st,k,r,h=>by
   simp only[simple,bC]at hs;simp only[fw]at h;obtain⟨s1,h1,q1⟩:=AG a hs.1 st _ r h;obtain⟨s2,h2,q2⟩:=AG b hs.2 s1 k r h1;exact⟨s2,h2,(q1.more fun d hd=>by simp[writes,hd]).trans (q2.more fun d hd=>by simp[writes,hd])⟩
 |.cond c a b,hs,R,st,k,r,h=>by
   have hs':=hs;simp only[simple,bC]at hs;simp only[fw]at h;split at h
   ·rename_i t ht;rw[aE (by simp[hs.1,hs.2])]at h;split at h
    ·rename_i sa sb ha hb;refine⟨_,h,?_⟩;obtain⟨s1,g1,q1⟩:=AG a hs.1 st _ sa ha;obtain⟨s2,g2,q2⟩:=AG b hs.2 st _ sb hb;simp only[Am,aD]at g1 g2;subst g1;subst g2;have hlen:∀(wr:List Nat)(l s t':List (AV K))(n:Nat),s.length=l.length->t'.length=l.length->(jm t wr n l s t').length=l.length:=fun wr l=>by
      induction l with
      |nil=>intro s t' n h1 h2;simp at h1 h2;subst h1;subst h2;rfl
      |cons x l ih=>
       intro s t' n h1 h2;cases s with
       |nil=>simp at h1
       |cons y s=>
        cases t' with
        |nil=>simp at h2
        |cons z t'=>
         simp only[jm,aO];rw[ih s t' (n+1) (by simpa using h1) (by simpa using h2)]
     have hget:∀(wr:List Nat)(l s t':List (AV K))(n i:Nat),s.length=l.length->t'.length=l.length->n+i∉wr->(jm t wr n l s t')[i]?=l[i]?:=fun wr l=>by
      induction l with
      |nil=>intro s t' n i h1 h2 _;simp at h1 h2;subst h1;subst h2;rfl
      |cons x l ih=>
       intro s t' n i h1 h2 hni;cases s with
       |nil=>simp at h1
       |cons y s=>
        cases t' with
        |nil=>simp at h2
        |cons z t'=>
         simp only[jm];cases i with
         |zero=>simp only[Nat.add_zero]at hni;simp[hni]
         |succ i=>
          simp only[List.getElem?_cons_succ];exact ih s t' (n+1) i (by simpa using h1) (by simpa using h2) (by rw[jY,Ff 1 i];exact hni)
     refine⟨rfl,hlen _ _ _ _ _ q1.len q2.len,fun i hi=>?_⟩;exact hget _ _ _ _ 0 i q1.len q2.len (by rw[dI];simpa [writes]using hi)
    ·cases h
   ·cases h
 |.block ..,hs,R,st,k,r,h=>by simp[simple]at hs
 |.loop ..,hs,R,st,k,r,h=>by simp[simple]at hs
 |.exit ..,hs,R,st,k,r,h=>by simp[simple]at hs
 |.ret,hs,R,st,k,r,h=>by simp[simple]at hs
 |.scope ..,hs,R,st,k,r,h=>by simp[simple]at hs
 |.rangeFunc ..,hs,R,st,k,r,h=>by simp[simple]at hs
 |.goto ..,hs,R,st,k,r,h=>by simp[simple]at hs
 |.label ..,hs,R,st,k,r,h=>by simp[simple]at hs
end Go.V
namespace Go.V
open Go
variable {K :db}{ρ ρ':List Value}{S S':Nat->Prop}{w w':World}{H H':List (Ob K)}
def bn(cx:Cx K)(c:Code)(L:bo K):Prop:=
 ∀(vals:List (AV K))(Hi:List (Ob K))(R:Type)(k:Ex->List (AV K)->List (Ob K)->Option R)(r:R),L.run vals Hi k=some r->
  ∃e vs Ho,k e vs Ho=some r/\Tr cx Hi.length (.loop c) ⟨ee (List.replicate L.n .any) L.ins vals,Hi,true⟩ e ⟨ee (List.replicate L.n .any) L.outs vs,Ho,true⟩
def gW(cx:Cx K):Code->Prop
 |.loop c=>∀L,cx.loop (keyOf c)=some L->bn cx c L
 |.seq a b=>gW cx a/\gW cx b
 |.cond _ a b=>gW cx a/\gW cx b
 |.block _ c=>gW cx c
 |_=>True
theorem aEk:∀(b:Bool)(x y:AV K),(merge b x y).jh=false:=by
 intro b x y;cases x<;>cases y<;>simp only[merge]<;>(try split)<;>rfl
theorem Sr{t:Bool}{wr:List Nat}:∀(l s s':List (AV K))(n i:Nat)(v:AV K),(jm t wr n l s s')[i]?=some v->
 (n+i∉wr/\l[i]?=some v)\/∃x y,s[i]?=some x/\s'[i]?=some y/\v=merge t x y
 |[],s,s',n,i,v,h=>by simp[jm]at h
 |x::l,[],s',n,i,v,h=>by simp[jm]at h
 |x::l,y::s,[],n,i,v,h=>by simp[jm]at h
 |x::l,y::s,z::s',n,0,v,h=>by
  simp only[jm,List.getElem?_cons_zero,aD]at h;subst h;by_cases hc:n∈wr
  ·exact .inr ⟨y,z,rfl,rfl,by simp[hc]⟩
  ·exact .inl ⟨hc,by simp[hc]⟩
 |x::l,y::s,z::s',n,i+1,v,h=>by
  simp only[jm,List.getElem?_cons_succ]at h;rcases Sr l s s' (n+1) i v h with⟨h1,h2⟩|⟨a,b,h1,h2,h3⟩
  ·exact .inl ⟨by rw[Ff i 1,<-jY];exact h1,by simpa using h2⟩
  ·exact .inr ⟨a,b,by simpa using h1,by simpa using h2,h3⟩
theorem amg{t:Bool}{wr:List Nat}:∀(l s s':List (AV K))(n:Nat),s.length=l.length->s'.length=l.length->(jm t wr n l s s').length=l.length
 |[],s,s',n,h1,h2=>by cases s<;>cases s'<;>simp[jm]
 |x::l,[],s',n,h1,h2=>by simp at h1
 |x::l,y::s,[],n,h1,h2=>by simp at h2
 |x::l,y::s,z::s',n,h1,h2=>by
  simp only[jm,aO];rw[amg l s s' (n+1) (by simpa using h1) (by simpa using h2)]
theorem eP.rep{D:bP K}{tm:List (AV K)}{tmps:Array Value}(h:eP D ρ S w tm tmps)(h0:dy tm){t:Nat}{v:AV K}{x:Value}(hv:tm[t]?=some v)(hx:tmps[t]?=some x):Rep D ρ S w v x:=by
 have:=h.ok t v x hv hx;cases v with
 |opt g b y=>exact absurd hv (h0 t g b y)
 |_=>exact this
theorem aEl{D:bP K}{t:Bool}{wr:List Nat}{l sa sb:List (AV K)}{tmps:Array Value}(hab:dy (cond t sa sb))(la:sa.length=l.length)(lb:sb.length=l.length)(ra:∀t,t∉wr->sa[t]?=l[t]?)(rb:∀t,t∉wr->sb[t]?=l[t]?)
 (h:eP D ρ S w (cond t sa sb) tmps):eP D ρ S w (jm t wr 0 l sa sb) tmps:=by
 refine⟨by rw[amg _ _ _ _ la lb,<-h.len];cases t<;>simp[la,lb],fun i v x hv hx=>?_⟩;rcases Sr l sa sb 0 i v hv with⟨h1,h2⟩|⟨a,b,h1,h2,rfl⟩
 ·rw[dI]at h1;refine .jV ?_;cases t
  ·exact h.rep hab (by rw[bN,rb i h1];exact h2) hx
  ·exact h.rep hab (by rw[aA,ra i h1];exact h2) hx
 ·refine .jV (ak3 (fun e=>?_) fun e=>?_)
  ·subst e;exact h.rep hab h1 hx
  ·subst e;exact h.rep hab h2 hx
theorem aEm{t:Bool}{wr:List Nat}{l sa sb:List (AV K)}(h0:dy l):dy (jm t wr 0 l sa sb):=fun i g b v e=>by
 rcases Sr l sa sb 0 i _ e with⟨-,h2⟩|⟨x,y,-,-,h3⟩
 ·exact h0 i g b v h2
 ·have:=aEk t x y;rw[<-h3]at this;simp[AV.jh]at this
theorem xM:∀(ds:List Nat)(vs tm:List (AV K)),(ee tm ds vs).length=tm.length
 |[],vs,tm=>by simp[ee]
 |d::r,[],tm=>by simp[ee]
 |d::r,v::vs,tm=>by simp only[ee];rw[xM r vs];simp
theorem AH:∀(ds:List Nat)(vs tm:List (AV K))(t:Nat)(v:AV K),(ee tm ds vs)[t]?=some v->tm[t]?=some v\/∃i:Nat,ds[i]?=some t/\vs[i]?=some v
 |[],vs,tm,t,v,h=>.inl (by simpa [ee]using h)
 |d::r,[],tm,t,v,h=>.inl (by simpa [ee]using h)
 |d::r,x::vs,tm,t,v,h=>by
  simp only[ee]at h;rcases AH r vs _ t v h with h1|⟨i,h1,h2⟩
  ·rcases ff h1 with⟨rfl,rfl,-⟩|⟨-,h1⟩
   ·exact .inr ⟨0,rfl,rfl⟩
   ·exact .inl h1
  ·exact .inr ⟨i+1,by simpa using h1,by simpa using h2⟩
theorem amh{p:AV K->AV K->Prop}:∀(ds:List Nat)(vs vs' tm tm':List (AV K)),vs.length=vs'.length->tm.length=tm'.length->(∀(i:Nat) v v',vs[i]?=some v->vs'[i]?=some v'->p v v')->(∀(t:Nat) v v',tm[t]?=some v->tm'[t]?=some v'->p v v')->
 ∀(t:Nat) v v',(ee tm ds vs)[t]?=some v->(ee tm' ds vs')[t]?=some v'->p v v'
 |[],vs,vs',tm,tm',h1,h2,h3,h4,t,v,v',g1,g2=>h4 t v v' (by simpa [ee]using g1) (by simpa [ee]using g2)
 |d::r,[],[],tm,tm',h1,h2,h3,h4,t,v,v',g1,g2=>h4 t v v' (by simpa [ee]using g1) (by simpa [ee]using g2)
 |d::r,[],_::_,tm,tm',h1,h2,h3,h4,t,v,v',g1,g2=>by simp at h1
 |d::r,_::_,[],tm,tm',h1,h2,h3,h4,t,v,v',g1,g2=>by simp at h1
 |d::r,x::vs,x'::vs',tm,tm',h1,h2,h3,h4,t,v,v',g1,g2=>by
  simp only[ee]at g1 g2;refine amh r vs vs' _ _ (by simpa using h1) (by simpa using h2) (fun i a b ha hb=>h3 (i+1) a b (by simpa using ha) (by simpa using hb)) (fun k a b ha hb=>?_) t v v' g1 g2;rcases ff ha with⟨rfl,rfl,-⟩|⟨hne,ha⟩
  ·rcases ff hb with⟨-,rfl,-⟩|⟨hne,-⟩
   ·exact h3 0 _ _ rfl rfl
   ·exact absurd rfl hne
  ·rcases ff hb with⟨rfl,-⟩|⟨-,hb⟩
   ·exact absurd rfl hne
   ·exact h4 k a b ha hb
theorem xN{f:Nat->Option Nat}:∀(l l':List (AV K)),ji f l=some l'->l'.length=l.length/\∀(i:Nat) v',l'[i]?=some v'->∃v,l[i]?=some v/\fe f v=some v'
 |[],l',h=>by simp[ji]at h;subst h;simp
 |x::l,l',h=>by
  simp only[ji]at h;split at h
  ·rename_i y m h1 h2;simp only[aD]at h;subst h;obtain⟨g1,g2⟩:=xN l m h2;refine⟨by simp[g1],fun i v' hi=>?_⟩;cases i with
   |zero=>simp at hi;subst hi;exact⟨x,rfl,h1⟩
   |succ i=>simp at hi;obtain⟨v,q1,q2⟩:=g2 i v' hi;exact⟨v,by simpa using q1,q2⟩
  ·cases h
theorem aEn{f:Nat->Option Nat}{v v':AV K}(h:fe f v=some v'):v'.jh=false:=by
 cases v<;>simp only[fe,eN,aD]at h<;>first
  |(subst h;rfl)
  |(obtain⟨a,-,rfl⟩:=h;rfl)
  |cases h
theorem ami{n:Nat}{ds:List Nat}{l l':List (AV K)}{f:Nat->Option Nat}(h:ji f l=some l'):dy (ee (List.replicate n .any) ds l'):=fun t g b v e=>by
 rcases AH ds l' _ t _ e with h1|⟨i,-,h2⟩
 ·rw[mo]at h1;split at h1<;>cases h1
 ·obtain⟨v0,-,q⟩:=(xN l l' h).2 i _ h2;have:=aEn q;simp[AV.jh]at this
theorem Ss{D:bP K}{n:Nat}{ds:List Nat}{vs:List (AV K)}{tmps:Array Value}(hn:tmps.size=n)(h:∀(i t:Nat) v x,ds[i]?=some t->vs[i]?=some v->tmps[t]?=some x->Rep D ρ S w v x):eP D ρ S w (ee (List.replicate n .any) ds vs) tmps:=
 ⟨by rw[xM];simp[hn],fun t v x hv hx=>.jV (by
   rcases AH ds vs _ t v hv with h1|⟨i,h1,h2⟩
   ·rw[mo]at h1;split at h1
    ·simp at h1;subst h1;exact .any x
    ·cases h1
   ·exact h i t v x h1 h2 hx)⟩
theorem amj{cx:Cx K}(hD:bW cx.D){c:Code}{L:bo K}{n0:Nat}{st st':St K}{m:List Nat}{vals vs:List (AV K)}{Hi Ho:List (Ob K)}{e:Ex}(hn:st.tm.length=L.n)(h0:dy st.tm)
 (hin:inLoop st.H (L.ins.map fun t=>st.tm.getD t .any)=some (m,vals,Hi)) (hout:Ln L m st vs Ho=some st')
 (htr:Tr cx Hi.length (.loop c) ⟨ee (List.replicate L.n .any) L.ins vals,Hi,true⟩ e ⟨ee (List.replicate L.n .any) L.outs vs,Ho,true⟩):dy st'.tm/\Tr cx n0 (.loop c) st e st':=by
 unfold inLoop at hin;split at hin
 ·rename_i hp;split at hin
  ·rename_i kF Hi' hv hH;simp only[aD,bj]at hin;obtain⟨rfl,rfl,rfl⟩:=hin;unfold Ln at hout;split at hout
   ·rename_i vs' hC hvs Rf;split at hout
    ·rename_i hle;simp only[aD]at hout;subst hout;refine⟨ami hvs,fun ρ S a w hn0 bS=>?_⟩;obtain⟨s1,s2,s3,s4⟩:=ak7 hD bS.heap hp hH;have hrs:=Q9 (ρ:=ρ) (m:=reach st.H 64 (cJ (L.ins.map fun t=>st.tm.getD t .any)) []) (fun i h hi=>by rw[bS.heap.len];exact(FX _ hp).1 i h hi);have hsize:a.tmps.size=L.n:=by rw[<-hn,bS.slots.len]
     have fh:Sat cx (uy ρ (reach st.H 64 (cJ (L.ins.map fun t=>st.tm.getD t .any)) [])) S a w ⟨ee (List.replicate L.n .any) L.ins kF,Hi',true⟩:=⟨s1,Ss hsize fun i t v x g1 g2 g3=>by
      obtain⟨v0,q1,q2⟩:=(xN _ _ hv).2 i v g2;simp only[f5,g1,pM,aD]at q1;subst q1;refine uw hD s4 _ v x q2 ?_;rw[dG];cases hg:st.tm[t]? with
      |none=>exact .any x
      |some v1=>exact bS.slots.rep h0 hg g3,bS.defers⟩
     refine wp_mono (htr _ S a w (bY _) fh) fun e' a' w'=>?_
     rintro ⟨he,aEp,ρo,So,hso,hst⟩
     obtain⟨j1,j2,j3⟩:=join hD bS.heap hp hrs s2 s3 s1 hso.heap hst aEp Rf;refine⟨he,?_,_,So,⟨j1,?_,hso.defers⟩,j2.weaken hn0⟩
     ·have:=j2.grow bS.heap j1 (bY _);dsimp only at this⊢;omega
     ·refine⟨by rw[xM];have:=hso.slots.len;rw[xM]at this;exact this,fun t v x hv' hx=>?_⟩;have hlt:t<(ee (List.replicate L.n .any) L.outs vs).length:=by
       have:=(cz.1 hv').1;rw[xM]at this⊢;exact this
      have hg:=ct hlt;have hrep:eF cx.D ρo So w' a'.tmps _ x:=hso.slots.ok t _ x hg hx;have hrel:=amh (p:=fun v v'=>v'=.any\/fe (fun h=>(gJ (reach st.H 64 (cJ (L.ins.map fun t=>st.tm.getD t .any)) []) st.H.length Ho.length)[h]?) v=some v') L.outs vs vs' (List.replicate L.n .any) (List.replicate L.n .any)
       (xN _ _ hvs).1.symm rfl (fun i v v' h1 h2=>by
         obtain⟨v0,q1,q2⟩:=(xN _ _ hvs).2 i v' h2;rw[h1]at q1;simp at q1;subst q1;exact .inr q2) (fun t v v' h1 h2=>by
         rw[mo]at h2;split at h2
         ·simp at h2;exact .inl h2.symm
         ·cases h2) t _ v hg hv'
      rcases hrel with rfl|hrel
      ·exact .jV (.any x)
      ·refine .jV (uw hD j3 _ v x hrel ?_);generalize (ee (List.replicate L.n .any) L.outs vs)[t]=y at hrep hrel;cases y with
       |opt=>simp[fe]at hrel
       |_=>exact hrep
    ·cases hout
   ·cases hout
  ·cases hin
 ·cases hin
theorem qb{cx:Cx K}(hD:bW cx.D)(hc:aJ cx)(hm:cx.P.follows .mixedOrders=true):∀(c:Code),gW cx c->∀{R:Type}(st:St K)(k:Ex->St K->Option R)(r:R),fw cx c st k=some r->
 ∃e st',k e st'=some r/\(st'.ok=true->st.ok=true)/\(st'.ok=true->dy st.tm->dy st'.tm/\∀n0,Tr cx n0 c st e st')
 |.skip,_,R,st,k,r,h=>⟨.normal,st,h,id,fun _ h0=>⟨h0,fun n0 ρ S a w hn bS=>wp_skip ⟨rfl,hn,ρ,S,bS,Step.refl⟩⟩⟩
 |.exit id,_,R,st,k,r,h=>⟨.exit id,st,h,fun h=>h,fun _ h0=>⟨h0,fun n0 ρ S a w hn bS=>wp_exit ⟨rfl,hn,ρ,S,bS,Step.refl⟩⟩⟩
 |.ret,_,R,st,k,r,h=>⟨.ret,st,h,fun h=>h,fun _ h0=>⟨h0,fun n0 ρ S a w hn bS=>wp_ret ⟨rfl,hn,ρ,S,bS,Step.refl⟩⟩⟩
 |.region id ops draw,_,R,st,k,r,h=>by
   simp only[fw]at h;split at h
   ·rename_i st' hr;have:=fun n0=>AE (id:=id) (n0:=n0) hD hc hm hr
    exact⟨.normal,st',h,(this 0).1,fun hok h0=>⟨((this 0).2 hok h0).1,fun n0=>((this n0).2 hok h0).2⟩⟩
   ·split at h
    ·rename_i b s1 s2 hsp;obtain⟨t,h1,h2⟩:=L1 _ hsp;have key:∀(x:Bool)(s':St K),iF {cx with gs:=[(t,x)]} ops.toList draw st=some s'->k .normal s'=some r->
      ∃e st',k e st'=some r/\(st'.ok=true->st.ok=true)/\(st'.ok=true->dy st.tm->dy st'.tm/\∀n0,Tr cx n0 (.region id ops draw) st e st'):=fun x s' hr hk=>by
      have:=fun n0=>AE (cx:={cx with gs:=[(t,x)]}) (id:=id) (n0:=n0) hD hc hm hr
      exact⟨.normal,s',hk,(this 0).1,fun hok h0=>⟨((this 0).2 hok h0).1,fun n0=>(((this n0).2 hok h0).2).gs⟩⟩
     cases b with
     |true=>exact key true s1 h1 h
     |false=>exact key false s2 h2 h
    ·split at h
     ·split at h
      ·rename_i T hT;obtain⟨s,⟨hq1,hq2⟩,hk⟩:=hQ.L2 (Q:=fun s'=>(s'.ok=true->st.ok=true)/\(s'.ok=true->dy st.tm->dy s'.tm/\∀n0,Tr cx n0 (.region id ops draw) st .normal s')) _ (L6 (fun gs s' hr=>by
        have:=fun n0=>AE (cx:={cx with gs:=gs}) (id:=id) (n0:=n0) hD hc hm hr
        exact⟨(this 0).1,fun hok h0=>⟨((this 0).2 hok h0).1,fun n0=>(((this n0).2 hok h0).2).gs⟩⟩) 4 [] T hT) h
       exact⟨.normal,s,hk,hq1,hq2⟩
      ·cases h
     ·split at h
      ·rename_i s1 s2 h1 h2;have key:∀(x:Bool)(s':St K),iF {cx with call:=cx.alt x,mode:=cx.rh x} ops.toList draw st=some s'->k .normal s'=some r->
        ∃e st',k e st'=some r/\(st'.ok=true->st.ok=true)/\(st'.ok=true->dy st.tm->dy st'.tm/\∀n0,Tr cx n0 (.region id ops draw) st e st'):=fun x s' hr hk=>by
        have:=fun n0=>AE (cx:={cx with call:=cx.alt x,mode:=cx.rh x}) (id:=id) (n0:=n0) hD ⟨hc.2.1 x,hc.2⟩ hm hr
        exact⟨.normal,s',hk,(this 0).1,fun hok h0=>⟨((this 0).2 hok h0).1,fun n0=>(((this n0).2 hok h0).2).call⟩⟩
       rcases hc.2.2 _ _ _ _ h with h|h
       ·exact key true s1 h1 h
       ·exact key false s2 h2 h
      ·split at h
       ·rename_i T hT;obtain⟨s,⟨hq1,hq2⟩,hk⟩:=hQ.Sj (cx:=cx) (Q:=fun s'=>(s'.ok=true->st.ok=true)/\(s'.ok=true->dy st.tm->dy s'.tm/\∀n0,Tr cx n0 (.region id ops draw) st .normal s')) (fun a b r h=>hc.2.2 _ _ _ _ h) _ (Sl (fun gs s' hr=>by
         have:=fun n0=>AE (cx:={cx with gs:=gs}) (id:=id) (n0:=n0) hD hc hm hr
         exact⟨(this 0).1,fun hok h0=>⟨((this 0).2 hok h0).1,fun n0=>(((this n0).2 hok h0).2).gs⟩⟩) (fun x gs s' hr=>by
         have:=fun n0=>AE (cx:={cx with call:=cx.alt x,mode:=cx.rh x,gs:=gs}) (id:=id) (n0:=n0) hD ⟨hc.2.1 x,hc.2⟩ hm hr
         exact⟨(this 0).1,fun hok h0=>⟨((this 0).2 hok h0).1,fun n0=>Tr.call (Tr.gs (cx:={cx with call:=cx.alt x,mode:=cx.rh x}) (((this n0).2 hok h0).2))⟩⟩) 4 [] T hT) h
        exact⟨.normal,s,hk,hq1,hq2⟩
       ·cases h
 |.seq a b,hl,R,st,k,r,h=>by
   simp only[fw]at h;obtain⟨e1,s1,h1,ok1,t1⟩:=qb hD hc hm a hl.1 st _ r h;cases e1 with
   |normal=>
    obtain⟨e2,s2,h2,ok2,t2⟩:=qb hD hc hm b hl.2 s1 k r h1;refine⟨e2,s2,h2,fun hk=>ok1 (ok2 hk),fun hk h0=>?_⟩;obtain⟨n1,q1⟩:=t1 (ok2 hk) h0;obtain⟨n2,q2⟩:=t2 hk n1;refine⟨n2,fun n0 ρ S a' w hn bS=>wp_seq (wp_mono (q1 n0 ρ S a' w hn bS) ?_)⟩
    rintro e a2 w2 ⟨rfl,hn1,ρ1,S1,fh,hst1⟩
    refine wp_mono (q2 n0 ρ1 S1 a2 w2 hn1 fh) ?_
    rintro e a3 w3 ⟨rfl,hn2,ρ2,S2,Gg,hst2⟩
    exact⟨rfl,hn2,ρ2,S2,Gg,hst1.trans hst2⟩
   |exit id=>
    refine⟨.exit id,s1,h1,ok1,fun hk h0=>⟨(t1 hk h0).1,fun n0 ρ S a' w hn bS=>wp_seq (wp_mono ((t1 hk h0).2 n0 ρ S a' w hn bS) ?_)⟩⟩
    rintro e a2 w2 ⟨rfl,q⟩
    exact⟨rfl,q⟩
   |ret=>
    refine⟨.ret,s1,h1,ok1,fun hk h0=>⟨(t1 hk h0).1,fun n0 ρ S a' w hn bS=>wp_seq (wp_mono ((t1 hk h0).2 n0 ρ S a' w hn bS) ?_)⟩⟩
    rintro e a2 w2 ⟨rfl,q⟩
    exact⟨rfl,q⟩
 |.cond c a b,hl,R,st,k,r,h=>by
   simp only[fw]at h;split at h
   ·rename_i t ht;have hev:∀{ρ S a' w},Sat cx ρ S a' w st->a'.eval c=.bool t:=fun{ρ S a' w} bS=>by
     have:=LK bS.slots (gs:=[]) (fun p hp=>by simp at hp) c;rw[ht]at this;generalize a'.eval c=y at this;cases this;rfl
    split at h
    ·rename_i hs;simp only[bC]at hs;split at h
     ·rename_i sa sb ha hb;obtain⟨s1,g1,q1⟩:=AG a hs.1 st _ sa ha;obtain⟨s2,g2,q2⟩:=AG b hs.2 st _ sb hb;simp only[Am,aD]at g1 g2;subst g1;subst g2;obtain⟨e1,s1',c1,ok1,t1⟩:=qb hD hc hm a hl.1 st _ s1 ha;obtain⟨e2,s2',c2,ok2,t2⟩:=qb hD hc hm b hl.2 st _ s2 hb;cases e1<;>simp only[Am,aD]at c1<;>try cases c1
      cases e2<;>simp only[Am,aD]at c2<;>try cases c2
      have hks:∀{x y:Bool},((x|| !t)&&(y||t))=true->(t=true->x=true)/\(t=false->y=true):=fun{x y} hk=>by
       cases t<;>simpa using hk
      refine⟨.normal,_,h,fun hk=>?_,fun hk h0=>⟨aEm h0,fun n0 ρ S a' w hn bS=>wp_cond (hev bS) ?_⟩⟩
      ·cases ht':t
       ·exact ok2 ((hks hk).2 ht')
       ·exact ok1 ((hks hk).1 ht')
      ·have fin:∀e' a' w',(e'=Ex.normal.nE/\n0<=(cond t s1 s2).H.length/\∃ρ' S',Sat cx ρ' S' a' w' (cond t s1 s2)/\Step cx.D n0 ρ S st.H w ρ' S' (cond t s1 s2).H w')->dy (cond t s1.tm s2.tm)->
        (e'=Ex.normal.nE/\n0<=st.H.length/\∃ρ' S',Sat cx ρ' S' a' w' ⟨jm t (writes a++writes b) 0 st.tm s1.tm s2.tm,st.H,(s1.ok|| !t)&&(s2.ok||t)⟩/\Step cx.D n0 ρ S st.H w ρ' S' st.H w'):=by
        rintro e' a2 w2 ⟨he,hn1,ρ1,S1,fh,hst1⟩ hno
        have hH:(cond t s1 s2).H=st.H:=by cases t;exact q2.H;exact q1.H
        rw[hH]at hn1 hst1;refine⟨he,hn1,ρ1,S1,⟨by have:=fh.heap;rw[hH]at this;exact this,?_,fh.defers⟩,hst1⟩;exact aEl hno q1.len q2.len (fun i hi=>q1.rest i fun h'=>hi (by simp[h'])) (fun i hi=>q2.rest i fun h'=>hi (by simp[h'])) (by have:=fh.slots;cases t<;>exact this)
       cases ht':t<;>rw[ht']at fin
       ·obtain⟨n2,r2⟩:=t2 ((hks hk).2 ht') h0;exact wp_mono (r2 n0 ρ S a' w hn bS) fun e' a2 w2 q=>fin e' a2 w2 q n2
       ·obtain⟨n1,r1⟩:=t1 ((hks hk).1 ht') h0;exact wp_mono (r1 n0 ρ S a' w hn bS) fun e' a2 w2 q=>fin e' a2 w2 q n1
     ·cases h
    ·cases t
     ·obtain⟨e,s,h1,ok1,t1⟩:=qb hD hc hm b hl.2 st k r h;exact⟨e,s,h1,ok1,fun hk h0=>⟨(t1 hk h0).1,fun n0 ρ S a' w hn bS=>wp_cond (hev bS) ((t1 hk h0).2 n0 ρ S a' w hn bS)⟩⟩
     ·obtain⟨e,s,h1,ok1,t1⟩:=qb hD hc hm a hl.1 st k r h;exact⟨e,s,h1,ok1,fun hk h0=>⟨(t1 hk h0).1,fun n0 ρ S a' w hn bS=>wp_cond (hev bS) ((t1 hk h0).2 n0 ρ S a' w hn bS)⟩⟩
   ·cases h
 |.block id c,hl,R,st,k,r,h=>by
   simp only[fw]at h;obtain⟨e1,s1,h1,ok1,t1⟩:=qb hD hc hm c hl st _ r h;cases e1 with
   |normal=>
    refine⟨.normal,s1,h1,ok1,fun hk h0=>⟨(t1 hk h0).1,fun n0 ρ S a' w hn bS=>wp_block (wp_mono ((t1 hk h0).2 n0 ρ S a' w hn bS) ?_)⟩⟩
    rintro e a2 w2 ⟨rfl,q⟩
    exact⟨rfl,q⟩
   |ret=>
    refine⟨.ret,s1,h1,ok1,fun hk h0=>⟨(t1 hk h0).1,fun n0 ρ S a' w hn bS=>wp_block (wp_mono ((t1 hk h0).2 n0 ρ S a' w hn bS) ?_)⟩⟩
    rintro e a2 w2 ⟨rfl,q⟩
    exact⟨rfl,q⟩
   |exit i=>
    dsimp only at h1;split at h1
    ·rename_i hid;refine⟨.normal,s1,h1,ok1,fun hk h0=>⟨(t1 hk h0).1,fun n0 ρ S a' w hn bS=>wp_block (wp_mono ((t1 hk h0).2 n0 ρ S a' w hn bS) ?_)⟩⟩
     rintro e a2 w2 ⟨rfl,q⟩
     subst hid;show(if i=i then _ else _)
     rw[aE rfl];exact⟨rfl,q⟩
    ·rename_i hid;refine⟨.exit i,s1,h1,ok1,fun hk h0=>⟨(t1 hk h0).1,fun n0 ρ S a' w hn bS=>wp_block (wp_mono ((t1 hk h0).2 n0 ρ S a' w hn bS) ?_)⟩⟩
     rintro e a2 w2 ⟨rfl,q⟩
     show(if i=id then _ else _)
     rw[av hid];exact⟨rfl,q⟩
 |.loop c,hl,R,st,k,r,h=>by
   simp only[fw]at h;split at h
   ·rename_i L hL;split at h
    ·rename_i hn;split at h
     ·rename_i m vals Hi hin;obtain⟨e,vs,Ho,h1,htr⟩:=hl L hL vals Hi R _ r h;split at h1
      ·rename_i st' hout;refine⟨e,st',h1,?_,fun hk h0=>?_⟩
       ·unfold Ln at hout;split at hout
        ·split at hout
         ·simp only[aD]at hout;subst hout;exact id
         ·cases hout
        ·cases hout
       ·exact⟨(amj (n0:=0) hD hn h0 hin hout htr).1,fun n0=>(amj (n0:=n0) hD hn h0 hin hout htr).2⟩
      ·cases h1
     ·cases h
    ·cases h
   ·cases h
 |.scope ..,_,R,st,k,r,h=>by simp[fw]at h
 |.rangeFunc ..,_,R,st,k,r,h=>by simp[fw]at h
 |.goto ..,_,R,st,k,r,h=>by simp[fw]at h
 |.label ..,_,R,st,k,r,h=>by simp[fw]at h
 |.refuse ..,_,R,st,k,r,h=>by simp[fw]at h
end Go.V
