/-
  ONE OPERATION IN ITS FRAME; A REGION IN THE ORDER OF THE TEXT.
-/
import Derived.Test.YtadnfbiaknpllaaGreatDoorXWgB
set_option linter.unusedVariables false
namespace Go.V
open Go
variable {K :di}{ρ ρ':List Value}{S S':Nat->Prop}{w w':World}{H H':List (Ob K)}
theorem JO{D:bC K}{P:Program}{o:Oper}{a:Act}{v:AV K}(h:Does D P ρ S H w (execOp a.eval o) v H'){k:Act->World->Prop}{Q:Exit->Act->World->Prop}
 (hk:∀u ρ' S' w',aM D ρ' S' w' H'->Rep D ρ' S' w' v u->Step D H.length ρ S H w ρ' S' H' w'->k (a.put o.dst u) w'):o.wp P a w k Q:=by
 obtain⟨n,u,w',ρ',h1,h2,h3,h4,h5⟩:=h;unfold Oper.wp;rw[h1];rcases h2 with rfl|⟨rfl,rfl⟩
 ·exact hk u ρ' S w' h3 h4 h5
 ·exact hk _ ρ' S w' h3 h4 h5
theorem JP{q:Bool}{cx:Cx K}(hD:bT cx.D)(hc:aY cx)(hs:aM cx.D ρ S w H){a:Act}{tm:List (AV K)}(hsl:fq cx.D ρ S w tm a.tmps){gs:List (Nat×Bool)}(hg:∀p∈gs,a.tmps[p.1]?=some (.bool p.2)){o:Oper}{v:AV K}{c:Bool}{t:List Nat}
 (h:lV q cx tm gs H o.type o.op=some (v,H',c,t)) (hc1:c=true) {k:Act->World->Prop} {Q:Exit->Act->World->Prop}
 (hk:∀u ρ' S' w',aM cx.D ρ' S' w' H'->Rep cx.D ρ' S' w' v u->Step cx.D H.length ρ S H w ρ' S' H' w'->k (a.put o.dst u) w'):o.wp cx.P a w k Q:=by
 have hev:=Ed hsl hg;unfold lV at h;split at h
 ·
  rename_i cnd x y hop;have key:∀(b:Bool)(gx gy:List (Nat×Bool)),a.eval cnd=.bool b->(b=true->∀p∈gx,a.tmps[p.1]?=some (.bool p.2))->(b=false->∀p∈gy,a.tmps[p.1]?=some (.bool p.2))->v=merge b (dT tm gx x) (dT tm gy y)->H'=H->o.wp cx.P a w k Q:=by
   intro b gx gy hb h1 h2 hv hH;subst hH;unfold Oper.wp execOp;rw[hop];dsimp only;have:(do pure (.value (if<-asBool (a.eval cnd)then a.eval x else a.eval y)):Sem Next).run cx.P w=.ok (.value (if b then a.eval x else a.eval y)) w:=by rw[hb];simp[asBool]
   rw[this];refine hk _ ρ S w hs ?_ Step.refl;rw[hv];refine PL (fun e=>?_) (fun e=>?_)
   ·subst e;exact Ed hsl (h1 rfl) x
   ·subst e;exact Ed hsl (h2 rfl) y
  split at h
  ·rename_i tt b hcv;have hb:=hev (.tmp tt);rw[hcv]at hb;have hb':=lB hb;split at h
   ·rename_i b0 _;simp only[aw,aP]at h;obtain⟨hv,hH,hcc,-⟩:=h;rw[hc1]at hcc;have hbb:b=b0:=by simpa using hcc
    subst hbb;subst hH;unfold Oper.wp execOp;rw[hop];dsimp only;have:(do pure (.value (if<-asBool (a.eval (.tmp tt))then a.eval x else a.eval y)):Sem Next).run cx.P w=.ok (.value (if b then a.eval x else a.eval y)) w:=by rw[hb'];simp[asBool]
    rw[this];refine hk _ ρ S w hs ?_ Step.refl;rw[<-hv];cases b
    ·exact hev y
    ·exact hev x
   simp only[aw,aP]at h;obtain⟨hv,hH,-,-⟩:=h;have hget:a.tmps[tt]?=some (.bool b):=by
    simp only[Act.eval,ou]at hb';cases hh:a.tmps[tt]? with
    |none=>rw[hh]at hb';simp[undef]at hb'
    |some z=>rw[hh]at hb';simp at hb';rw[hb']
   exact key b _ _ hb' (fun e p hp=>by subst e;rcases fe.1 hp with rfl|hp;exact hget;exact hg p hp) (fun e p hp=>by subst e;rcases fe.1 hp with rfl|hp;exact hget;exact hg p hp) hv.symm hH.symm
  ·rename_i cv b hcv;simp only[aw,aP]at h;obtain⟨hv,hH,-,-⟩:=h;have hb:=hev (.const cv);rw[hcv]at hb;exact key b _ _ (lB hb) (fun _=>hg) (fun _=>hg) hv.symm hH.symm
  ·cases h
 ·
  rename_i f args ats hop;have hf:=hev f;split at h
  ·rename_i g caps hfv;have hcall:=h;rw[hc1]at hcall
   ·skip
    rw[hfv]at hf;generalize hF:a.eval f=F at hf;cases hf with
    |fn hl hr=>
     rename_i cs;have hargs:=(O8 (fun x=>pV hs _ _ (hev x)) args.toList).append (⟨hl,hr⟩:bc cx.D ρ S w caps cs);obtain⟨⟨fn,hfn,hname,hbody⟩,mL⟩:=aez hD hc hs hcall hargs;unfold Oper.wp execOp;rw[hop];dsimp only;have hrun:(do let d<-resolve a.eval {callee:=.value f,args:=args,argTypes:=ats} o.type;invoke d.target d.args:Sem Next).run cx.P w=.ok (.enter g (args.toList.map a.eval++cs).toArray) w:=by
      simp only[resolve,hF,Deferred.ofValue,Sem.run_bind,Sem.run_pure,Result.andThen_ok,invoke,callFunc,run_program];rw[hfn];simp only[hname,hbody,kB,lS,Sem.run_pure];congr 2;apply Array.ext';simp
     rw[hrun,Oper.upon_enter];refine mL.mono ?_
     rintro e w' ⟨u,ρ',S',rfl,h1,h2,h3⟩
     exact hk u ρ' S' w' h1 h2 h3
  ·cases h
 ·
  rename_i x hop;have hrun:∀(v':AV K),Rep cx.D ρ S w v' (a.eval x)->v=v'->H'=H->o.wp cx.P a w k Q:=fun v' h1 h2 h3=>by
   subst h2;subst h3;unfold Oper.wp execOp;rw[hop];exact hk _ ρ S w hs h1 Step.refl
  split at h
  ·rename_i hq;split at h
   ·split at h
    ·rename_i c _;simp only[aw,aP]at h;obtain⟨rfl,rfl,rfl,rfl⟩:=h;simp only[bu]at hq;have hx:x=.const (.slice none 0 0):=by
      have:=hq.2;unfold I0 at this;split at this
      ·rfl
      ·cases this
     obtain⟨n1,n2⟩:=OR hs c (cx.deep c);unfold Oper.wp execOp;rw[hop,hx];exact hk _ _ S w n1 (.sl (by rw[eZ (by rw[hs.len];exact cq _)];simp[hs.len])) n2
    ·simp only[aw,aP]at h;exact hrun _ (hev x) h.1.symm h.2.1.symm
   ·simp only[aw,aP]at h;exact hrun _ (hev x) h.1.symm h.2.1.symm
  ·simp only[aw,aP]at h;exact hrun _ (pV hs _ _ (hev x)) h.1.symm h.2.1.symm
 ·split at h
  ·rename_i v1 c1 hp;simp only[aw,aP]at h;obtain⟨rfl,rfl,rfl,rfl⟩:=h;obtain⟨u,hu,hr⟩:=O9 hD hs (fun x=>pV hs _ _ (hev x)) hp hc1;unfold Oper.wp;rw[hu];exact hk u ρ S w hs hr Step.refl
  ·split at h
   ·obtain⟨rfl,u,w1,S1,g1,g2,g3,g4⟩:=aef hD hs (fun x=>pV hs _ _ (hev x)) h hc1;unfold Oper.wp;rw[g1];exact hk u ρ S1 w1 g2 g3 g4
   ·split at h
    ·cases h
    split at h
    ·rename_i hov;simp only[aw]at h;rw[h]at hov;exact JO (aey hD hs hev hov) fun u ρ' S' w' a1 a2 a3=>hk u ρ' S' w' a1 a2 a3
    split at h
    ·rename_i hct;simp only[aw]at h;rw[h]at hct;exact JO (aee hs hev hct hc1) fun u ρ' S' w' a1 a2 a3=>hk u ρ' S' w' a1 a2 a3
    ·obtain⟨S1,H1,g1,g2,g3⟩:=aex hD hs hev h hc1;refine JO g3 fun u ρ' S' w' a1 a2 a3=>hk u ρ' S' w' a1 a2 ?_
     rw[g2]at a3;exact g1.trans a3
theorem JQ{cx:Cx K}{f:FuncId}{args:List (AV K)}{v:AV K}{c:Bool}{t:List Nat}(hcall:lU cx .plain H f args=some (v,H',c,t)):H'=H:=by
 unfold lU at hcall;dsimp only at hcall;split at hcall
 ·split at hcall
  ·split at hcall
   ·simp only[aw,aP]at hcall;exact hcall.2.1.symm
   ·cases hcall
  ·cases hcall
 ·cases hcall
theorem aeA{cx:Cx K}{ev:Operand->AV K}{op:Op}{v:AV K}{c:Bool}{t:List Nat}(h:zY cx ev H op=some (v,H',c,t)):H'=H:=by
 unfold zY at h;split at h
 ·split at h
  ·cases h
  ·split at h
   ·split at h
    ·split at h
     ·simp only[aw,aP]at h;exact h.2.1.symm
     ·cases h
    ·cases h
   ·cases h
 ·cases h
theorem xP{cx:Cx K}{tm:List (AV K)}{gs:List (Nat×Bool)}{T:TypeId}{op:Op}{v:AV K}{c:Bool}{t:List Nat}(h:lV true cx tm gs H T op=some (v,H',c,t)):H'=H:=by
 unfold lV at h;split at h
 ·split at h
  ·split at h
   ·simp only[aw,aP]at h;exact h.2.1.symm
   ·simp only[aw,aP]at h;exact h.2.1.symm
  ·simp only[aw,aP]at h;exact h.2.1.symm
  ·cases h
 ·split at h
  ·unfold xt at h;simp only[bV,Bool.and_false,kB,lS]at h;unfold rh at h;split at h
   ·exact JQ h
   ·split at h
    ·rename_i r hr;simp only[aw]at h;subst h;exact JQ hr
    ·simp at h
   all_goals simp at h
  ·cases h
 ·simp only[bV,cK,kB,lS,aw,aP]at h;exact h.2.1.symm
 ·split at h
  ·simp only[aw,aP]at h;exact h.2.1.symm
  ·simp only[Dx]at h;exact aeA h
theorem P7{q:Bool}{cx:Cx K}{tm:List (AV K)}{gs:List (Nat×Bool)}{T:TypeId}{op:Op}{v:AV K}{c:Bool}{t:List Nat}(hs:jr cx op=true)(h:lV q cx tm gs H T op=some (v,H',c,t)):H'=H:=by
 cases q with
 |true=>exact xP h
 |false=>
 unfold lV at h;split at h
 ·split at h
  ·split at h
   ·simp only[aw,aP]at h;exact h.2.1.symm
   ·simp only[aw,aP]at h;exact h.2.1.symm
  ·simp only[aw,aP]at h;exact h.2.1.symm
  ·cases h
 ·rename_i f args ats;cases f<;>simp only[jr]at hs<;>try (cases hs;done)
  rename_i g;simp only[dT]at h;have hm:cx.mode g=.plain/\(cx.opn=false\/cx.lz=true):=by simpa using hs
  unfold xt at h;have JR:(cx.opn&& !cx.lz&& !false)=false:=by rcases hm.2 with e|e<;>simp[e]
  rw[JR]at h;simp only[kB,lS]at h
  replace hm:=hm.1
  unfold rh at h;rw[hm]at h;exact JQ h
 ·simp only[jr,fb]at hs;rw[hs]at h;simp only[Bool.and_false,kB,lS,aw,aP]at h;exact h.2.1.symm
 ·split at h
  ·simp only[aw,aP]at h;exact h.2.1.symm
  ·rw[hs]at h;simp at h
end Go.V
namespace Go.V
open Go
variable {K :di}{ρ ρ':List Value}{S S':Nat->Prop}{w w':World}{H H':List (Ob K)}
theorem Em{ops:List Oper}{o:Oper}{tmps:Array Value}{g:Nat}{wt:Bool}(h:guardOf ops o=some (some (g,wt))):
 Region.wanted o (yielded ops.toArray tmps)=true↔tmps[g]?=some (.bool wt):=by
 unfold guardOf at h;split at h
 ·cases h
 ·rename_i j w1 hgd;split at h
  ·rename_i og hog;split at h
   ·rename_i t ht;simp only[aw,aP]at h;obtain⟨rfl,rfl⟩:=h;have aeB:ops.toArray[j]?=some og:=by simpa using hog
    simp only[Region.wanted,hgd,yielded,aeB,Option.bind_some,ht];cases hv:tmps[t]? with
    |none=>simp
    |some z=>cases z<;>simp
   ·cases h
  ·cases h
theorem aeC{ops:List Oper}{o:Oper}{y:Nat->Option Bool}(h:guardOf ops o=some none):Region.wanted o y=true:=by
 unfold guardOf at h;split at h
 ·rename_i hg;simp[Region.wanted,hg]
 ·split at h
  ·split at h<;>cases h
  ·cases h
theorem JS{q:Bool}{cx:Cx K}(hD:bT cx.D)(hc:aY cx)(hs:aM cx.D ρ S w H){a:Act}{tm:List (AV K)}(hsl:fq cx.D ρ S w tm a.tmps){ops:List Oper}{wr:List Nat}{o:Oper}{v:AV K}{c:Bool}
 (h:jd q cx ops tm H wr o=some (v,H',c)) (hc1:c=true) {k:Act->World->Prop} {Q:Exit->Act->World->Prop}
 (hk:∀u ρ' S' w',aM cx.D ρ' S' w' H'->eV cx.D ρ' S' w' a.tmps v u->Step cx.D H.length ρ S H w ρ' S' H' w'->k (a.put o.dst u) w'):
 if Region.wanted o (yielded ops.toArray a.tmps)then o.wp cx.P a w k Q else k (a.put o.dst undef) w:=by
 unfold jd at h;split at h
 ·cases h
 ·rename_i hgd;rw[bf (aeC hgd)];split at h
  ·rename_i v1 H1 c1 t1 hy;split at h
   ·cases h
   simp only[aw,aP]at h;obtain⟨rfl,rfl,rfl⟩:=h;exact JP hD hc hs hsl (gs:=[]) (fun p hp=>by simp at hp) hy hc1 fun u ρ' S' w' h1 h2 h3=>hk u ρ' S' w' h1 (.kH h2) h3
  ·cases h
 ·rename_i g wt hgd;split at h
  ·rename_i b0 hkn;split at h
   ·rename_i b P8;have hval:a.tmps[g]?=some (.bool b):=by
     have hlt:g<a.tmps.size:=by rw[<-hsl.len];exact(cF.1 P8).1
     have hx:=xb hlt;have:=hsl.ok g _ _ P8 hx;rw[hx,lB this]
    split at h
    ·rename_i hbw;split at h
     ·rename_i v1 H1 c1 t1 hy;split at h
      ·cases h
      simp only[aw,aP]at h;obtain⟨rfl,rfl,rfl⟩:=h;simp only[bu,cL]at hc1;obtain⟨hc1,rfl⟩:=hc1;rw[bf ((Em hgd).2 (by rw[hval,hbw]))];exact JP hD hc hs hsl (gs:=[]) (fun p hp=>by simp at hp) hy hc1 fun u ρ' S' w' h1 h2 h3=>hk u ρ' S' w' h1 (.kH h2) h3
     ·cases h
    ·rename_i hbw;simp only[aw,aP]at h;obtain⟨rfl,rfl,rfl⟩:=h;have hbb:b=b0:=by simpa using hc1
     rw[bg (fun hh=>hbw (by have:=(Em hgd).1 hh;rw[hval]at this;simp at this;rw[<-hbb];exact this))];exact hk undef ρ S w hs (.kH (.any _)) Step.refl
   ·cases h
  split at h
  ·cases h
  ·rename_i b hb;split at h
   ·rename_i hsm;simp only[bu]at hsm;split at h
    ·rename_i v1 H1 c1 t1 hy;simp only[aw,aP]at h;obtain⟨rfl,rfl,rfl⟩:=h;have hbt:=PD hsl 6 g wt b hb;by_cases hw:a.tmps[g]?=some (.bool wt)
     ·rw[bf ((Em hgd).2 hw)];have hb1:b=true:=hbt.2 hw;subst hb1;have hc1':c1=true:=by simpa using hc1
      have hH:H1=H:=xP hy;subst hH;exact JP hD hc hs hsl (gs:=[(g,wt)]) (fun p hp=>by simp at hp;subst hp;exact hw) hy hc1' fun u ρ' S' w' h1 h2 h3=>hk u ρ' S' w' h1 (.inl ⟨hw,h2⟩) h3
     ·rw[bg (fun hh=>hw ((Em hgd).1 hh))];exact hk undef ρ S w hs (.inr ⟨hw,rfl⟩) Step.refl
    ·cases h
   ·cases h
theorem vA{q:Bool}{cx:Cx K}{ops:List Oper}{tm:List (AV K)}{wr:List Nat}{o:Oper}{v:AV K}{c:Bool}(h:jd q cx ops tm H wr o=some (v,H',c)):∀g wt v1,v=.opt g wt v1->g∈wr:=by
 intro g' wt' v' e;unfold jd at h;split at h
 ·cases h
 ·split at h
  ·split at h
   ·cases h
   ·rename_i hno;simp only[aw,aP]at h;obtain⟨rfl,rfl,rfl⟩:=h;subst e;simp[AV.jH]at hno
  ·cases h
 ·rename_i g wt hgd;split at h
  ·split at h
   ·split at h
    ·split at h
     ·split at h
      ·cases h
      ·rename_i hno;simp only[aw,aP]at h;obtain⟨rfl,rfl,rfl⟩:=h;subst e;simp[AV.jH]at hno
     ·cases h
    ·simp only[aw,aP]at h;obtain⟨rfl,-,-⟩:=h;cases e
   ·cases h
  split at h
  ·cases h
  ·split at h
   ·rename_i hsm;simp only[bu]at hsm;split at h
    ·simp only[aw,aP]at h;obtain⟨rfl,rfl,rfl⟩:=h;simp only[AV.opt.injEq]at e;obtain⟨rfl,rfl,rfl⟩:=e;simpa using hsm.2
    ·cases h
   ·cases h
def lX(tm:List (AV K))(wr:List Nat):Prop:=∀(t g:Nat) b v,tm[t]?=some (.opt g b v)->t∈wr/\g∈wr
structure Sat (cx:Cx K) (ρ:List Value) (S:Nat->Prop) (a:Act) (w:World) (st:St K):Prop where
 heap:aM cx.D ρ S w st.H
 slots:fq cx.D ρ S w st.tm a.tmps
 defers:a.defers=[]
theorem eV.put{D:bC K}{tmps:Array Value}{d:Nat}{u:Value}{v:AV K}{x:Value}(h:eV D ρ S w tmps v x)(hv:∀g b y,v=.opt g b y->g≠d):eV D ρ S w (tmps.setIfInBounds d u) v x:=by
 cases v<;>first|exact h|skip
 rename_i g b y;have hg:=hv g b y rfl;simp only[eV,pG,bg (pJ hg)]at h⊢;exact h
theorem fq.put{D:bC K}{tm:List (AV K)}{tmps:Array Value}{wr:List Nat}(h:fq D ρ S w tm tmps)(ho:lX tm wr){d:Nat}(hd:d∉wr){v:AV K}{u:Value}(hv:eV D ρ S w tmps v u)(xQ:∀g b y,v=.opt g b y->g∈wr):
 fq D ρ S w (tm.set d v) (tmps.setIfInBounds d u):=by
 refine⟨by simp[h.len],fun t v' x hv' hx=>?_⟩;rw[pG]at hx;rcases fD hv' with⟨rfl,rfl,hl⟩|⟨hne,hv'⟩
 ·rw[bf rfl]at hx;split at hx
  ·simp at hx;subst hx;exact hv.put fun g b y e=>fun he=>hd (he ▸ xQ g b y e)
  ·cases hx
 ·rw[bg (pJ hne)]at hx;exact(h.ok t v' x hv' hx).put fun g b y e=>fun he=>hd (he ▸ (ho t g b y (by rw[<-e];exact hv')).2)
theorem lX.put{tm:List (AV K)}{wr:List Nat}(ho:lX tm wr){d:Nat}{v:AV K}(xQ:∀g b y,v=.opt g b y->g∈wr):lX (tm.set d v) (d::wr):=fun t g b y h=>by
 rcases fD h with⟨rfl,rfl,-⟩|⟨-,h⟩
 ·exact⟨by simp,Dw _ (xQ g b y rfl)⟩
 ·exact⟨Dw _ (ho t g b y h).1,Dw _ (ho t g b y h).2⟩
theorem Step.grow{D:bC K}{n:Nat}(hs:aM D ρ S w H)(hs':aM D ρ' S' w' H')(st:Step D n ρ S H w ρ' S' H' w')(hn:n<=H.length):n<=H'.length:=by
 rcases pH n with h|h
 ·omega
 ·have h1:=st.pre (n-1) (by omega);rw[cJ (show n-1<ρ.length by rw[hs.len];omega)]at h1;have:=(cF.1 h1).1;rw[hs'.len]at this;omega
theorem Step.JU{D:bC K}(hs:aM D ρ S w H)(st:Step D H.length ρ S H w ρ' S' H' w'):∀(h:Nat) r,ρ[h]?=some r->ρ'[h]?=some r:=fun h r hr=>by
 rw[st.pre h (by rw[<-hs.len];exact(cF.1 hr).1)];exact hr
theorem rB{st:St K}{wr:List Nat}{dst:Option Nat}{v:AV K}{ok:Bool}{st':St K}{wr':List Nat}(h:vh st wr dst v H ok=some (st',wr')):
 st'.H=H/\st'.ok=ok/\((dst=none/\st'.tm=st.tm/\wr'=wr)\/∃d,dst=some d/\d∉wr/\d<st.tm.length/\st'.tm=st.tm.set d v/\wr'=d::wr):=by
 unfold vh at h;split at h
 ·simp only[aw,aP]at h;obtain⟨rfl,rfl⟩:=h;exact⟨rfl,rfl,.inl ⟨rfl,rfl,rfl⟩⟩
 ·rename_i d;split at h
  ·cases h
  ·rename_i hc;simp only[gu,bX,not_or,xd]at hc;simp only[aw,aP]at h;obtain⟨rfl,rfl⟩:=h;exact⟨rfl,rfl,.inr ⟨d,rfl,hc.1,by omega,rfl,rfl⟩⟩
theorem Sat.put{cx:Cx K}{a:Act}{st st':St K}{wr wr':List Nat}{o:Oper}{v:AV K}{ok:Bool}{u:Value}{n0:Nat}(bH:Sat cx ρ S a w st)(ho:lX st.tm wr)(hp:vh st wr o.dst v H' ok=some (st',wr'))
 (xQ:∀g b y,v=.opt g b y->g∈wr) (hs':aM cx.D ρ' S' w' H') (hv:eV cx.D ρ' S' w' a.tmps v u) (hst:Step cx.D st.H.length ρ S st.H w ρ' S' H' w'):
 Sat cx ρ' S' (a.put o.dst u) w' st'/\lX st'.tm wr':=by
 obtain⟨h1,h2,h3⟩:=rB hp;have hsl:=bH.slots.mono hst.s1 (hst.Ag bH.heap) (hst.JU bH.heap);rcases h3 with⟨e1,e2,e3⟩|⟨d,e1,e2,e3,e4,e5⟩
 ·rw[e1];exact⟨⟨by rw[h1];exact hs',by rw[e2];exact hsl,bH.defers⟩,by rw[e2,e3];exact ho⟩
 ·rw[e1];exact⟨⟨by rw[h1];exact hs',by rw[e4];exact hsl.put ho e2 hv xQ,bH.defers⟩,by rw[e4,e5];exact ho.put xQ⟩
theorem aeD{cx:Cx K}{ops:List Oper}{st st':St K}{wr wr':List Nat}{o:Oper}(h:vi cx ops st wr o=some (st',wr'))(hok:st'.ok=true):st.ok=true:=by
 unfold vi at h;split at h
 ·obtain⟨-,h2,-⟩:=rB h;rw[h2]at hok;simp only[bu]at hok;exact hok.2
 ·cases h
theorem JV{cx:Cx K}{ops:List Oper}:∀(l:List Oper)(st st':St K)(wr wr':List Nat),lW cx ops l st wr=some (st',wr')->st'.ok=true->st.ok=true
 |[],st,st',wr,wr',h,hok=>by simp only[lW,aw,aP]at h;rw[h.1];exact hok
 |o::r,st,st',wr,wr',h,hok=>by
  simp only[lW]at h;split at h
  ·rename_i st1 iT h1;exact aeD h1 (JV r st1 st' iT wr' h hok)
  ·cases h
theorem P9{cx:Cx K}(hD:bT cx.D)(hc:aY cx){ops:List Oper}{n0:Nat}{Q:Exit->Act->World->Prop}:∀(l:List Oper)(st st':St K)(wr wr':List Nat)(ρ:List Value)(S:Nat->Prop)(a:Act)(w:World),
 lW cx ops l st wr=some (st',wr')->st'.ok=true->Sat cx ρ S a w st->lX st.tm wr->n0<=st.H.length->
 (∀ρ' S' a' w',Sat cx ρ' S' a' w' st'->lX st'.tm wr'->Step cx.D n0 ρ S st.H w ρ' S' st'.H w'->Q .normal a' w')->wpList cx.P ops.toArray Q l a w
 |[],st,st',wr,wr',ρ,S,a,w,h,hok,bH,ho,hn,hq=>by
   simp only[lW,aw,aP]at h;obtain⟨rfl,rfl⟩:=h;exact hq ρ S a w bH ho Step.refl
 |o::r,st,st',wr,wr',ρ,S,a,w,h,hok,bH,ho,hn,hq=>by
  simp only[lW]at h;split at h
  ·rename_i st1 iT h1;have hok1:=JV r st1 st' iT wr' h hok;have h1':=h1;unfold vi at h1';split at h1'
   ·rename_i v H1 c hsv;obtain⟨p1,p2,p3⟩:=rB h1';rw[p2]at hok1;simp only[bu]at hok1;refine wpList_step fun k hk=>JS hD hc bH.heap bH.slots hsv hok1.1 fun u ρ1 S1 w1 q1 q2 q3=>hk _ _ ?_
    obtain⟨s1,s2⟩:=bH.put (n0:=n0) ho h1' (vA hsv) q1 q2 q3;have hg:=q3.grow bH.heap q1 (cq _);refine P9 (n0:=n0) hD hc r st1 st' iT wr' ρ1 S1 _ w1 h hok s1 s2 (by rw[p1];omega) fun ρ' S' a' w' g1 g2 g3=>hq ρ' S' a' w' g1 g2 ?_
    rw[p1]at g3;exact(q3.weaken hn).trans g3
   ·cases h1'
  ·cases h
def dG(tm:List (AV K)):Prop:=∀(t g:Nat) b v,tm[t]?≠some (.opt g b v)
theorem dG.in{tm:List (AV K)}(h:dG tm):lX tm []:=fun t g b v e=>absurd e (h t g b v)
theorem fq.wipe{D:bC K}{tmps:Array Value}:∀(wr:List Nat)(tm:List (AV K)),fq D ρ S w tm tmps->fq D ρ S w (jM tm wr) tmps
 |[],tm,h=>h
 |d::r,tm,h=>by
  simp only[jM];split
  ·refine fq.wipe r _ ⟨by simp[h.len],fun t v x hv hx=>?_⟩;rcases fD hv with⟨rfl,rfl,-⟩|⟨-,hv⟩
   ·exact .kH (.any x)
   ·exact h.ok t v x hv hx
  ·exact fq.wipe r tm h
theorem JW:∀(wr:List Nat)(tm:List (AV K))(t:Nat)(v:AV K),(jM tm wr)[t]?=some v->v.jH=true->t∉wr/\tm[t]?=some v
 |[],tm,t,v,h,hv=>⟨by simp,h⟩
 |d::r,tm,t,v,h,hv=>by
  simp only[jM]at h;split at h
  ·obtain⟨h1,h2⟩:=JW r _ t v h hv;rcases fD h2 with⟨rfl,rfl,-⟩|⟨hne,h2⟩
   ·simp[AV.jH]at hv
   ·exact⟨by simp[hne,h1],h2⟩
  ·rename_i hno;obtain⟨h1,h2⟩:=JW r _ t v h hv;refine⟨?_,h2⟩;simp only[fe,not_or];refine⟨fun e=>?_,h1⟩;subst e;cases v<;>simp[AV.jH]at hv;exact hno _ _ _ h2
theorem dG.wipe{tm:List (AV K)}{wr:List Nat}(h:lX tm wr):dG (jM tm wr):=fun t g b v e=>by
 obtain⟨h1,h2⟩:=JW wr tm t _ e rfl;exact h1 (h t g b v h2).1
end Go.V
namespace Go.V
open Go
variable {K :di}{ρ ρ':List Value}{S S':Nat->Prop}{w w':World}{H H':List (Ob K)}
def Qa(L:List Oper)(t:Nat):Prop:=∀(k:Nat) o,L[k]?=some o->o.dst≠some t
theorem JX{bits:Nat}:∀(L:List Oper)(i:Nat)(tm:List (AV K))(t:Nat)(v:AV K),(eS bits L i tm)[t]?=some v->v≠.any->
 tm[t]?=some v/\∀(k:Nat) o,L[k]?=some o->o.dst=some t->bits.testBit (i+k)=true
 |[],i,tm,t,v,h,_=>⟨h,fun k o ho=>by simp at ho⟩
 |o::r,i,tm,t,v,h,hv=>by
  simp only[eS]at h;obtain⟨h1,h2⟩:=JX r (i+1) _ t v h hv;have hrest:∀(k:Nat) o',(o::r)[k]?=some o'->o'.dst=some t->k≠0->bits.testBit (i+k)=true:=fun k o' ho' hd hk=>by
   obtain⟨k',rfl⟩:=Nat.exists_eq_succ_of_ne_zero hk;have:=h2 k' o' (by simpa using ho') hd;rw[show i+(k'+1)=i+1+k' by omega];exact this
  split at h1
  ·rename_i d hd;split at h1
   ·rename_i hb;refine⟨h1,fun k o' ho' hd'=>?_⟩;by_cases hk:k=0
    ·subst hk;simpa using hb
    ·exact hrest k o' ho' hd' hk
   ·rename_i hb;rcases fD h1 with⟨rfl,rfl,-⟩|⟨hne,h1⟩
    ·exact absurd rfl hv
    ·refine⟨h1,fun k o' ho' hd'=>?_⟩;by_cases hk:k=0
     ·subst hk;simp at ho';subst ho';rw[hd]at hd';simp at hd';exact absurd hd'.symm hne
     ·exact hrest k o' ho' hd' hk
  ·rename_i hd;refine⟨h1,fun k o' ho' hd'=>?_⟩;by_cases hk:k=0
   ·subst hk;simp at ho';subst ho';rw[hd]at hd';cases hd'
   ·exact hrest k o' ho' hd' hk
theorem JY{bits:Nat}:∀(L:List Oper)(i:Nat)(tm:List (AV K)),(eS bits L i tm).length=tm.length
 |[],i,tm=>rfl
 |o::r,i,tm=>by
  simp only[eS];rw[JY r];split
  ·split<;>simp
  ·rfl
theorem Qb{i:Nat}:∀(bs:List Nat)(k0 k:Nat),(zZ i k0 bs).testBit k=true->∃j:Nat,k=k0+j/\((bs[j]?).getD 0).testBit i=true
 |[],k0,k,h=>by simp[zZ]at h
 |b::r,k0,k,h=>by
  simp only[zZ,xh,gu]at h;rcases h with h|h
  ·cases hb:b.testBit i with
   |false=>rw[hb]at h;simp at h
   |true=>
    rw[hb]at h;simp only[ad,Nat.testBit_two_pow,bX]at h;exact⟨0,by omega,by simpa using hb⟩
  ·obtain⟨j,h1,h2⟩:=Qb r (k0+1) k h;exact⟨j+1,by omega,by simpa using h2⟩
theorem Qc{bs:List Nat}{i k:Nat}(h:(fk bs i).testBit k=true):(bs.getD i 0).testBit k=true\/(bs.getD k 0).testBit i=true:=by
 simp only[fk,xh,gu]at h;rcases h with h|h
 ·exact .inl h
 ·obtain⟨j,h1,h2⟩:=Qb _ _ _ h;rw[dz]at h1;subst h1;right;rw[gp];exact h2
theorem JZ:∀(L:List Oper)(acc:List Nat)(i:Nat),i<acc.length->(iQ L acc).getD i 0=acc.getD i 0
 |[],acc,i,_=>rfl
 |o::r,acc,i,h=>by
  simp only[iQ];rw[JZ r _ i (by simp;omega)];simp only[gp];rw[dX h]
theorem Qd{acc:List Nat}{k:Nat}:∀(es:List Edge)(s:Nat),(es.foldl (fun s e=>s|||2^e.on|||acc.getD e.on 0) s).testBit k=true->s.testBit k=true\/∃e∈es,k=e.on\/(acc.getD e.on 0).testBit k=true
 |[],s,h=>.inl h
 |e::r,s,h=>by
  rcases Qd r _ h with h|⟨e',he',h⟩
  ·simp only[xh,gu]at h;rcases h with(h|h)|h
   ·exact .inl h
   ·rw[Nat.testBit_two_pow]at h;exact .inr ⟨e,by simp,.inl (by simpa using h.symm:e.on=k).symm⟩
   ·exact .inr ⟨e,by simp,.inr h⟩
  ·exact .inr ⟨e',by simp[he'],h⟩
theorem Qe:∀(L:List Oper)(acc:List Nat)(j:Nat)(o:Oper),L[j]?=some o->kG L acc.length=true->
 ∀k,((iQ L acc).getD (acc.length+j) 0).testBit k=true->∃e∈o.after,k=e.on\/((iQ L acc).getD e.on 0).testBit k=true
 |[],acc,j,o,h,_,k,_=>by simp at h
 |x::r,acc,0,o,h,he,k,hk=>by
  simp at h;subst h;simp only[iQ]at hk⊢;rw[JZ r _ _ (by simp)]at hk;simp only[gp,Nat.add_zero]at hk;rw[eZ (cq _)]at hk;simp only[IG,List.getElem?_cons_zero,an]at hk;simp only[kG,bu,fO,bX]at he;rcases Qd x.after.toList 0 (by simpa only[gp]using hk)with h|⟨e,h1,h2⟩
  ·simp at h
  ·refine⟨e,by simpa using h1,h2.imp id fun h=>?_⟩;rw[JZ r _ _ (by have:=(he.1 e h1).1;simp;omega)];rw[gp,dX (he.1 e h1).1,<-gp];exact h
 |x::r,acc,j+1,o,h,he,k,hk=>by
  simp only[iQ]at hk⊢;simp only[kG,bu]at he;have:=Qe r (acc++[x.after.toList.foldl (fun s e=>s|||2^e.on|||acc.getD e.on 0) 0]) j o (by simpa using h) (by simpa using he.2) k (by
   rw[show acc.length+(j+1)=(acc++[x.after.toList.foldl (fun s e=>s|||2^e.on|||acc.getD e.on 0) 0]).length+j by simp;omega]at hk;exact hk)
  exact this
theorem Ax:∀(L:List Oper)(n i:Nat)(o:Oper),kG L n=true->L[i]?=some o->∀e∈o.after,e.on<n+i/\Region.binds .any e=true
 |[],n,i,o,_,h=>by simp at h
 |x::r,n,0,o,h,ho=>by
  simp at ho;subst ho;simp only[kG,bu,fO,bX]at h;intro e he;exact h.1 e (by simpa using he)
 |x::r,n,i+1,o,h,ho=>by
  simp only[kG,bu]at h;intro e he;have:=Ax r (n+1) i o h.2 (by simpa using ho) e he;exact⟨by omega,this.2⟩
theorem tw{L:List Oper}(he:kG L 0=true){T:Nat->Prop}(hT:∀(i:Nat) o,L[i]?=some o->T i->∀e∈o.after,T e.on):
 ∀(i:Nat)(o:Oper),L[i]?=some o->(∀e∈o.after,T e.on)->∀k,((iQ L []).getD i 0).testBit k=true->T k/\k<i:=by
 intro i
 induction i using Nat.strongRecOn with
 |_ i ih=>
  intro o ho hoe k hk;obtain⟨e,h1,h2⟩:=Qe L [] i o ho he k (by simpa using hk);have hlt:=(Ax L 0 i o he ho e h1).1;rw[dz]at hlt;rcases h2 with rfl|h2
  ·exact⟨hoe e h1,hlt⟩
  ·have hi:i<L.length:=(cF.1 ho).1;have hg:=cJ (show e.on<L.length by omega);obtain⟨a,b⟩:=ih e.on hlt _ hg (hT e.on _ hg (hoe e h1)) k h2;exact⟨a,by omega⟩
structure En (cx:Cx K) (L:List Oper) (bs:List Nat) (H:List (Ob K)) (cf fw:List (AV K)) (vals:Nat->AV K):Prop where
 len:fw.length=cf.length
 uniq:∀(i j:Nat) o o' d,L[i]?=some o->L[j]?=some o'->o.dst=some d->o'.dst=some d->i=j
 inb:∀(i:Nat) o d,L[i]?=some o->o.dst=some d->d<cf.length
 fin:∀(i:Nat) o d,L[i]?=some o->o.dst=some d->fw[d]?=some (vals i)
 rest:∀t,Qa L t->fw[t]?=cf[t]?
 slot:∀(i:Nat) o,L[i]?=some o->∃dj dY H1,jd true cx L (eS (fk bs i) L 0 dj) H dY o=some (vals i,H1,true)/\dj.length=cf.length/\
  (∀(k:Nat) o' d,L[k]?=some o'->o'.dst=some d->k<i->dj[d]?=some (vals k))/\(∀t,(∀(k:Nat) o,k<i->L[k]?=some o->o.dst≠some t)->dj[t]?=cf[t]?)/\∀d∈dY,∃(k:Nat)(o':Oper),k<i/\L[k]?=some o'/\o'.dst=some d
structure Qf (cx:Cx K) (L:List Oper) (bs:List Nat) (H:List (Ob K)) (cf:List (AV K)) (vals:Nat->AV K) (n:Nat) (tm:List (AV K)) (wr:List Nat):Prop where
 len:tm.length=cf.length
 uniq:∀(i j:Nat) o o' d,i<n->j<n->L[i]?=some o->L[j]?=some o'->o.dst=some d->o'.dst=some d->i=j
 inb:∀(i:Nat) o d,i<n->L[i]?=some o->o.dst=some d->d<cf.length
 fin:∀(i:Nat) o d,i<n->L[i]?=some o->o.dst=some d->tm[d]?=some (vals i)
 rest:∀t,(∀(k:Nat) o,k<n->L[k]?=some o->o.dst≠some t)->tm[t]?=cf[t]?
 nr:∀d,d∈wr↔∃(k:Nat)(o':Oper),k<n/\L[k]?=some o'/\o'.dst=some d
 slot:∀(i:Nat) o,i<n->L[i]?=some o->∃dj dY H1,jd true cx L (eS (fk bs i) L 0 dj) H dY o=some (vals i,H1,true)/\dj.length=cf.length/\
  (∀(k:Nat) o' d,L[k]?=some o'->o'.dst=some d->k<i->dj[d]?=some (vals k))/\(∀t,(∀(k:Nat) o,k<i->L[k]?=some o->o.dst≠some t)->dj[t]?=cf[t]?)/\∀d∈dY,∃(k:Nat)(o':Oper),k<i/\L[k]?=some o'/\o'.dst=some d
theorem J0{cx:Cx K}{L:List Oper}{bs:List Nat}:∀(l:List Oper)(i:Nat)(st st':St K)(wr wr':List Nat),nj cx L bs l i st wr=some (st',wr')->st'.ok=true->st.ok=true/\st'.H=st.H
 |[],i,st,st',wr,wr',h,hok=>by simp only[nj,aw,aP]at h;rw[h.1];exact⟨hok,rfl⟩
 |o::r,i,st,st',wr,wr',h,hok=>by
  simp only[nj]at h;split at h
  ·split at h
   ·rename_i st1 iT hp;obtain⟨p1,p2,-⟩:=rB hp;obtain⟨q1,q2⟩:=J0 r (i+1) st1 st' iT wr' h hok;rw[p2]at q1;simp only[bu]at q1;exact⟨q1.2,by rw[q2,p1]⟩
   ·cases h
  ·cases h
theorem Qg{cx:Cx K}{L:List Oper}{bs:List Nat}{H:List (Ob K)}{cf:List (AV K)}:∀(l:List Oper)(n:Nat)(st st':St K)(wr wr':List Nat)(vals:Nat->AV K),nj cx L bs l n st wr=some (st',wr')->st'.ok=true->st.H=H->
 (∀j,l[j]?=L[n+j]?)->n+l.length=L.length->Qf cx L bs H cf vals n st.tm wr->∃lu,Qf cx L bs H cf lu L.length st'.tm wr'
 |[],n,st,st',wr,wr',vals,h,hok,hH,hl,hn,hp=>by
   simp only[nj,aw,aP]at h;obtain⟨rfl,rfl⟩:=h;simp at hn;subst hn;exact⟨vals,hp⟩
 |o::r,n,st,st',wr,wr',vals,h,hok,hH,hl,hn,hp=>by
  have hLn:L[n]?=some o:=by have:=hl 0;simpa using this.symm
  simp only[nj]at h;split at h
  ·rename_i v H1 c hsv;split at h
   ·rename_i st1 iT hput;obtain⟨p1,p2,p3⟩:=rB hput;have hok1:=(J0 r (n+1) st1 st' iT wr' h hok).1;rw[p2]at hok1;simp only[bu]at hok1;obtain⟨rfl,-⟩:=hok1;rw[hH]at hsv
    let lu:Nat->AV K:=fun i=>if i=n then v else vals i
    have hv':∀i,i<n->lu i=vals i:=fun i hi=>by simp[lu,show i≠n by omega]
    have hvn:lu n=v:=by simp[lu]
    have J1:∃dj dY H1,jd true cx L (eS (fk bs n) L 0 dj) H dY o=some (lu n,H1,true)/\dj.length=cf.length/\
     (∀(k:Nat) o' d,L[k]?=some o'->o'.dst=some d->k<n->dj[d]?=some (lu k))/\(∀t,(∀(k:Nat) o,k<n->L[k]?=some o->o.dst≠some t)->dj[t]?=cf[t]?)/\∀d∈dY,∃(k:Nat)(o':Oper),k<n/\L[k]?=some o'/\o'.dst=some d:=
     ⟨st.tm,wr,H1,by rw[hvn];exact hsv,hp.len,fun k o' d h1 h2 h3=>by rw[hv' k h3];exact hp.fin k o' d h3 h1 h2,fun t ht=>hp.rest t fun k o' hk h1=>ht k o' hk h1,fun d hd=>(hp.nr d).1 hd⟩
    have tz:∀(i:Nat) o,i<n+1->L[i]?=some o->∃dj dY H1,jd true cx L (eS (fk bs i) L 0 dj) H dY o=some (lu i,H1,true)/\dj.length=cf.length/\
     (∀(k:Nat) o' d,L[k]?=some o'->o'.dst=some d->k<i->dj[d]?=some (lu k))/\(∀t,(∀(k:Nat) o,k<i->L[k]?=some o->o.dst≠some t)->dj[t]?=cf[t]?)/\∀d∈dY,∃(k:Nat)(o':Oper),k<i/\L[k]?=some o'/\o'.dst=some d:=fun i o1 hi ho1=>by
     by_cases hin:i=n
     ·subst hin;rw[hLn]at ho1;simp at ho1;subst ho1;exact J1
     ·obtain⟨dj,dY,H2,a1,a2,a3,a4,a5⟩:=hp.slot i o1 (by omega) ho1;exact⟨dj,dY,H2,by rw[hv' i (by omega)];exact a1,a2,fun k o' d h1 h2 h3=>by rw[hv' k (by omega)];exact a3 k o' d h1 h2 h3,a4,a5⟩
    refine Qg r (n+1) st1 st' iT wr' lu h hok (by rw[p1];exact hH) (fun j=>by have:=hl (j+1);simp only[List.getElem?_cons_succ]at this;rw[this];congr 1;omega) (by simp at hn;omega) ?_;rcases p3 with⟨e1,e2,e3⟩|⟨d,e1,e2,e3,e4,e5⟩
    ·refine⟨by rw[e2];exact hp.len,fun i j o1 o2 d hi hj h1 h2 h3 h4=>?_,fun i o1 d hi h1 h2=>?_,fun i o1 d hi h1 h2=>?_,fun t ht=>by rw[e2];exact hp.rest t fun k o' hk=>ht k o' (by omega),fun d=>?_,tz⟩
     ·have hin:i≠n:=fun e=>by subst e;rw[hLn]at h1;simp at h1;subst h1;rw[e1]at h3;cases h3
      have hjn:j≠n:=fun e=>by subst e;rw[hLn]at h2;simp at h2;subst h2;rw[e1]at h4;cases h4
      exact hp.uniq i j o1 o2 d (by omega) (by omega) h1 h2 h3 h4
     ·have hin:i≠n:=fun e=>by subst e;rw[hLn]at h1;simp at h1;subst h1;rw[e1]at h2;cases h2
      exact hp.inb i o1 d (by omega) h1 h2
     ·have hin:i≠n:=fun e=>by subst e;rw[hLn]at h1;simp at h1;subst h1;rw[e1]at h2;cases h2
      rw[e2,hv' i (by omega)];exact hp.fin i o1 d (by omega) h1 h2
     ·rw[e3,hp.nr d];constructor
      ·rintro ⟨k,o',hk,h1,h2⟩;exact⟨k,o',by omega,h1,h2⟩
      ·rintro ⟨k,o',hk,h1,h2⟩
       have hkn:k≠n:=fun e=>by subst e;rw[hLn]at h1;simp at h1;subst h1;rw[e1]at h2;cases h2
       exact⟨k,o',by omega,h1,h2⟩
    ·have hnew:∀(k:Nat) o',k<n->L[k]?=some o'->o'.dst≠some d:=fun k o' hk h1 h2=>e2 ((hp.nr d).2 ⟨k,o',hk,h1,h2⟩)
     have hdn:∀{o1:Oper}{d1:Nat},L[n]?=some o1->o1.dst=some d1->d1=d:=fun{o1 d1} h1 h2=>by rw[hLn]at h1;simp at h1;subst h1;rw[e1]at h2;simpa using h2.symm
     refine⟨by rw[e4];simp[hp.len],fun i j o1 o2 d1 hi hj h1 h2 h3 h4=>?_,fun i o1 d1 hi h1 h2=>?_,fun i o1 d1 hi h1 h2=>?_,fun t ht=>?_,fun d1=>?_,tz⟩
     ·by_cases hin:i=n<;>by_cases hjn:j=n
      ·omega
      ·subst hin;have:=hdn h1 h3;subst this;exact absurd h4 (hnew j o2 (by omega) h2)
      ·subst hjn;have:=hdn h2 h4;subst this;exact absurd h3 (hnew i o1 (by omega) h1)
      ·exact hp.uniq i j o1 o2 d1 (by omega) (by omega) h1 h2 h3 h4
     ·by_cases hin:i=n
      ·subst hin;have:=hdn h1 h2;subst this;rw[<-hp.len];exact e3
      ·exact hp.inb i o1 d1 (by omega) h1 h2
     ·rw[e4];by_cases hin:i=n
      ·subst hin;have:=hdn h1 h2;subst this;rw[kD,bf rfl,bf e3,hvn]
      ·have hne:d1≠d:=fun e=>by subst e;exact hnew i o1 (by omega) h1 h2
       rw[kD,bg (pJ hne),hv' i (by omega)];exact hp.fin i o1 d1 (by omega) h1 h2
     ·have hne:d≠t:=fun e=>by subst e;exact ht n o (by omega) hLn e1
      rw[e4,kD,bg hne];exact hp.rest t fun k o' hk=>ht k o' (by omega)
     ·rw[e5,fe,hp.nr d1];constructor
      ·rintro (rfl|⟨k,o',hk,h1,h2⟩)
       ·exact⟨n,o,by omega,hLn,e1⟩
       ·exact⟨k,o',by omega,h1,h2⟩
      ·rintro ⟨k,o',hk,h1,h2⟩
       by_cases hkn:k=n
       ·subst hkn;exact .inl (hdn h1 h2)
       ·exact .inr ⟨k,o',by omega,h1,h2⟩
   ·cases h
  ·cases h
theorem aeE{cx:Cx K}{L:List Oper}{bs:List Nat}{st st':St K}{wr':List Nat}(h:nj cx L bs L 0 st []=some (st',wr'))(hok:st'.ok=true):
 ∃vals,En cx L bs st.H st.tm st'.tm vals/\∀d,d∈wr'↔∃(k:Nat)(o':Oper),L[k]?=some o'/\o'.dst=some d:=by
 obtain⟨vals,hp⟩:=Qg (cf:=st.tm) L 0 st st' [] wr' (fun _=>.any) h hok rfl (fun j=>by simp) (by simp)
  ⟨rfl,fun i j _ _ _ hi=>by omega,fun i _ _ hi=>by omega,fun i _ _ hi=>by omega,fun t _=>rfl,fun d=>by simp,fun i _ hi=>by omega⟩
 have hlt:∀{i:Nat}{o:Oper},L[i]?=some o->i<L.length:=fun h=>(cF.1 h).1
 refine⟨vals,⟨hp.len,fun i j o o' d h1 h2=>hp.uniq i j o o' d (hlt h1) (hlt h2) h1 h2,fun i o d h1=>hp.inb i o d (hlt h1) h1,fun i o d h1=>hp.fin i o d (hlt h1) h1,fun t ht=>hp.rest t fun k o _=>ht k o,fun i o h1=>hp.slot i o (hlt h1) h1⟩,fun d=>?_⟩;rw[hp.nr d];exact⟨fun⟨k,o',_,h1,h2⟩=>⟨k,o',h1,h2⟩,fun⟨k,o',h1,h2⟩=>⟨k,o',hlt h1,h1,h2⟩⟩
end Go.V
namespace Go.V
open Go
variable {K :di}{ρ ρ':List Value}{S S':Nat->Prop}{w w':World}{H H':List (Ob K)}
structure Mid (cx:Cx K) (L:List Oper) (cf:List (AV K)) (vals:Nat->AV K) (H:List (Ob K)) (ρ:List Value) (S:Nat->Prop) (listed:Array Bool) (a:Act) (w:World):Prop where
 heap:aM cx.D ρ S w H
 defers:a.defers=[]
 size:a.tmps.size=cf.length
 oN:listed.size=L.length
 base:∀(t:Nat) v x,(∀(k:Nat) o,L[k]?=some o->o.dst=some t->listed[k]?≠some true)->cf[t]?=some v->a.tmps[t]?=some x->Rep cx.D ρ S w v x
 done:∀(k:Nat) o d x,L[k]?=some o->listed[k]?=some true->o.dst=some d->a.tmps[d]?=some x->eV cx.D ρ S w a.tmps (vals k) x
 opts:∀(k g:Nat) b y,listed[k]?=some true->vals k=.opt g b y->∃(k':Nat)(o':Oper),L[k']?=some o'/\o'.dst=some g/\listed[k']?=some true
 closed:∀(k:Nat) o,L[k]?=some o->listed[k]?=some true->∀e∈o.after,listed[e.on]?=some true
theorem xR(L:List Oper)(t:Nat):Qa L t\/∃(k:Nat)(o:Oper),L[k]?=some o/\o.dst=some t:=by
 by_cases h:∃(k:Nat)(o:Oper),L[k]?=some o/\o.dst=some t
 ·exact .inr h
 ·exact .inl fun k o h1 h2=>h ⟨k,o,h1,h2⟩
theorem Qh{q:Bool}{cx:Cx K}{ops:List Oper}{tm:List (AV K)}{wr:List Nat}{o:Oper}{g:Nat}{b:Bool}{y:AV K}{c:Bool}(h:jd q cx ops tm H wr o=some (.opt g b y,H',c)):∃v,tm[g]?=some v/\v≠.any:=by
 unfold jd at h;split at h
 ·cases h
 ·split at h
  ·split at h
   ·cases h
   ·rename_i hno;simp only[aw,aP]at h;obtain⟨rfl,-⟩:=h;simp[AV.jH]at hno
  ·cases h
 ·rename_i g' w1 hgd;split at h
  ·split at h
   ·split at h
    ·split at h
     ·split at h
      ·cases h
      ·rename_i hno;simp only[aw,aP]at h;obtain⟨rfl,-⟩:=h;simp[AV.jH]at hno
     ·cases h
    ·simp only[aw,aP]at h;obtain⟨h,-⟩:=h;cases h
   ·cases h
  split at h
  ·cases h
  ·rename_i e hgv;split at h
   ·split at h
    ·simp only[aw,aP,AV.opt.injEq]at h;obtain⟨⟨rfl,rfl,rfl⟩,-⟩:=h;simp only[xl]at hgv;split at hgv
     ·rename_i bb hv;exact⟨_,hv,by simp⟩
     ·rename_i g1 w1 bb hv;exact⟨_,hv,by simp⟩
     ·cases hgv
    ·cases h
   ·cases h
theorem Az{listed:Array Bool}{j:Nat}:listed.getD j true=false↔listed[j]?=some false:=by
 rw[ou];cases h:listed[j]? with
 |none=>simp
 |some b=>cases b<;>simp
theorem J2{listed:Array Bool}{j:Nat}:listed.getD j false=true↔listed[j]?=some true:=by
 rw[ou];cases h:listed[j]? with
 |none=>simp
 |some b=>cases b<;>simp
theorem Mid.slots{cx:Cx K}{L:List Oper}{cf fw:List (AV K)}{vals:Nat->AV K}{bs:List Nat}(hbs:bs=iQ L [])(he:kG L 0=true){listed:Array Bool}{a:Act}
 (hm:Mid cx L cf vals H ρ S listed a w) (hd:En cx L bs H cf fw vals) (h0:dG cf) {j:Nat} {o:Oper} (ho:L[j]?=some o) (im:listed[j]?=some false) (lY:∀e∈o.after,listed[e.on]?=some true) {dj:List (AV K)} (hl:dj.length=cf.length)
 (h1:∀(k:Nat) o' d,L[k]?=some o'->o'.dst=some d->k<j->dj[d]?=some (vals k)) (h2:∀t,(∀(k:Nat) o,k<j->L[k]?=some o->o.dst≠some t)->dj[t]?=cf[t]?):fq cx.D ρ S w (eS (fk bs j) L 0 dj) a.tmps/\
   ∀(t:Nat) v,(eS (fk bs j) L 0 dj)[t]?=some v->v≠.any->(∀(k:Nat) o',k<j->L[k]?=some o'->o'.dst≠some t)\/∃(k:Nat)(o':Oper),L[k]?=some o'/\o'.dst=some t/\listed[k]?=some true:=by
 have key:∀(t:Nat) v,(eS (fk bs j) L 0 dj)[t]?=some v->v≠.any->(((∀(k:Nat) o',k<j->L[k]?=some o'->o'.dst≠some t)/\(∀(k:Nat) o,L[k]?=some o->o.dst=some t->listed[k]?≠some true))/\cf[t]?=some v)\/∃(k:Nat)(o':Oper),L[k]?=some o'/\o'.dst=some t/\listed[k]?=some true/\v=vals k:=fun t v hv hne=>by
  obtain⟨g1,g2⟩:=JX L 0 dj t v hv hne;rcases xR L t with hn|⟨k,o',hk,hkd⟩
  ·exact .inl ⟨⟨fun k o' _ h=>hn k o' h,fun k o' h h'=>absurd h' (hn k o' h)⟩,by rw[<-h2 t fun k o' _ h=>hn k o' h];exact g1⟩
  ·have hb:=g2 k o' hk hkd;rw[dz,hbs]at hb;rcases Qc hb with hb|hb
   ·obtain⟨c1,c2⟩:=tw he (T:=fun i=>listed[i]?=some true) (fun i o hi gB=>hm.closed i o hi gB) j o ho lY k hb;have:=h1 k o' t hk hkd c2;rw[g1]at this;exact .inr ⟨k,o',hk,hkd,c1,by simpa using this⟩
   ·have c0:=(tw he (T:=fun _=>True) (fun _ _ _ _ _ _=>trivial) k o' hk (fun _ _=>trivial) j hb).2;have hun:listed[k]?≠some true:=fun hlk=>by
     have:=(tw he (T:=fun i=>listed[i]?=some true) (fun i o hi gB=>hm.closed i o hi gB) k o' hk (hm.closed k o' hk hlk) j hb).1;rw[im]at this;cases this
    have AA:∀(k':Nat) o1,L[k']?=some o1->o1.dst=some t->k'=k:=fun k' o1 h1 h2=>hd.uniq k' k o1 o' t h1 hk h2 hkd
    have hlt:∀(k':Nat) o1,k'<j->L[k']?=some o1->o1.dst≠some t:=fun k' o1 hk' h1 h2=>by have:=AA k' o1 h1 h2;omega
    exact .inl ⟨⟨hlt,fun k' o1 h1 h2=>by rw[AA k' o1 h1 h2];exact hun⟩,by rw[<-h2 t hlt];exact g1⟩
 refine⟨⟨by rw[JY,hl,hm.size],fun t v x hv hx=>?_⟩,fun t v hv hne=>?_⟩
 ·by_cases hne:v=.any
  ·subst hne;exact .kH (.any x)
  ·rcases key t v hv hne with⟨⟨-,hn⟩,g⟩|⟨k,o',hk,hkd,hlk,rfl⟩
   ·exact .kH (hm.base t v x hn g hx)
   ·exact hm.done k o' t x hk hlk hkd hx
 ·rcases key t v hv hne with⟨⟨hn,-⟩,-⟩|⟨k,o',hk,hkd,hlk,-⟩
  ·exact .inl hn
  ·exact .inr ⟨k,o',hk,hkd,hlk⟩
theorem Mid.put{cx:Cx K}{L:List Oper}{cf fw:List (AV K)}{vals:Nat->AV K}{bs:List Nat}{listed:Array Bool}{a:Act}(hm:Mid cx L cf vals H ρ S listed a w)(hd:En cx L bs H cf fw vals){j:Nat}{o:Oper}(ho:L[j]?=some o)
 (hj:listed[j]?=some false) (lY:∀e∈o.after,listed[e.on]?=some true) {u:Value} (hs':aM cx.D ρ' S' w' H) (hst:Step cx.D H.length ρ S H w ρ' S' H w') (hv:eV cx.D ρ' S' w' a.tmps (vals j) u)
 (mM:∀g b y,vals j=.opt g b y->∃(k':Nat)(o':Oper),L[k']?=some o'/\o'.dst=some g/\listed[k']?=some true):Mid cx L cf vals H ρ' S' (listed.setIfInBounds j true) (a.put o.dst u) w':=by
 have hjs:j<listed.size:=(kz.1 hj).1;have hget:∀(k:Nat),(listed.setIfInBounds j true)[k]?=some true↔(k=j\/listed[k]?=some true):=fun k=>by
  rw[pG];by_cases hk:j=k
  ·subst hk;simp[hjs]
  ·rw[bg hk];simp[pJ hk]
 have hmono:∀{v:AV K}{x:Value},Rep cx.D ρ S w v x->Rep cx.D ρ' S' w' v x:=fun h=>h.mono hst.s1 (hst.Ag hm.heap) (hst.JU hm.heap)
 have Qi:∀{v:AV K}{x:Value}{tmps:Array Value},eV cx.D ρ S w tmps v x->eV cx.D ρ' S' w' tmps v x:=fun h=>h.mono hst.s1 (hst.Ag hm.heap) (hst.JU hm.heap)
 have hclosed:∀(k:Nat) o1,L[k]?=some o1->(listed.setIfInBounds j true)[k]?=some true->∀e∈o1.after,(listed.setIfInBounds j true)[e.on]?=some true:=fun k o1 hk hlk e he=>by
  rw[hget]at hlk⊢;rcases hlk with rfl|hlk
  ·rw[ho]at hk;simp at hk;subst hk;exact .inr (lY e he)
  ·exact .inr (hm.closed k o1 hk hlk e he)
 have AB:∀(k g:Nat) b y,(listed.setIfInBounds j true)[k]?=some true->vals k=.opt g b y->∃(k':Nat)(o':Oper),L[k']?=some o'/\o'.dst=some g/\(listed.setIfInBounds j true)[k']?=some true:=fun k g b y hlk hvk=>by
  rw[hget]at hlk;rcases hlk with rfl|hlk
  ·obtain⟨k',o',h1,h2,h3⟩:=mM g b y hvk;exact⟨k',o',h1,h2,(hget k').2 (.inr h3)⟩
  ·obtain⟨k',o',h1,h2,h3⟩:=hm.opts k g b y hlk hvk;exact⟨k',o',h1,h2,(hget k').2 (.inr h3)⟩
 cases hdst:o.dst with
 |none=>
  refine⟨hs',hm.defers,hm.size,by simp[hm.oN],fun t v x h1 h2 h3=>hmono (hm.base t v x (fun k o1 hk hd1 hl=>h1 k o1 hk hd1 ((hget k).2 (.inr hl))) h2 h3),fun k o1 d x hk hlk hd1 hx=>?_,AB,hclosed⟩;rw[hget]at hlk;rcases hlk with rfl|hlk
  ·rw[ho]at hk;simp at hk;subst hk;rw[hdst]at hd1;cases hd1
  ·exact Qi (hm.done k o1 d x hk hlk hd1 hx)
 |some d=>
  have hne:∀{k:Nat}{o1:Oper},L[k]?=some o1->listed[k]?=some true->o1.dst≠some d:=fun{k o1} hk hlk hd1=>by
   have:=hd.uniq k j o1 o d hk ho hd1 hdst;subst this;rw[hj]at hlk;cases hlk
  refine⟨hs',hm.defers,by simp[Act.put,hm.size],by simp[hm.oN],fun t v x h1 h2 h3=>?_,fun k o1 d1 x hk hlk hd1 hx=>?_,AB,hclosed⟩
  ·have:d≠t:=fun e=>by subst e;exact h1 j o ho hdst ((hget j).2 (.inl rfl))
   simp only[Act.put,pG,bg this]at h3;exact hmono (hm.base t v x (fun k o1 hk hd1 hl=>h1 k o1 hk hd1 ((hget k).2 (.inr hl))) h2 h3)
  ·rw[hget]at hlk;simp only[Act.put]at hx⊢;rw[pG]at hx;rcases hlk with rfl|hlk
   ·rw[ho]at hk;simp at hk;subst hk;rw[hdst]at hd1;simp at hd1;subst hd1;rw[bf rfl]at hx;split at hx
    ·simp at hx;subst hx;refine hv.put fun g b y e he=>?_
     obtain⟨k',o',h1,h2,h3⟩:=mM g b y e;subst he;exact hne h1 h3 h2
    ·cases hx
   ·have hdd:d≠d1:=fun e=>by subst e;exact hne hk hlk hd1
    rw[bg hdd]at hx;refine(Qi (hm.done k o1 d1 x hk hlk hd1 hx)).put fun g b y e he=>?_
    obtain⟨k',o',h1,h2,h3⟩:=hm.opts k g b y hlk e;subst he;exact hne h1 h3 h2
def todo(listed:Array Bool):Nat:=(listed.toList.filter fun b=> !b).length
theorem Qj{listed:Array Bool}{j:Nat}(h:listed[j]?=some false):todo (listed.setIfInBounds j true)+1=todo listed:=by
 have key:∀(l:List Bool)(j:Nat),l[j]?=some false->((l.set j true).filter fun b=> !b).length+1=(l.filter fun b=> !b).length:=fun l=>by
  induction l with
  |nil=>intro j h;simp at h
  |cons x r ih=>
   intro j h;cases j with
   |zero=>simp at h;subst h;simp
   |succ j=>
    have:=ih j (by simpa using h);simp only[List.set_cons_succ,List.filter_cons];cases x
    ·simp only[bp,Dx,aE];omega
    ·simp only[bV,kB,lS];omega
 simp only[todo,Array.toList_setIfInBounds];exact key _ _ (by simpa using h)
theorem Qk{listed:Array Bool}(h:todo listed=0){j:Nat}:listed[j]?≠some false:=fun hj=>by
 have hm:false∈listed.toList:=by
  rw[List.mem_iff_getElem?];exact⟨j,by simpa using hj⟩
 have:false∈listed.toList.filter fun b=> !b:=by simp[hm]
 rw[mE h]at this;cases this
theorem Ql{L:List Oper}(he:kG L 0=true){listed:Array Bool}(hl:listed.size=L.length)(hr:Region.ready .any L.toArray listed=[]):∀(i:Nat),i<L.length->listed[i]?=some true:=by
 intro i
 induction i using Nat.strongRecOn with
 |_ i ih=>
  intro hi;have ho:=cJ hi;cases hb:listed[i]? with
  |none=>rw[Array.getElem?_eq_none_iff]at hb;omega
  |some b=>
   cases b with
   |true=>rfl
   |false=>
    have:i∈Region.ready .any L.toArray listed:=mem_ready.2 ⟨Az.2 hb,L[i],by simp[hi],fun e vB _=>by
     have:=(Ax L 0 i _ he ho e vB).1;exact J2.2 (ih e.on (by omega) (by omega))⟩
    rw[hr]at this;cases this
theorem aeF{cx:Cx K}(hD:bT cx.D)(hc:aY cx){L:List Oper}(J3:∀(i:Nat) o,L[i]?=some o->oI cx o.op=true)(he:kG L 0=true){cf fw:List (AV K)}{vals:Nat->AV K}(hd:En cx L (iQ L []) H cf fw vals)(h0:dG cf)
 {n0:Nat} (hn:n0<=H.length) {Q:Exit->Act->World->Prop}:∀(fuel:Nat)(listed:Array Bool)(ρ:List Value)(S:Nat->Prop)(a:Act)(w:World),Mid cx L cf vals H ρ S listed a w->todo listed<=fuel->
 (∀ρ' S' a' w',aM cx.D ρ' S' w' H->fq cx.D ρ' S' w' fw a'.tmps->a'.defers=[]->Step cx.D n0 ρ S H w ρ' S' H w'->Q .normal a' w')->wpAny cx.P .any L.toArray Q fuel listed a w:=by
 have hfin:∀(listed:Array Bool)(ρ:List Value)(S:Nat->Prop)(a:Act)(w:World),Mid cx L cf vals H ρ S listed a w->Region.ready .any L.toArray listed=[]->fq cx.D ρ S w fw a.tmps:=fun listed ρ S a w hm hr=>by
  have hall:=Ql he hm.oN hr;refine⟨by rw[hd.len,hm.size],fun t v x hv hx=>?_⟩;rcases xR L t with hnd|⟨k,o,hk,hkd⟩
  ·rw[hd.rest t hnd]at hv;exact .kH (hm.base t v x (fun k o hk hkd=>absurd hkd (hnd k o hk)) hv hx)
  ·rw[hd.fin k o t hk hkd]at hv;simp only[aw]at hv;subst hv;exact hm.done k o t x hk (hall k (cF.1 hk).1) hkd hx
 intro fuel
 induction fuel with
 |zero=>
  intro listed ρ S a w hm ht hq;have hr:Region.ready .any L.toArray listed=[]:=by
   cases hh:Region.ready .any L.toArray listed with
   |nil=>rfl
   |cons j r=>
    have:j∈Region.ready .any L.toArray listed:=by rw[hh];simp
    exact absurd (Az.1 (mem_ready.1 this).1) (Qk (by omega))
  exact⟨hr,hq ρ S a w hm.heap (hfin listed ρ S a w hm hr) hm.defers Step.refl⟩
 |succ fuel ih=>
  intro listed ρ S a w hm ht hq;refine⟨fun hr=>hq ρ S a w hm.heap (hfin listed ρ S a w hm hr) hm.defers Step.refl,fun j hj=>?_⟩;obtain⟨ry,o,hoj,hall⟩:=mem_ready.1 hj;have im:=Az.1 ry;have ho:L[j]?=some o:=by simpa using hoj
  have lY:∀e∈o.after,listed[e.on]?=some true:=fun e vB=>J2.1 (hall e vB (Ax L 0 j o he ho e vB).2)
  obtain⟨dj,dY,H1,s1,s2,s3,s4,s5⟩:=hd.slot j o ho;obtain⟨hsl,hkn⟩:=hm.slots rfl he hd h0 ho im lY s2 s3 s4;have hH1:H1=H:=by
   have hsm:=J3 j o ho;unfold jd at s1;split at s1
   ·cases s1
   ·split at s1
    ·rename_i hy;split at s1
     ·cases s1
     ·simp only[aw,aP]at s1;obtain⟨-,rfl,-⟩:=s1;exact xP hy
    ·cases s1
   ·split at s1
    ·split at s1
     ·split at s1
      ·split at s1
       ·rename_i hy;split at s1
        ·cases s1
        ·simp only[aw,aP]at s1;obtain⟨-,rfl,-⟩:=s1;exact xP hy
       ·cases s1
      ·simp only[aw,aP]at s1;exact s1.2.1.symm
     ·cases s1
    split at s1
    ·cases s1
    ·split at s1
     ·split at s1
      ·simp only[aw,aP]at s1;exact s1.2.1.symm
      ·cases s1
     ·cases s1
  subst hH1;have mM:∀g b y,vals j=.opt g b y->∃(k':Nat)(o':Oper),L[k']?=some o'/\o'.dst=some g/\listed[k']?=some true:=fun g b y e=>by
   rw[e]at s1;obtain⟨v,g1,g2⟩:=Qh s1;rcases hkn g v g1 g2 with hn'|h
   ·obtain⟨k,o',hk,h2,h3⟩:=s5 g (vA s1 g b y rfl);exact absurd h3 (hn' k o' hk h2)
   ·exact h
  have hw:=JS hD hc hm.heap hsl (ops:=L) s1 rfl (k:=wpAny cx.P .any L.toArray Q fuel (listed.setIfInBounds j true)) (Q:=Q) fun u ρ1 S1 w1 q1 q2 q3=>by
   have hm1:=hm.put hd ho im lY q1 q3 q2 mM;refine ih _ ρ1 S1 _ w1 hm1 (by have:=Qj im;omega) fun ρ' S' a' w' g1 g2 g3 g4=>hq ρ' S' a' w' g1 g2 g3 ((q3.weaken hn).trans g4)
  unfold wpOp;rw[hoj];dsimp only;split
  ·rename_i hwt;rw[bf hwt]at hw;exact .inl hw
  ·rename_i hwt;rw[bg hwt]at hw;exact hw
theorem Qm(n:Nat):todo (Array.replicate n false)<=n:=by
 simp only[todo,Array.toList_replicate];exact lQ (List.length_filter_le _ _) (by simp)
end Go.V
namespace Go.V
open Go
variable {K :di}{ρ ρ':List Value}{S S':Nat->Prop}{w w':World}{H H':List (Ob K)}{D:bC K}
theorem AD{bits:Nat}:∀(l:List (Ob K))(i k:Nat),(je bits i l)[k]?=(l[k]?).map fun o=>if bits.testBit (i+k)then .dead else o
 |[],i,k=>by simp[je]
 |o::r,i,0=>by simp[je]
 |o::r,i,k+1=>by
  simp only[je,List.getElem?_cons_succ];rw[AD r (i+1) k,show i+1+k=i+(k+1) by omega]
theorem AE{bits:Nat}:∀(l:List (Ob K))(i:Nat),(je bits i l).length=l.length
 |[],i=>rfl
 |o::r,i=>by simp only[je,aE,AE r]
theorem Eo{bits:Nat}:∀(l l':List (Ob K))(i:Nat),l.length<=l'.length->(lr bits i l l').length=l'.length
 |[],l',i,_=>by simp[lr]
 |o::r,[],i,h=>by simp at h
 |o::r,o'::r',i,h=>by
  simp only[lr,aE];rw[Eo r r' (i+1) (by simpa using h)]
theorem Ep{bits:Nat}:∀(l l':List (Ob K))(i k:Nat),l.length<=l'.length->(lr bits i l l')[k]?=if k<l.length/\bits.testBit (i+k)=true then l[k]? else l'[k]?
 |[],l',i,k,_=>by simp[lr]
 |o::r,[],i,k,h=>by simp at h
 |o::r,o'::r',i,0,h=>by
  simp only[lr,List.getElem?_cons_zero,aE,Nat.add_zero];by_cases hb:bits.testBit i=true<;>simp[hb]
 |o::r,o'::r',i,k+1,h=>by
  simp only[lr,List.getElem?_cons_succ,aE,Nat.add_lt_add_iff_right];rw[Ep r r' (i+1) k (by simpa using h),show i+1+k=i+(k+1) by omega]
theorem vC{n:Nat}:∀{l:List (AV K)}{i:Nat}{v:AV K},pO n l=true->l[i]?=some v->v.upto n=true
 |[],i,v,_,h=>by simp at h
 |x::r,0,v,h,hv=>by simp at hv;subst hv;simp only[pO,bu]at h;exact h.1
 |x::r,i+1,v,h,hv=>by simp only[pO,bu]at h;exact vC h.2 (by simpa using hv)
theorem Rep.take(hD:bT D){n:Nat}{v:AV K}{x:Value}(h:Rep D ρ S w v x):v.upto n=true->Rep D (ρ.take n) S w v x:=by
 have tk:∀{k:Nat}{r:Value},k<n->ρ[k]?=some r->(ρ.take n)[k]?=some r:=fun hk hr=>by rw[fj,bf hk];exact hr
 induction h with
 |any v=>exact fun _=>.any v
 |int k n=>exact fun _=>.int k n
 |bool b=>exact fun _=>.bool b
 |str s=>exact fun _=>.str s
 |dD=>exact fun _=>.dD
 |dt=>exact fun _=>.dt
 |mp r=>exact fun _=>.mp r
 |fn hl _ ih=>exact fun hu=>.fn hl fun i v x h1 h2=>ih i v x h1 h2 (vC (by simpa [AV.upto]using hu) h1)
 |lx=>exact fun _=>.lx
 |np hp=>exact fun hu=>.np (tk (by simpa [AV.upto]using hu) hp)
 |ptr hp=>exact fun hu=>.ptr (tk (by simpa [AV.upto]using hu) hp)
 |sl hp=>exact fun hu=>.sl (tk (by simpa [AV.upto]using hu) hp)
 |ep hp hi=>exact fun hu=>.ep (tk (by simpa [AV.upto]using hu) hp) hi
 |vw hp h1 h2 ha=>exact fun hu=>.vw (tk (by simpa [AV.upto]using hu) hp) h1 h2 ha
 |fm a cap=>exact fun _=>.fm a cap
 |ax val h1 h2 h3 h4 h5 ih=>exact fun _=>(Rep.ax val h1 h2 h3 h4 h5).closed hD rfl
 |rp vs h1 h2 h3 h4 ih=>exact fun _=>(Rep.rp vs h1 h2 h3 h4).closed hD rfl
 |agg hl _ ih=>exact fun hu=>.agg hl fun i v x h1 h2=>ih i v x h1 h2 (vC (by simpa [AV.upto]using hu) h1)
 |bA hl _ ih=>exact fun hu=>.bA hl fun i v x h1 h2=>ih i v x h1 h2 (vC (by simpa [AV.upto]using hu) h1)
theorem bc.aeG(hD:bT D){n:Nat}{l:List (AV K)}{vs:List Value}(h:bc D ρ S w l vs)(hu:pO n l=true):bc D (ρ.take n) S w l vs:=
 ⟨h.1,fun i v x h1 h2=>(h.2 i v x h1 h2).take hD (vC hu h1)⟩
def dummy:Value:=.bool false
theorem Rep.mono'(hS:∀b,S b->S' b)(hw:∀b,S b->w'.heap[b]?=w.heap[b]?)(hρ:∀(h:Nat) r,ρ[h]?=some r->r≠dummy->ρ'[h]?=some r){v:AV K}{x:Value}
 (h:Rep D ρ S w v x):Rep D ρ' S' w' v x:=by
 induction h with
 |any v=>exact .any v
 |int k n=>exact .int k n
 |bool b=>exact .bool b
 |str s=>exact .str s
 |dD=>exact .dD
 |dt=>exact .dt
 |mp r=>exact .mp r
 |fn hl _ ih=>exact .fn hl ih
 |lx=>exact .lx
 |np hp=>exact .np (hρ _ _ hp (by simp[dummy]))
 |ptr hp=>exact .ptr (hρ _ _ hp (by simp[dummy]))
 |sl hp=>exact .sl (hρ _ _ hp (by simp[dummy]))
 |ep hp hi=>exact .ep (hρ _ _ hp (by simp[dummy])) hi
 |vw hp h1 h2 ha=>exact .vw (hρ _ _ hp (by simp[dummy])) h1 h2 ha
 |fm a cap=>exact .fm a cap
 |ax val h1 h2 h3 h4 _ ih=>exact .ax val (hS _ h1) h2 h3 (fun i hi=>(h4 i hi).keep (hw _ h1)) ih
 |rp vs h1 h2 h3 _ ih=>exact .rp vs (hS _ h1) h2 (h3.keep (hw _ h1)) ih
 |agg hl _ ih=>exact .agg hl ih
 |bA hl _ ih=>exact .bA hl ih
theorem bc.mono'(hS:∀b,S b->S' b)(hw:∀b,S b->w'.heap[b]?=w.heap[b]?)(hρ:∀(h:Nat) r,ρ[h]?=some r->r≠dummy->ρ'[h]?=some r){l:List (AV K)}{vs:List Value}
 (h:bc D ρ S w l vs):bc D ρ' S' w' l vs:=⟨h.1,fun i v x hv hx=>(h.2 i v x hv hx).mono' hS hw hρ⟩
theorem gX.take(hD:bT D){n:Nat}{o:Ob K}{r:Value}(h:gX D ρ S w o r)(hu:o.upto n=true):gX D (ρ.take n) S w o r:=by
 cases o with
 |dead=>trivial
 |gW c l=>exact Rep.closed hD h rfl
 |box cs=>
  obtain⟨b,vs,T,h1,h2,h3,h4⟩:=h;exact⟨b,vs,T,h1,h2,h3.aeG hD hu,h4⟩
 |arr c l=>
  rcases h with h|⟨b,o,cap,vs,T,fr,h1,h2,h3,h4,h5,h6⟩
  ·exact .inl h
  ·exact .inr ⟨b,o,cap,vs,T,fr,h1,h2,h3,h4,h5,fun i x hx=>(h6 i x hx).closed hD (hD.closed _ _)⟩
 |tree c l=>exact h
 |opn c l i off cs=>exact pS.keep (fun j v u hv hr=>hr.take hD (vC hu hv)) (fun _ _=>rfl) h
theorem gX.mono'(hS:∀b,S b->S' b)(hw:∀b,S b->w'.heap[b]?=w.heap[b]?)(hρ:∀(h:Nat) r,ρ[h]?=some r->r≠dummy->ρ'[h]?=some r){o:Ob K}{r:Value}(h:gX D ρ S w o r)
 (hb:∀b,o.live=true->cG D w o r b->w'.heap[b]?=w.heap[b]?):gX D ρ' S' w' o r:=by
 cases o with
 |dead=>trivial
 |gW c l=>exact Rep.mono' hS hw hρ h
 |box cs=>
  obtain⟨b,vs,T,rfl,h2,h3,h4⟩:=h;exact⟨b,vs,T,rfl,by rw[hb b rfl rfl];exact h2,h3.mono' hS hw hρ,h4⟩
 |arr c l=>
  rcases h with h|⟨b,o,cap,vs,T,fr,rfl,h2,h3,h4,h5,h6⟩
  ·exact .inl h
  ·exact .inr ⟨b,o,cap,vs,T,fr,rfl,by rw[hb b rfl rfl];exact h2,h3,h4,h5,fun i x hx=>(h6 i x hx).mono' hS hw hρ⟩
 |tree c l=>exact Tree.mono h fun k hk=>hb k rfl hk
 |opn c l i off cs=>exact pS.keep (fun _ _ _ _ hr=>hr.mono' hS hw hρ) (fun k hk=>hb k rfl hk) h
structure View (n:Nat) (H Hv:List (Ob K)):Prop where
 len:Hv.length=n
 le:n<=H.length
 ob:∀(h:Nat) o,Hv[h]?=some o->o=.dead\/H[h]?=some o
 up:∀(h:Nat) o,Hv[h]?=some o->o.upto n=true
theorem View.lt{n:Nat}{H Hv:List (Ob K)}(v:View n H Hv){h:Nat}{o:Ob K}(ho:Hv[h]?=some o):h<n:=by
 have:=(cF.1 ho).1;rw[v.len]at this;exact this
theorem View.live{n:Nat}{H Hv:List (Ob K)}(v:View n H Hv){h:Nat}{o:Ob K}(ho:Hv[h]?=some o)(hl:o.live=true):H[h]?=some o:=by
 rcases v.ob h o ho with rfl|h
 ·cases hl
 ·exact h
theorem View.own{n:Nat}{H Hv:List (Ob K)}(v:View n H Hv){b:Nat}(h:Own D w (ρ.take n) Hv b):Own D w ρ H b:=by
 obtain⟨h,o,r,h1,h2,h3,h4⟩:=h;rw[fj,bf (v.lt h1)]at h3;exact⟨h,o,r,v.live h1 h2,h2,h3,h4⟩
theorem aM.view(hD:bT D){n:Nat}{H Hv:List (Ob K)}(hs:aM D ρ S w H)(v:View n H Hv):aM D (ρ.take n) S w Hv:={
 len:=by rw[ov,hs.len,v.len];have:=v.le;omega
 ob:=fun h o r ho hr=>by
  rw[fj,bf (v.lt ho)]at hr;rcases v.ob h o ho with rfl|h1
  ·trivial
  ·exact(hs.ob h o r h1 hr).take hD (v.up h o ho)
 ff:=fun h h' o o' r r' b h1 h2 h3 h4 h5 h6 h7 h8=>by
  rw[fj,bf (v.lt h1)]at h3;rw[fj,bf (v.lt h5)]at h7;exact hs.ff h h' o o' r r' b (v.live h1 h2) h2 h3 h4 (v.live h5 h6) h6 h7 h8
 lt:=fun b hb=>hs.lt b (v.own hb)
 slt:=hs.slt
 base:=hs.base}
structure Joined (n m:Nat) (H Hv H1 Hf:List (Ob K)):Prop where
 le:n<=m
 len1:H1.length=m
 len:Hf.length=H.length
 Qn:m<=H.length
 ob:∀(h:Nat) o,Hf[h]?=some o->(h<m/\H1[h]?=some o)\/(H[h]?=some o/\((h<n/\Hv[h]?=some .dead)\/m<=h))
theorem Qo{n m:Nat}{ρ ρ1:List Value}(hl:ρ1.length=m)(hm:m<=ρ.length)(k:Nat):(ρ1++ρ.drop m)[k]?=if k<m then ρ1[k]? else ρ[k]?:=by
 by_cases h:k<m
 ·rw[bf h,dX (by omega)]
 ·rw[bg h,eZ (by omega),jm];congr 1;omega
theorem aM.join{n m n0:Nat}{H Hv H1 Hf:List (Ob K)}{ρ1:List Value}{S1:Nat->Prop}{w1:World}(hs:aM D ρ S w H)(v:View n H Hv)(hs1:aM D ρ1 S1 w1 H1)(st:Step D n (ρ.take n) S Hv w ρ1 S1 H1 w1)(j:Joined n m H Hv H1 Hf)
 (hd:∀h,n<=h->h<m->ρ[h]?=some dummy) (hn0:n0<=n):aM D (ρ1++ρ.drop m) S1 w1 Hf/\Step D n0 ρ S H w (ρ1++ρ.drop m) S1 Hf w1/\∀(h:Nat) r,ρ[h]?=some r->r≠dummy->(ρ1++ρ.drop m)[h]?=some r:=by
 have hl1:ρ1.length=m:=by rw[hs1.len,j.len1]
 have aeH:m<=ρ.length:=by rw[hs.len];exact j.Qn
 have hρ:∀k,(ρ1++ρ.drop m)[k]?=if k<m then ρ1[k]? else ρ[k]?:=Qo (n:=n) hl1 aeH
 have hpre:∀h,h<n->ρ1[h]?=ρ[h]?:=fun h hh=>by rw[st.pre h hh,fj,bf hh]
 have hmono:∀(h:Nat) r,ρ[h]?=some r->r≠dummy->(ρ1++ρ.drop m)[h]?=some r:=fun h r hr hne=>by
  rw[hρ];by_cases h1:h<m
  ·rw[bf h1];by_cases h2:h<n
   ·rw[hpre h h2];exact hr
   ·rw[hd h (by omega) h1]at hr;exact absurd (ie hr).symm hne
  ·rw[bg h1];exact hr
 have hun:∀{h:Nat}{o:Ob K}{r:Value}{b:Nat},H[h]?=some o->o.live=true->ρ[h]?=some r->cG D w o r b->((h<n/\Hv[h]?=some .dead)\/m<=h)->¬Own D w (ρ.take n) Hv b:=fun{h o r b} h1 h2 h3 h4 h5 ho=>by
  obtain⟨h',o',r',g1,g2,g3,g4⟩:=ho;have g3':ρ[h']?=some r':=by rw[fj,bf (v.lt g1)]at g3;exact g3
  have e:=hs.ff h h' o o' r r' b h1 h2 h3 h4 (v.live g1 g2) g2 g3' g4;subst e;rcases h5 with⟨-,h5⟩|h5
  ·rw[g1]at h5;simp at h5;subst h5;cases g2
  ·have:=v.lt g1;have:=j.le;omega
 have hblk:∀{h:Nat}{o:Ob K}{r:Value}{b:Nat},H[h]?=some o->o.live=true->ρ[h]?=some r->cG D w o r b->b<w.heap.size/\¬S b:=fun{h o r b} h1 h2 h3 h4=>hs.lt b ⟨h,o,r,h1,h2,h3,h4⟩
 have hkp:∀{h:Nat}{o:Ob K}{r:Value},H[h]?=some o->o.live=true->ρ[h]?=some r->((h<n/\Hv[h]?=some .dead)\/m<=h)->∀b,cG D w o r b->w1.heap[b]?=w.heap[b]?:=fun{h o r} h1 h2 h3 h5 b h4=>st.old b (hblk h1 h2 h3 h4).1 (hun h1 h2 h3 h4 h5)
 have hrr:∀{h:Nat}{o:Ob K}{r:Value},H[h]?=some o->((h<n/\Hv[h]?=some .dead)\/m<=h)->(ρ1++ρ.drop m)[h]?=some r->ρ[h]?=some r:=fun{h o r} _ h5 hr=>by
  rw[hρ]at hr;rcases h5 with⟨h5,-⟩|h5
  ·rw[bf (by have:=j.le;omega),hpre h h5]at hr;exact hr
  ·rw[bg (by omega)]at hr;exact hr
 have hown:∀b,Own D w1 (ρ1++ρ.drop m) Hf b->Own D w1 ρ1 H1 b\/∃(h:Nat)(o:Ob K)(r:Value),H[h]?=some o/\o.live=true/\ρ[h]?=some r/\cG D w o r b/\((h<n/\Hv[h]?=some .dead)\/m<=h):=fun b hb=>by
  obtain⟨h,o,r,g1,g2,g3,g4⟩:=hb;rcases j.ob h o g1 with⟨k1,k2⟩|⟨k1,k2⟩
  ·rw[hρ,bf k1]at g3;exact .inl ⟨h,o,r,k2,g2,g3,g4⟩
  ·exact .inr ⟨h,o,r,k1,g2,hrr k1 k2 g3,g4.old (hkp k1 g2 (hrr k1 k2 g3) k2),k2⟩
 have hnew:∀b,Own D w1 ρ1 H1 b->Own D w (ρ.take n) Hv b\/w.heap.size<=b:=st.own;refine⟨⟨?_,?_,?_,?_,hs1.slt,hs1.base⟩,⟨st.os,st.tape,st.output,st.size,fun b hb ho=>st.old b hb fun h=>ho (v.own h),fun b hb=>?_,st.s1,fun b hb=>?_,fun h hh=>?_⟩,hmono⟩
 ·rw[aG,List.length_drop,hl1,hs.len,j.len];have:=j.Qn;omega
 ·intro h o r g1 g2;rcases j.ob h o g1 with⟨k1,k2⟩|⟨k1,k2⟩
  ·rw[hρ,bf k1]at g2;refine(hs1.ob h o r k2 g2).mono' (fun _ h=>h) (fun _ _=>rfl) (fun h' r' hr' _=>?_) (fun _ _ _=>rfl);have:h'<m:=by have:=(cF.1 hr').1;omega
   rw[hρ,bf this];exact hr'
  ·have g2':=hrr k1 k2 g2;exact(hs.ob h o r k1 g2').mono' st.s1 (fun b hb=>st.old b (hs.slt b hb) fun ho=>(hs.lt b (v.own ho)).2 hb) hmono fun b hl hbk=>st.old b (hblk k1 hl g2' hbk).1 (hun k1 hl g2' hbk k2)
 ·intro h h' o o' r r' b g1 g2 g3 g4 g5 g6 g7 g8;rcases j.ob h o g1 with⟨k1,k2⟩|⟨k1,k2⟩<;>rcases j.ob h' o' g5 with⟨l1,l2⟩|⟨l1,l2⟩
  ·rw[hρ,bf k1]at g3;rw[hρ,bf l1]at g7;exact hs1.ff h h' o o' r r' b k2 g2 g3 g4 l2 g6 g7 g8
  ·rw[hρ,bf k1]at g3;have J4:=hrr l1 l2 g7;have g8:=g8.old (hkp l1 g6 J4 l2);rcases hnew b ⟨h,o,r,k2,g2,g3,g4⟩with ho|ho
   ·exact absurd ho (hun l1 g6 J4 g8 l2)
   ·have:=(hblk l1 g6 J4 g8).1;omega
  ·rw[hρ,bf l1]at g7;have g3':=hrr k1 k2 g3;have g4:=g4.old (hkp k1 g2 g3' k2);rcases hnew b ⟨h',o',r',l2,g6,g7,g8⟩with ho|ho
   ·exact absurd ho (hun k1 g2 g3' g4 k2)
   ·have:=(hblk k1 g2 g3' g4).1;omega
  ·exact hs.ff h h' o o' r r' b k1 g2 (hrr k1 k2 g3) (g4.old (hkp k1 g2 (hrr k1 k2 g3) k2)) l1 g6 (hrr l1 l2 g7) (g8.old (hkp l1 g6 (hrr l1 l2 g7) l2))
 ·intro b hb;rcases hown b hb with ho|⟨h,o,r,k1,k2,k3,k4,k5⟩
  ·exact hs1.lt b ho
  ·obtain⟨a1,a2⟩:=hblk k1 k2 k3 k4;refine⟨kC a1 st.size,fun hS=>?_⟩;rcases st.s2 b hS with h1|h1|h1
   ·exact a2 h1
   ·exact hun k1 k2 k3 k4 k5 h1
   ·omega
 ·rcases hown b hb with ho|⟨h,o,r,k1,k2,k3,k4,-⟩
  ·rcases hnew b ho with h1|h1
   ·exact .inl (v.own h1)
   ·exact .inr h1
  ·exact .inl ⟨h,o,r,k1,k2,k3,k4⟩
 ·rcases st.s2 b hb with h1|h1|h1
  ·exact .inl h1
  ·exact .inr (.inl (v.own h1))
  ·exact .inr (.inr h1)
 ·rw[hρ,bf (by have:=j.le;omega),hpre h (by omega)]
end Go.V
namespace Go.V
open Go
variable {K :di}{H H':List (Ob K)}
def cD(T:List Nat)(H H':List (Ob K)):Prop:=H.length<=H'.length/\∀h,h<H.length->h∉T->H'[h]?=H[h]?
theorem cD.refl(T:List Nat)(H:List (Ob K)):cD T H H:=⟨cq _,fun _ _ _=>rfl⟩
theorem cD.app(T:List Nat)(H N:List (Ob K)):cD T H (H++N):=⟨by simp,fun h hh _=>dX hh⟩
theorem cD.trans{T:List Nat}{H H1 H2:List (Ob K)}(a:cD T H H1)(b:cD T H1 H2):cD T H H2:=
 ⟨lQ a.1 b.1,fun h hh hn=>(b.2 h (kC hh a.1) hn).trans (a.2 h hh hn)⟩
theorem cD.set{T:List Nat}{H:List (Ob K)}{h:Nat}(o:Ob K)(hT:h∈T):cD T H (H.set h o):=
 ⟨by simp,fun k _ hn=>List.getElem?_set_ne (fun e=>hn (by rw[<-e];exact hT))⟩
theorem cD.more{T T':List Nat}{H H1:List (Ob K)}(a:cD T H H1)(h:∀x∈T,x∈T'):cD T' H H1:=⟨a.1,fun k hk hn=>a.2 k hk fun hm=>hn (h k hm)⟩
theorem J5(dp:K.U->Bool):∀(cs:List (Option K.U))(l:List (AV K))(H:List (Ob K)),∃N,(thaw dp H cs l).2=H++N
 |[],l,H=>⟨[],by simp[thaw]⟩
 |some c::cs,[],H=>⟨[],by simp[thaw]⟩
 |none::cs,[],H=>⟨[],by simp[thaw]⟩
 |oc::cs,v::r,H=>by
  have keep:thaw dp H (oc::cs) (v::r)=(v::(thaw dp H cs r).1,(thaw dp H cs r).2)->∃N,(thaw dp H (oc::cs) (v::r)).2=H++N:=fun e=>by
   rw[e];exact J5 dp cs r H
  cases oc with
  |none=>exact keep (by cases v<;>rfl)
  |some c=>
   cases v with
   |dt=>
    have e:thaw dp H (some c::cs) (.dt::r)=(.sl H.length::(thaw dp (H++[oK (dp c) c]) cs r).1,(thaw dp (H++[oK (dp c) c]) cs r).2):=rfl;rw[e];obtain⟨N,hN⟩:=J5 dp cs r (H++[oK (dp c) c]);exact⟨oK (dp c) c::N,by simp only;rw[hN];simp⟩
   |_=>exact keep rfl
theorem J6(T:List Nat)(dp:K.U->Bool)(cs:List (Option K.U))(l:List (AV K))(H:List (Ob K)):cD T H (thaw dp H cs l).2:=by
 obtain⟨N,hN⟩:=J5 dp cs l H;rw[hN];exact cD.app _ _ _
theorem aeI{T:List Nat}{h:Nat}(hT:h∈T)(H:List (Ob K)):cD T H (u6 H h):=by
 unfold u6;split
 ·exact cD.set _ hT
 ·exact cD.set _ hT
 ·exact cD.refl _ _
theorem Es{T:List Nat}:∀(l:List Nat)(H:List (Ob K)),(∀x∈l,x∈T)->cD T H (jq H l)
 |[],H,_=>cD.refl _ _
 |h::r,H,hT=>(aeI (hT h (by simp)) H).trans (Es r _ fun x hx=>hT x (by simp[hx]))
def rC(ev:Operand->AV K)(op:Op):List Nat:=(match op with
    |.store _ p _=>hands (ev p)
    |.convert _ _ x=>hands (ev x)
    |.call {callee:=.builtin .append,args, ..}=>(match args.toList with
      |s::x::_=>hands (ev s)++hands (ev x)
      |[s]=>hands (ev s)
      |[]=>[])
    |.call {callee:=.builtin .clear,args, ..}=>(match args.toList with
      |s::_=>hands (ev s)
      |[]=>[])
    |.call {callee:=.builtin .copy,args, ..}=>(match args.toList with
      |s::_=>hands (ev s)
      |[]=>[])
    |_=>[])
theorem aeJ{cx:Cx K}{sT:TypeId}{s x v:AV K}{c:Bool}{t:List Nat}(h:zX cx H sT s x=some (v,H',c,t)):cD (hands s) H H':=by unfold zX at h;cases h
theorem aeK{cx:Cx K}{sT:TypeId}{s x v:AV K}{c:Bool}{t:List Nat}(h:DG cx H sT s x=some (v,H',c,t)):cD (hands s) H H':=by
 unfold DG at h;split at h
 ·cases h
 ·split at h
  ·cases h
  ·split at h
   ·split at h
    ·cases h
    ·split at h
     ·simp only[aw,aP]at h;rw[<-h.2.1];exact cD.app _ _ _
     ·split at h
      ·split at h
       ·cases h
       ·split at h
        ·simp only[aw,aP]at h;rw[<-h.2.1];exact(cD.set _ (by simp[hands])).trans (cD.app _ _ _)
        ·cases h
      ·split at h
       ·simp only[aw,aP]at h;rw[<-h.2.1];exact(cD.set _ (by simp[hands])).trans (cD.app _ _ _)
       ·cases h
     ·cases h
   ·cases h
theorem Qp{cx:Cx K}{ev:Operand->AV K}{op:Op}{v:AV K}{c:Bool}{t:List Nat}(h:va cx ev H op=some (v,H',c,t)):cD (rC ev op) H H':=by
 unfold va at h;split at h
 ·split at h
  ·dsimp only at h;split at h
   ·cases h
   ·simp only[aw,aP]at h;rw[<-h.2.1];exact(J6 _ _ _ _ _).trans (cD.app _ _ _)
  ·cases h
 ·split at h
  ·split at h
   ·dsimp only at h;split at h
    ·cases h
    ·simp only[aw,aP]at h;rw[<-h.2.1];exact(J6 _ _ _ _ _).trans (cD.app _ _ _)
   ·cases h
  ·split at h
   ·simp only[aw,aP]at h;rw[<-h.2.1];exact cD.app _ _ _
   ·cases h
 ·split at h
  ·split at h
   ·simp only[fA,aP]at h;obtain⟨cs,-,-,rfl,-⟩:=h;exact cD.refl _ _
   ·cases h
  ·cases h
 ·split at h
  ·split at h
   ·split at h
    ·rename_i hh off hp;split at h
     ·split at h
      ·dsimp only at h;split at h
       ·cases h
       ·simp only[aw,aP]at h;rw[<-h.2.1];refine(J6 _ _ _ _ _).trans (cD.set _ ?_);simp only[rC,hp,hands,ej]
      ·cases h
     ·cases h
    ·rename_i hh st i off hp;split at h
     ·split at h
      ·split at h
       ·simp only[aw,aP]at h;rw[<-h.2.1];refine cD.set _ ?_;simp only[rC,hp,hands,ej]
       ·cases h
      ·cases h
     ·cases h
    ·cases h
   ·cases h
  ·cases h
 ·split at h
  ·cases h
  ·split at h
   ·split at h
    ·split at h
     ·simp only[aw,aP]at h;rw[<-h.2.1];exact cD.app _ _ _
     ·cases h
    ·cases h
   ·cases h
 ·split at h
  ·cases h
  ·split at h
   ·split at h
    ·split at h
     ·simp only[aw,aP]at h;rw[<-h.2.1];exact cD.app _ _ _
     ·cases h
    ·cases h
   ·cases h
 ·split at h
  ·split at h
   ·split at h
    ·split at h
     ·simp only[aw,aP]at h;rw[<-h.2.1];exact cD.app _ _ _
     ·cases h
    ·cases h
   ·cases h
  ·split at h
   ·split at h
    ·simp only[aw,aP]at h;rw[<-h.2.1];exact cD.refl _ _
    ·cases h
   ·cases h
  ·cases h
 ·simp only[aw,aP]at h;rw[<-h.2.1];exact cD.app _ _ _
 ·split at h
  ·rename_i s x sT xT ha ht;split at h
   ·cases h
   split at h
   ·refine(aeJ h).more fun y hy=>?_
    simp only[rC,ha];exact df.2 (.inl hy)
   ·refine(aeK h).more fun y hy=>?_
    simp only[rC,ha];exact df.2 (.inl hy)
  ·cases h
 ·cases h
mutual
theorem mN:∀(v:AV K){y:Nat},y∈hands (eK H v)->y∈hands v
 |.sl k,y,h=>by
   simp only[eK]at h;split at h
   ·simp[hands]at h
   ·exact h
 |.vw k a b c,y,h=>by
   simp only[eK]at h;split at h
   ·split at h
    ·simp[hands]at h
    ·exact h
   ·exact h
 |.agg l,y,h=>by simp only[eK,hands]at h⊢;exact J7 l h
 |.bA l,y,h=>by simp only[eK,hands]at h⊢;exact J7 l h
 |.any,y,h|.int _ _,y,h|.bool _,y,h|.str _,y,h|.dD,y,h|.dt,y,h|.mp,y,h|.fn _ _,y,h|.ptr _ _,y,h|.ep _ _ _ _,y,h|.ax _ _,y,h|.rp _ _ _,y,h|.np _,y,h|.opt _ _ _,y,h=>by simpa only[eK]using h
theorem J7:∀(l:List (AV K)){y:Nat},y∈cz (pM H l)->y∈cz l
 |[],y,h=>by simpa [pM]using h
 |v::r,y,h=>by
  simp only[pM,cz,df]at h⊢;exact h.imp (mN v) (J7 r)
end
theorem Qq{ev:Operand->AV K}{op:Op}{y:Nat}(h:y∈rC (fun x=>eK H (ev x)) op):y∈rC ev op:=by
 unfold rC at h⊢;split at h
 ·exact mN _ h
 ·exact mN _ h
 ·split at h
  ·rename_i hs;rcases df.1 h with h|h
   ·exact df.2 (.inl (mN _ h))
   ·exact df.2 (.inr (mN _ h))
  ·exact mN _ h
  ·simp at h
 ·split at h
  ·exact mN _ h
  ·simp at h
 ·split at h
  ·exact mN _ h
  ·simp at h
 ·simp at h
theorem Et{T:List Nat}:∀(l:List Nat)(H:List (Ob K)),(∀x∈l,x∈T)->cD T H (gv H l)
 |[],H,_=>cD.refl _ _
 |h::r,H,hT=>(cD.set _ (hT h (by simp))).trans (Et r _ fun x hx=>hT x (by simp[hx]))
theorem Qr{c:K.U}{v:AV K}{l:List (K.El c)}{ks:List Nat}(h:ri H c v=some (l,ks)):∀x∈ks,x∈hands v:=fun x hx=>by
 unfold ri at h;split at h
 ·simp only[aw,aP]at h;obtain⟨rfl,rfl⟩:=h;cases hx
 ·split at h
  ·split at h
   ·simp only[aw,aP]at h;obtain⟨-,rfl⟩:=h;simpa [hands]using hx
   ·cases h
  ·cases h
 ·cases h
theorem Qs{ev:Operand->AV K}{x:Nat}:∀(l:List (Nat×Operand)),x∈cz (l.map fun p=>eK H (ev p.2))->x∈cz (l.map fun p=>ev p.2)
 |[],h=>h
 |y::r,h=>by
  simp only[eR,cz,df]at h⊢;exact h.imp (mN _) (Qs r)
theorem aeL{v:AV K}{a b c d:Nat}(h:eK H v=.ep a b c d):v=.ep a b c d:=by
 cases v<;>simp[eK]at h⊢<;>first|exact h|(split at h<;>first|cases h|(split at h<;>cases h))
theorem aeM{cx:Cx K}{ev:Operand->AV K}{op:Op}{v:AV K}{c:Bool}{t:List Nat}(h:xq cx (fun x=>eK H (ev x)) H op=some (v,H',c,t)):cD (nk ev op) H H':=by
 unfold xq at h;split at h
 ·split at h
  ·cases h
  ·split at h
   ·split at h
    ·split at h
     ·split at h
      ·simp only[aw,aP]at h;rw[<-h.2.1];exact cD.app _ _ _
      ·cases h
     ·cases h
    ·cases h
   ·cases h
 ·rename_i T len parts;split at h
  ·cases h
  ·split at h
   ·rename_i hty hl;split at h
    ·split at h
     ·split at h
      ·simp only[aw,aP]at h;rw[<-h.2.1];refine cD.trans (Et _ _ fun x hx=>?_) (cD.app _ _ _);rw[(Eb _ _ _ hl).1]at hx;simp only[nk,qZ,sS];exact Qs _ hx
      ·cases h
     ·cases h
    ·cases h
   ·cases h
 ·rename_i T p x;split at h
  ·rename_i h0 st i off n0 hp hn;split at h
   ·split at h
    ·split at h
     ·split at h
      ·simp only[aw,aP]at h;rw[<-h.2.1];have q1:=aeL hp;have hmem:∀y∈h0::cz (eK H (ev x)).cC,y∈nk ev (.store T p x):=fun y hy=>by
        simp only[nk,qZ,q1,df];rcases fe.1 hy with rfl|hy
        ·exact .inr (by simp[hands])
        ·rw[P1]at hy;exact .inl (mN _ hy)
       exact(Et _ _ hmem).trans (cD.set _ (hmem _ (by simp)))
      ·cases h
     ·cases h
    ·cases h
   ·cases h
  ·cases h
 ·rename_i args argTypes;split at h
  ·rename_i s x sT xT hargs hat;split at h
   ·cases h
   ·split at h
    ·cases h
    ·split at h
     ·cases h
     ·split at h
      ·split at h
       ·rename_i l ks m ks' hl hm;split at h
        ·simp only[aw,aP]at h;rw[<-h.2.1];refine cD.trans (Et _ _ fun y hy=>?_) (cD.app _ _ _);simp only[nk,qZ,hargs,fB,df];rcases df.1 hy with hy|hy
         ·exact .inl (mN _ (Qr hl y hy))
         ·exact .inr (mN _ (Qr hm y hy))
        ·cases h
       ·cases h
      ·cases h
  ·cases h
 ·cases h
theorem aeN{cx:Cx K}{ev:Operand->AV K}{op:Op}{v:AV K}{c:Bool}{t:List Nat}(h:xu cx ev H op=some (v,H',c,t)):cD (nk ev op) H H':=by
 have e:nk ev op=qZ ev op++rC ev op:=rfl;unfold xu at h;split at h
 ·rename_i r hd;simp only[aw]at h;subst h;exact aeM hd
 split at h
 ·refine(Qp h).more fun y hy=>?_
  rw[e,df];exact .inr (Qq hy)
 ·have hz:cD (nk ev op) H (jq H (qZ ev op)):=Es _ _ fun x hx=>by rw[e,df];exact .inl hx
  split at h
  ·simp only[aw,aP]at h;rw[<-h.2.1];exact hz
  ·refine hz.trans ((Qp h).more fun y hy=>?_);rw[e,df];exact .inr (Qq hy)
theorem aeO{cx:Cx K}{ev:Operand->AV K}{op:Op}{v:AV K}{c:Bool}{t:List Nat}(h:cutV cx ev H op=some (v,H',c,t)):cD (nk ev op) H H':=by unfold cutV at h;cases h
theorem J8{cx:Cx K}{m:Mode}(hm:m=.jo\/m=.fresh){T:List Nat}{f:FuncId}{args:List (AV K)}{v:AV K}{c:Bool}{t:List Nat}(h:lU cx m H f args=some (v,H',c,t)):cD T H H':=by
 unfold lU at h;rcases hm with rfl|rfl
 ·simp only at h;split at h
  ·split at h
   ·split at h
    ·simp only[aw,aP]at h;rw[<-h.2.1];exact cD.app _ _ _
    ·cases h
   ·cases h
  ·cases h
 ·simp only at h;split at h
  ·split at h
   ·split at h
    ·split at h
     ·simp only[aw,aP]at h;rw[<-h.2.1];exact cD.app _ _ _
     ·cases h
    ·cases h
   ·cases h
  ·cases h
theorem Qu:∀(m:List Nat)(H os:List (Ob K)){T:List Nat},(∀x∈m,x∈T)->cD T H (jL H m os)
 |[],H,os,T,_=>by cases os<;>exact cD.refl _ _
 |h::m,H,[],T,_=>cD.refl _ _
 |h::m,H,o::r,T,hm=>by
  simp only[jL];exact cD.trans (cD.set _ (hm h (by simp))) (Qu m _ r fun x hx=>hm x (by simp[hx]))
theorem Qv{cx:Cx K}{T:List Nat}{f:FuncId}{args:List (AV K)}{v:AV K}{c:Bool}{t:List Nat}(h:lU cx .pass H f args=some (v,H',c,t))(hT:∀x∈reach H 64 (cz args) [],x∈T):cD T H H':=by
 unfold lU at h;simp only at h;split at h
 ·cases h
 ·split at h
  ·split at h
   ·split at h
    ·split at h
     ·simp only[aw,aP]at h;rw[<-h.2.1];exact cD.trans (Qu _ _ _ hT) (cD.app _ _ _)
     ·cases h
    ·cases h
   ·cases h
  ·cases h
theorem aeP{cx:Cx K}{ev:Operand->AV K}{t:TypeId}{p:Operand}{v:AV K}{c:Bool}{ts:List Nat}(h:xr cx ev H (.load t p)=some (v,H',c,ts)):cD (hands (ev p)) H H':=by unfold xr at h;cases h
theorem aeQ{cx:Cx K}{tm:List (AV K)}{T t:TypeId}{p:Operand}{v:AV K}{c:Bool}{ts:List Nat}(hn:jr cx (.load t p)=false)(h:lV false cx tm [] H T (.load t p)=some (v,H',c,ts)):
 cD (match u7 cx (fun x=>eK H (dT tm [] x)) H (.load t p)with
  |some _=>[]
  |none=>hands (dT tm [] p)) H H':=by
 unfold lV at h;simp only at h;split at h
 ·rename_i v1 c1 hp;rw[hp];simp only[aw,aP]at h;rw[<-h.2.1];exact cD.refl _ _
 ·rename_i hp;rw[hp];simp only[kB,lS,hn]at h;split at h
  ·rename_i hov;simp only[aw]at h;rw[h]at hov;exact aeP hov
  ·split at h
   ·rename_i hct;simp[cutV]at hct
   ·simp[xu,xq,qZ,va]at h
theorem aeR{cx:Cx K}{tm:List (AV K)}{gs:List (Nat×Bool)}{T:TypeId}{op:Op}{v:AV K}{c:Bool}{t:List Nat}(he:sV cx op=true)(hnl:∀a b,op≠.load a b)(h:lV false cx tm gs H T op=some (v,H',c,t)):cD ((nk (dT tm gs) op++I1 (dT tm gs) op)++xw cx H (dT tm gs) op) H H':=by
 unfold lV at h;split at h
 ·simp[sV]at he
 ·rename_i fo args _;cases fo with
  |func f=>
   have hf:(cx.mode f=.fresh\/(cx.mode f=.pass\/cx.mode f=.aX))/\(cx.opn=false\/cx.lz=true):=by simpa [sV]using he
   have JR:(cx.opn&& !cx.lz&& !false)=false:=by rcases hf.2 with e|e<;>simp[e]
   have e:dT tm gs (.func f)=(.fn f []:AV K):=rfl;rw[e]at h;simp only[xt,JR,kB,lS,sS]at h
   replace hf:=hf.1
   rcases hf with hf|hf|hf
   rotate_left
   ·simp only[rh,hf,kB,lS]at h;refine Qv h fun x hx=>df.2 (.inr ?_)
    simp only[xw,hf];exact hx
   ·simp only[rh,hf,kB,lS,vg]at h;refine cD.trans (Es _ _ fun x hx=>df.2 (.inr ?_)) (Qv h fun x hx=>df.2 (.inr ?_))
    ·simp only[xw,hf];exact df.2 (.inl hx)
    ·simp only[xw,hf];exact df.2 (.inr hx)
   simp only[rh,hf,kB,lS]at h;split at h
   ·rename_i hc;simp only[aw]at h;rw[h]at hc;exact J8 (.inl rfl) hc
   ·split at h
    ·rename_i hc;simp only[aw]at h;rw[h]at hc;exact J8 (.inr rfl) hc
    ·unfold vg at h;refine cD.trans (Es _ _ fun x hx=>?_) (J8 (.inl rfl) h);refine df.2 (.inl (df.2 (.inr ?_)));have key:∀l:List Operand,x∈cz (l.map fun y=>eK H (dT tm gs y))->x∈cz (l.map (dT tm gs)):=fun l=>by
      induction l with
      |nil=>exact fun h=>h
      |cons y r ih=>
       simp only[eR,cz,df];exact fun h=>h.imp (mN _) ih
     exact key _ hx
  |_=>simp[sV]at he
 ·simp[sV]at he
 ·split at h
  ·simp only[aw,aP]at h;rw[<-h.2.1];exact cD.refl _ _
  ·rw[bg (by simp)]at h;split at h
   ·cases h
   ·split at h
    ·rename_i hov;exfalso;unfold xr at hov;cases hov
    split at h
    ·rename_i hct;simp only[aw]at h;rw[h]at hct;exact(aeO hct).more fun x hx=>df.2 (.inl (df.2 (.inl hx)))
    ·exact(aeN h).more fun x hx=>df.2 (.inl (df.2 (.inl hx)))
theorem Qw:∀(l:List Nat)(h:Nat),(bitsOf l).testBit h=true↔h∈l
 |[],h=>by simp[bitsOf]
 |k::r,h=>by
  simp only[bitsOf,xh,gu,Qw r,Nat.testBit_two_pow,bX,fe];exact⟨fun h=>h.imp Eq.symm id,fun h=>h.imp Eq.symm id⟩
theorem Qx{A:Nat}:∀(ws:List Nat)(i h:Nat),(xy A i ws).testBit h=true↔∃(k:Nat)(b:Nat),ws[k]?=some b/\A.testBit (i+k)=false/\b.testBit h=true
 |[],i,h=>by simp[xy]
 |b::r,i,h=>by
  simp only[xy,xh,gu,Qx r];constructor
  ·rintro (h1|⟨k,b',h1,h2,h3⟩)
   ·split at h1
    ·simp at h1
    ·rename_i hA;exact⟨0,b,rfl,by simpa using hA,h1⟩
   ·exact⟨k+1,b',by simpa using h1,by rw[show i+(k+1)=i+1+k by omega];exact h2,h3⟩
  ·rintro ⟨k,b',h1,h2,h3⟩
   cases k with
   |zero=>simp at h1;subst h1;left;rw[bg (by simpa using h2)];exact h3
   |succ k=>exact .inr ⟨k,b',by simpa using h1,by rw[show i+1+k=i+(k+1) by omega];exact h2,h3⟩
theorem Qy{A:Nat}{T:List Nat}:∀(ms:List (Nat×Nat))(i:Nat),DK A T i ms=true->∀(k m n:Nat),ms[k]?=some (m,n)->A.testBit (i+k)=false->∀h∈T,h<n->m.testBit h=true
 |[],i,_,k,m,n,h,_=>by simp at h
 |(m0,n0)::r,i,hr,k,m,n,hk,hA=>by
  simp only[DK,bu,gu,fO,bX]at hr;cases k with
  |zero=>
   simp at hk;obtain⟨rfl,rfl⟩:=hk;intro h hT hn;rcases hr.1 with h1|h1
   ·rw[Nat.add_zero]at hA;rw[hA]at h1;cases h1
   ·rcases h1 h hT with h2|h2
    ·omega
    ·exact h2
  |succ k=>exact Qy r (i+1) hr.2 k m n (by simpa using hk) (by rw[show i+1+k=i+(k+1) by omega];exact hA)
end Go.V
namespace Go.V
open Go
variable {K :di}{H H':List (Ob K)}
theorem Qz{cx:Cx K}{tm:List (AV K)}{T:TypeId}{op:Op}{v:AV K}{c:Bool}{t:List Nat}(he:sV cx op=true)(hq:oI cx op=false)(h:lV false cx tm [] H T op=some (v,H',c,t)):cD (pP cx tm H op) H H':=by
 by_cases hl:∃a b,op=.load a b
 ·obtain⟨a,b,rfl⟩:=hl;have:pP cx tm H (.load a b)=(match u7 cx (fun x=>eK H (dT tm [] x)) H (.load a b)with
   |some _=>[]
   |none=>hands (dT tm [] b)):=by unfold pP;rw[hq];rfl
  rw[this];exact aeQ hq h
 ·have:pP cx tm H op=(nk (dT tm []) op++I1 (dT tm []) op)++xw cx H (dT tm []) op:=by
   unfold pP;rw[hq];simp only[kB,lS];split
   ·rename_i a b;exact absurd ⟨a,b,rfl⟩ hl
   ·rfl
  rw[this];exact aeR he (fun a b e=>hl ⟨a,b,e⟩) h
theorem aeS{cx:Cx K}{ops:List Oper}{tm:List (AV K)}{wr:List Nat}{o:Oper}{v:AV K}{c:Bool}(h:xx cx ops tm H wr o=some (v,H',c)):cD (pP cx tm H o.op) H H':=by
 unfold xx at h;split at h
 ·rename_i hq;have:H'=H:=by
   unfold jd at h;split at h
   ·cases h
   ·split at h
    ·rename_i hy;split at h
     ·cases h
     ·simp only[aw,aP]at h;obtain⟨-,rfl,-⟩:=h;exact xP hy
    ·cases h
   ·split at h
    ·split at h
     ·split at h
      ·split at h
       ·rename_i hy;split at h
        ·cases h
        ·simp only[aw,aP]at h;obtain⟨-,rfl,-⟩:=h;exact xP hy
       ·cases h
      ·simp only[aw,aP]at h;exact h.2.1.symm
     ·cases h
    split at h
    ·cases h
    ·split at h
     ·split at h
      ·simp only[aw,aP]at h;exact h.2.1.symm
      ·cases h
     ·cases h
  subst this;exact cD.refl _ _
 ·rename_i hq;split at h
  ·rename_i he;have hq':oI cx o.op=false:=by simpa using hq
   unfold jd at h;split at h
   ·cases h
   ·split at h
    ·rename_i hy;split at h
     ·cases h
     ·simp only[aw,aP]at h;obtain⟨-,rfl,-⟩:=h;exact Qz he hq' hy
    ·cases h
   ·split at h
    ·split at h
     ·split at h
      ·split at h
       ·rename_i hy;split at h
        ·cases h
        ·simp only[aw,aP]at h;obtain⟨-,rfl,-⟩:=h;exact Qz he hq' hy
       ·cases h
      ·simp only[aw,aP]at h;rw[<-h.2.1];exact cD.refl _ _
     ·cases h
    split at h
    ·cases h
    ·split at h
     ·split at h
      ·simp only[aw,aP]at h;rw[<-h.2.1];exact cD.refl _ _
      ·cases h
     ·cases h
  ·cases h
structure lD (K:di) where
 vals:Nat->AV K
 hin:Nat->List (Ob K)
 hout:Nat->List (Ob K)
 mask:Nat->Nat
 T:Nat->List Nat
def lD.W(F:lD K)(k h:Nat):Prop:=h∈F.T k\/((F.hin k).length<=h/\h<(F.hout k).length)
structure xU (cx:Cx K) (L:List Oper) (bs:List Nat) (cf:List (AV K)) (F:lD K) (i:Nat) (o:Oper) (dj:List (AV K)) (dY:List Nat):Prop where
 slot:xx cx L (eS (fk bs i) L 0 dj) (je (F.mask i) 0 (F.hin i)) dY o=some (F.vals i,F.hout i,true)
 up:pO (F.hin i).length (eS (fk bs i) L 0 dj)=true
 Eu:(je (F.mask i) 0 (F.hin i)).all (Ob.upto (F.hin i).length)=true
 turns:cD (F.T i) (je (F.mask i) 0 (F.hin i)) (F.hout i)
 len:dj.length=cf.length
 fin:∀(k:Nat) o' d,L[k]?=some o'->o'.dst=some d->k<i->dj[d]?=some (F.vals k)
 rest:∀t,(∀(k:Nat) o,k<i->L[k]?=some o->o.dst≠some t)->dj[t]?=cf[t]?
 dY:∀d∈dY,∃(k:Nat)(o':Oper),k<i/\L[k]?=some o'/\o'.dst=some d
structure gC (cx:Cx K) (L:List Oper) (bs:List Nat) (H0:List (Ob K)) (cf:List (AV K)) (F:lD K) (n:Nat) (tm:List (AV K)) (H:List (Ob K)) (wr:List Nat) (ms:List (Nat×Nat)) (ws:List Nat):Prop where
 len:tm.length=cf.length
 uniq:∀(i j:Nat) o o' d,i<n->j<n->L[i]?=some o->L[j]?=some o'->o.dst=some d->o'.dst=some d->i=j
 inb:∀(i:Nat) o d,i<n->L[i]?=some o->o.dst=some d->d<cf.length
 fin:∀(i:Nat) o d,i<n->L[i]?=some o->o.dst=some d->tm[d]?=some (F.vals i)
 rest:∀t,(∀(k:Nat) o,k<n->L[k]?=some o->o.dst≠some t)->tm[t]?=cf[t]?
 nr:∀d,d∈wr↔∃(k:Nat)(o':Oper),k<n/\L[k]?=some o'/\o'.dst=some d
 slot:∀(i:Nat) o,i<n->L[i]?=some o->∃dj dY,xU cx L bs cf F i o dj dY
 h0:F.hin 0=H0
 hn:F.hin n=H
 hs:∀i,i<n->F.hin (i+1)=lr (F.mask i) 0 (F.hin i) (F.hout i)/\(F.hin i).length<=(F.hout i).length
 AG:ms.length=n
 AH:ws.length=n
 ms:∀i,i<n->ms[i]?=some (F.mask i,(F.hin i).length)
 ws:∀i,i<n->∃b,ws[i]?=some b/\∀h,b.testBit h=true↔F.W i h
 masks:∀i,i<n->∀h,(∃k,k<i/\(bs.getD i 0).testBit k=false/\F.W k h)->(F.mask i).testBit h=true
 clear:∀k,k<n->∀h∈F.T k,(F.mask k).testBit h=false/\h<(F.hin k).length
 readers:∀k,k<n->∀i,i<k->(bs.getD k 0).testBit i=false->∀h∈F.T k,h<(F.hin i).length->(F.mask i).testBit h=true
theorem J9{cx:Cx K}{L:List Oper}{bs:List Nat}:∀(l:List Oper)(i:Nat)(st st':St K)(wr wr':List Nat)(ms:List (Nat×Nat))(ws:List Nat),rk cx L bs l i st wr ms ws=some (st',wr')->st'.ok=true->st.ok=true
 |[],i,st,st',wr,wr',ms,ws,h,hok=>by simp only[rk,aw,aP]at h;rw[h.1];exact hok
 |o::r,i,st,st',wr,wr',ms,ws,h,hok=>by
  simp only[rk]at h;split at h
  ·split at h
   ·cases h
   ·split at h
    ·split at h
     ·rename_i st1 iT hp;obtain⟨p1,p2,-⟩:=rB hp;have q1:=J9 r (i+1) st1 st' iT wr' _ _ h hok;rw[p2]at q1;simp only[bu]at q1;exact q1.2
     ·cases h
    ·cases h
  ·cases h
theorem QA{cx:Cx K}{L:List Oper}{bs:List Nat}{H0:List (Ob K)}{cf:List (AV K)}:∀(l:List Oper)(n:Nat)(st st':St K)(wr wr':List Nat)(ms:List (Nat×Nat))(ws:List Nat)(F:lD K),rk cx L bs l n st wr ms ws=some (st',wr')->st'.ok=true->
 (∀j,l[j]?=L[n+j]?)->n+l.length=L.length->gC cx L bs H0 cf F n st.tm st.H wr ms ws->∃F' ms' ws',gC cx L bs H0 cf F' L.length st'.tm st'.H wr' ms' ws'
 |[],n,st,st',wr,wr',ms,ws,F,h,hok,hl,hn,hp=>by
   simp only[rk,aw,aP]at h;obtain⟨rfl,rfl⟩:=h;simp at hn;subst hn;exact⟨F,ms,ws,hp⟩
 |o::r,n,st,st',wr,wr',ms,ws,F,h,hok,hl,hn,hp=>by
  have hLn:L[n]?=some o:=by have:=hl 0;simpa using this.symm
  simp only[rk]at h;split at h
  ·rename_i hup;simp only[bu]at hup;split at h
   ·cases h
   ·rename_i v H1 c hsv;split at h
    ·rename_i hrd;simp only[bu,bX]at hrd;split at h
     ·rename_i st1 iT hput;obtain⟨p1,p2,p3⟩:=rB hput;have hok1:=J9 r (n+1) st1 st' iT wr' _ _ h hok;rw[p2]at hok1;simp only[bu]at hok1;obtain⟨rfl,-⟩:=hok1;have aeT:=hp.hn
      let mk:=rj bs ws n (eS (fk bs n) L 0 st.tm) st.H.length o.op
      let TT:=pP cx (eS (fk bs n) L 0 st.tm) (je mk 0 st.H) o.op
      let F':lD K:={vals:=fun i=>if i=n then v else F.vals i,hin:=fun i=>if i=n+1 then lr mk 0 st.H H1 else F.hin i,hout:=fun i=>if i=n then H1 else F.hout i,mask:=fun i=>if i=n then mk else F.mask i,T:=fun i=>if i=n then TT else F.T i}
      have ev:∀i,i<n->F'.vals i=F.vals i:=fun i hi=>by simp[F',show i≠n by omega]
      have eh:∀i,i<=n->F'.hin i=F.hin i:=fun i hi=>by simp[F',show i≠n+1 by omega]
      have eo:∀i,i<n->F'.hout i=F.hout i:=fun i hi=>by simp[F',show i≠n by omega]
      have em:∀i,i<n->F'.mask i=F.mask i:=fun i hi=>by simp[F',show i≠n by omega]
      have eT:∀i,i<n->F'.T i=F.T i:=fun i hi=>by simp[F',show i≠n by omega]
      have nv:F'.vals n=v:=by simp[F']
      have nh:F'.hin n=st.H:=by rw[eh n (cq _)];exact aeT
      have QB:F'.hin (n+1)=lr mk 0 st.H H1:=by simp[F']
      have no:F'.hout n=H1:=by simp[F']
      have nm:F'.mask n=mk:=by simp[F']
      have nT:F'.T n=TT:=by simp[F']
      have eW:∀i,i<n->∀h,F'.W i h↔F.W i h:=fun i hi h=>by unfold lD.W;rw[eT i hi,eh i (by omega),eo i hi]
      have J1:xU cx L bs cf F' n o st.tm wr:=
       {slot:=by rw[nv,no,nm,nh];exact hsv
        up:=by rw[nh];exact hup.1
        Eu:=by rw[nm,nh];exact hup.2
        turns:=by rw[nT,nm,nh,no];exact aeS hsv
        len:=hp.len
        fin:=fun k o' d h1 h2 h3=>by rw[ev k h3];exact hp.fin k o' d h3 h1 h2
        rest:=fun t ht=>hp.rest t fun k o' hk h1=>ht k o' hk h1
        dY:=fun d hd=>(hp.nr d).1 hd}
      have tz:∀(i:Nat) o1,i<n+1->L[i]?=some o1->∃dj dY,xU cx L bs cf F' i o1 dj dY:=fun i o1 hi ho1=>by
       by_cases hin:i=n
       ·subst hin;rw[hLn]at ho1;simp at ho1;subst ho1;exact⟨_,_,J1⟩
       ·have hlt:i<n:=by omega
        obtain⟨dj,dY,a⟩:=hp.slot i o1 hlt ho1;exact⟨dj,dY,{slot:=by rw[ev i hlt,eo i hlt,em i hlt,eh i (by omega)];exact a.slot,up:=by rw[eh i (by omega)];exact a.up,Eu:=by rw[em i hlt,eh i (by omega)];exact a.Eu,turns:=by rw[eT i hlt,em i hlt,eh i (by omega),eo i hlt];exact a.turns,len:=a.len,fin:=fun k o' d h1 h2 h3=>by rw[ev k (by omega)];exact a.fin k o' d h1 h2 h3,rest:=a.rest,dY:=a.dY}⟩
      have hmk:∀h,(∃k,k<n/\(bs.getD n 0).testBit k=false/\F'.W k h)->mk.testBit h=true:=fun h=>by
       rintro ⟨k,hk,h2,h3⟩
       rw[show mk=xy (bs.getD n 0) 0 ws|||OI (eS (fk bs n) L 0 st.tm) st.H.length o.op from rfl,xh,gu];refine .inl ?_;rw[Qx];obtain⟨b',g1,g2⟩:=hp.ws k hk;exact⟨k,b',g1,by simpa using h2,(g2 h).2 ((eW k hk h).1 h3)⟩
      have base:gC cx L bs H0 cf F' (n+1) st1.tm st1.H iT (ms++[(mk,st.H.length)]) (ws++[bitsOf (TT++List.range' st.H.length (H1.length-st.H.length))]):=by
       have c1:F'.hin 0=H0:=by rw[eh 0 (by omega)];exact hp.h0
       have c2:F'.hin (n+1)=st1.H:=by rw[QB,p1]
       have c3:∀i,i<n+1->F'.hin (i+1)=lr (F'.mask i) 0 (F'.hin i) (F'.hout i)/\(F'.hin i).length<=(F'.hout i).length:=fun i hi=>by
        by_cases hin:i=n
        ·subst hin;rw[QB,nm,nh,no];exact⟨rfl,hrd.2⟩
        ·have hlt:i<n:=by omega
         rw[eh (i+1) (by omega),em i hlt,eh i (by omega),eo i hlt];exact hp.hs i hlt
       have c4:∀i,i<n+1->(ms++[(mk,st.H.length)])[i]?=some (F'.mask i,(F'.hin i).length):=fun i hi=>by
        by_cases hin:i=n
        ·subst hin;rw[nm,nh,eZ (by rw[hp.AG];exact cq _),hp.AG];simp
        ·have hlt:i<n:=by omega
         rw[em i hlt,eh i (by omega),dX (by rw[hp.AG];exact hlt)];exact hp.ms i hlt
       have c5:∀i,i<n+1->∃b,(ws++[bitsOf (TT++List.range' st.H.length (H1.length-st.H.length))])[i]?=some b/\∀h,b.testBit h=true↔F'.W i h:=fun i hi=>by
        by_cases hin:i=n
        ·subst hin;refine⟨bitsOf (TT++List.range' st.H.length (H1.length-st.H.length)),by rw[eZ (by rw[hp.AH];exact cq _),hp.AH];simp,fun h=>?_⟩;rw[Qw,df];unfold lD.W;rw[nT,nh,no,List.mem_range'];constructor
         ·rintro (h1|⟨j,h1,h2⟩)
          ·exact .inl h1
          ·exact .inr (by omega)
         ·rintro (h1|⟨h1,h2⟩)
          ·exact .inl h1
          ·exact .inr ⟨h-st.H.length,by omega,by omega⟩
        ·have hlt:i<n:=by omega
         obtain⟨b,g1,g2⟩:=hp.ws i hlt;exact⟨b,by rw[dX (by rw[hp.AH];exact hlt)];exact g1,fun h=>(g2 h).trans (eW i hlt h).symm⟩
       have c6:∀i,i<n+1->∀h,(∃k,k<i/\(bs.getD i 0).testBit k=false/\F'.W k h)->(F'.mask i).testBit h=true:=fun i hi hh=>by
        by_cases hin:i=n
        ·subst hin;rw[nm];exact hmk hh
        ·have hlt:i<n:=by omega
         rw[em i hlt];exact fun⟨k,h1,h2,h3⟩=>hp.masks i hlt hh ⟨k,h1,h2,(eW k (by omega) hh).1 h3⟩
       have c7:∀k,k<n+1->∀i,i<k->(bs.getD k 0).testBit i=false->∀h∈F'.T k,h<(F'.hin i).length->(F'.mask i).testBit h=true:=fun k hk i hik hA hh hT hlt=>by
        rw[eh i (by omega)]at hlt;rw[em i (by omega)];by_cases hkn:k=n
        ·subst hkn;rw[nT]at hT;exact Qy ms 0 hrd.1.1 i _ _ (hp.ms i hik) (by simpa using hA) hh hT hlt
        ·rw[eT k (by omega)]at hT;exact hp.readers k (by omega) i hik hA hh hT hlt
       have c8:∀k,k<n+1->∀h∈F'.T k,(F'.mask k).testBit h=false/\h<(F'.hin k).length:=fun k hk hh hT=>by
        by_cases hkn:k=n
        ·subst hkn;rw[nT]at hT;rw[nm,nh];have:=hrd.1.2;rw[fO]at this;have h2:=this hh hT;rw[bu,fb,bX]at h2;exact h2
        ·rw[eT k (by omega)]at hT;rw[em k (by omega),eh k (by omega)];exact hp.clear k (by omega) hh hT
       rcases p3 with⟨e1,e2,e3⟩|⟨d,e1,e2,e3,e4,e5⟩
       ·refine⟨by rw[e2];exact hp.len,fun i j o1 o2 d hi hj h1 h2 h3 h4=>?_,fun i o1 d hi h1 h2=>?_,fun i o1 d hi h1 h2=>?_,fun t ht=>by rw[e2];exact hp.rest t fun k o' hk=>ht k o' (by omega),fun d=>?_,tz,c1,c2,c3,by simp[hp.AG],by simp[hp.AH],c4,c5,c6,c8,c7⟩
        ·have hin:i≠n:=fun e=>by subst e;rw[hLn]at h1;simp at h1;subst h1;rw[e1]at h3;cases h3
         have hjn:j≠n:=fun e=>by subst e;rw[hLn]at h2;simp at h2;subst h2;rw[e1]at h4;cases h4
         exact hp.uniq i j o1 o2 d (by omega) (by omega) h1 h2 h3 h4
        ·have hin:i≠n:=fun e=>by subst e;rw[hLn]at h1;simp at h1;subst h1;rw[e1]at h2;cases h2
         exact hp.inb i o1 d (by omega) h1 h2
        ·have hin:i≠n:=fun e=>by subst e;rw[hLn]at h1;simp at h1;subst h1;rw[e1]at h2;cases h2
         rw[e2,ev i (by omega)];exact hp.fin i o1 d (by omega) h1 h2
        ·rw[e3,hp.nr d];constructor
         ·rintro ⟨k,o',hk,h1,h2⟩;exact⟨k,o',by omega,h1,h2⟩
         ·rintro ⟨k,o',hk,h1,h2⟩
          have hkn:k≠n:=fun e=>by subst e;rw[hLn]at h1;simp at h1;subst h1;rw[e1]at h2;cases h2
          exact⟨k,o',by omega,h1,h2⟩
       ·have hnew:∀(k:Nat) o',k<n->L[k]?=some o'->o'.dst≠some d:=fun k o' hk h1 h2=>e2 ((hp.nr d).2 ⟨k,o',hk,h1,h2⟩)
        have hdn:∀{o1:Oper}{d1:Nat},L[n]?=some o1->o1.dst=some d1->d1=d:=fun{o1 d1} h1 h2=>by rw[hLn]at h1;simp at h1;subst h1;rw[e1]at h2;simpa using h2.symm
        refine⟨by rw[e4];simp[hp.len],fun i j o1 o2 d1 hi hj h1 h2 h3 h4=>?_,fun i o1 d1 hi h1 h2=>?_,fun i o1 d1 hi h1 h2=>?_,fun t ht=>?_,fun d1=>?_,tz,c1,c2,c3,by simp[hp.AG],by simp[hp.AH],c4,c5,c6,c8,c7⟩
        ·by_cases hin:i=n<;>by_cases hjn:j=n
         ·omega
         ·subst hin;have:=hdn h1 h3;subst this;exact absurd h4 (hnew j o2 (by omega) h2)
         ·subst hjn;have:=hdn h2 h4;subst this;exact absurd h3 (hnew i o1 (by omega) h1)
         ·exact hp.uniq i j o1 o2 d1 (by omega) (by omega) h1 h2 h3 h4
        ·by_cases hin:i=n
         ·subst hin;have:=hdn h1 h2;subst this;rw[<-hp.len];exact e3
         ·exact hp.inb i o1 d1 (by omega) h1 h2
        ·rw[e4];by_cases hin:i=n
         ·subst hin;have:=hdn h1 h2;subst this;rw[kD,bf rfl,bf e3,nv]
         ·have hne:d1≠d:=fun e=>by subst e;exact hnew i o1 (by omega) h1 h2
          rw[kD,bg (pJ hne),ev i (by omega)];exact hp.fin i o1 d1 (by omega) h1 h2
        ·have hne:d≠t:=fun e=>by subst e;exact ht n o (by omega) hLn e1
         rw[e4,kD,bg hne];exact hp.rest t fun k o' hk=>ht k o' (by omega)
        ·rw[e5,fe,hp.nr d1];constructor
         ·rintro (rfl|⟨k,o',hk,h1,h2⟩)
          ·exact⟨n,o,by omega,hLn,e1⟩
          ·exact⟨k,o',by omega,h1,h2⟩
         ·rintro ⟨k,o',hk,h1,h2⟩
          by_cases hkn:k=n
          ·subst hkn;exact .inl (hdn h1 h2)
          ·exact .inr ⟨k,o',by omega,h1,h2⟩
      exact QA r (n+1) st1 st' iT wr' _ _ F' h hok (fun j=>by have:=hl (j+1);simp only[List.getElem?_cons_succ]at this;rw[this];congr 1;omega) (by simp at hn;omega) base
     ·cases h
    ·cases h
  ·cases h
theorem aeU{cx:Cx K}{L:List Oper}{bs:List Nat}{st st':St K}{wr':List Nat}(h:rk cx L bs L 0 st [] [] []=some (st',wr'))(hok:st'.ok=true):
 ∃F ms ws,gC cx L bs st.H st.tm F L.length st'.tm st'.H wr' ms ws:=
 QA (cf:=st.tm) (H0:=st.H) L 0 st st' [] wr' [] [] {vals:=fun _=>.any,hin:=fun _=>st.H,hout:=fun _=>[],mask:=fun _=>0,T:=fun _=>[]} h hok (fun j=>by simp) (by simp)
  ⟨rfl,fun i j _ _ _ hi=>by omega,fun i _ _ hi=>by omega,fun i _ _ hi=>by omega,fun t _=>rfl,fun d=>by simp,fun i _ hi=>by omega,rfl,rfl,fun i hi=>by omega,rfl,rfl,fun i hi=>by omega,fun i hi=>by omega,fun i hi=>by omega,fun i hi=>by omega,fun i hi=>by omega⟩
end Go.V
namespace Go.V
open Go
variable {K :di}{ρ ρ':List Value}{S S':Nat->Prop}{w w':World}{H H':List (Ob K)}{D:bC K}
section
variable {cx :Cx K}{L:List Oper}{bs:List Nat}{H0:List (Ob K)}{cf fw:List (AV K)}{F:lD K}{HF:List (Ob K)}{wr:List Nat}{ms:List (Nat×Nat)}{ws:List Nat}
theorem gC.tA(hp:gC cx L bs H0 cf F L.length fw HF wr ms ws){i:Nat}(hi:i<L.length):(F.hin (i+1)).length=(F.hout i).length:=by
 obtain⟨h1,h2⟩:=hp.hs i hi;rw[h1,Eo _ _ _ h2]
theorem gC.mono(hp:gC cx L bs H0 cf F L.length fw HF wr ms ws):∀{i j:Nat},i<=j->j<=L.length->(F.hin i).length<=(F.hin j).length:=by
 intro i j hij hj
 induction j with
 |zero=>have:i=0:=by omega
        subst this;exact cq _
 |succ j ih=>
  rcases cU i (j+1)with h|h
  ·have h1:=ih (by omega) (by omega);rw[hp.tA (show j<L.length by omega)];exact lQ h1 (hp.hs j (by omega)).2
  ·have:i=j+1:=by omega
   subst this;exact cq _
theorem gC.aeV(hp:gC cx L bs H0 cf F L.length fw HF wr ms ws){i h:Nat}(hi:i<L.length)(hn:¬F.W i h)(hh:h<(F.hin i).length):(F.hin (i+1))[h]?=(F.hin i)[h]?:=by
 obtain⟨h1,h2⟩:=hp.hs i hi;obtain⟨dj,dY,a⟩:=hp.slot i L[i] hi (cJ hi);rw[h1,Ep _ _ _ _ h2];by_cases hm:h<(F.hin i).length/\(F.mask i).testBit (0+h)=true
 ·rw[bf hm]
 ·rw[bg hm];have hm':(F.mask i).testBit h=false:=by
   cases hb:(F.mask i).testBit h with
   |false=>rfl
   |true=>exact absurd ⟨hh,by rw[dz];exact hb⟩ hm
  have:=a.turns.2 h (by rw[AE];exact hh) (fun hT=>hn (.inl hT));rw[this,AD,dz,hm'];cases (F.hin i)[h]?<;>simp
theorem gC.stay(hp:gC cx L bs H0 cf F L.length fw HF wr ms ws){i h:Nat}:∀{j:Nat},i<=j->j<=L.length->(∀k,i<=k->k<j->¬F.W k h)->h<(F.hin i).length->(F.hin j)[h]?=(F.hin i)[h]?:=by
 intro j hij hj hn hh
 induction j with
 |zero=>have:i=0:=by omega
        subst this;rfl
 |succ j ih=>
  rcases cU i (j+1)with h1|h1
  ·have h2:=ih (by omega) (by omega) fun k a b=>hn k a (by omega)
   rw[hp.aeV (by omega) (hn j (by omega) (by omega)) (kC hh (hp.mono (by omega) (by omega))),h2]
  ·have:i=j+1:=by omega
   subst this;rfl
theorem gC.maker(hp:gC cx L bs H0 cf F L.length fw HF wr ms ws){j k h:Nat}(hj:j<L.length)(hk:k<L.length)(h1:(F.hin j).length<=h)(h2:h<(F.hout j).length)(h3:(F.hin k).length<=h)(h4:h<(F.hout k).length):j=k:=by
 rcases Nat.lt_trichotomy j k with h|h|h
 ·have:=hp.mono (show j+1<=k by omega) (by omega);rw[hp.tA hj]at this;omega
 ·exact h
 ·have:=hp.mono (show k+1<=j by omega) (by omega);rw[hp.tA hk]at this;omega
theorem gC.made(hp:gC cx L bs H0 cf F L.length fw HF wr ms ws){h:Nat}:∀{j:Nat},j<=L.length->h<(F.hin j).length->H0.length<=h->∃k,k<j/\(F.hin k).length<=h/\h<(F.hout k).length:=by
 intro j hj hh h0
 induction j with
 |zero=>rw[hp.h0]at hh;omega
 |succ j ih=>
  rw[hp.tA (show j<L.length by omega)]at hh;rcases cU h (F.hin j).length with h1|h1
  ·obtain⟨k,a,b⟩:=ih (by omega) h1;exact⟨k,by omega,b⟩
  ·exact⟨j,by omega,h1,hh⟩
end
theorem QC{p:Nat->Prop}{n:Nat}(hb:∀k,p k->k<n)(h:∃k,p k):∃k,p k/\∀k',p k'->k'<=k:=by
 induction n with
 |zero=>obtain⟨k,hk⟩:=h;exact absurd (hb k hk) (xf _)
 |succ n ih=>
  by_cases hn:p n
  ·exact⟨n,hn,fun k' hk'=>by have:=hb k' hk';omega⟩
  ·exact ih fun k hk=>by
    have:=hb k hk;rcases cU k n with h1|h1
    ·exact h1
    ·have:k=n:=by omega
     subst this;exact absurd hk hn
structure kJ (cx:Cx K) (L:List Oper) (bs:List Nat) (cf:List (AV K)) (F:lD K) (H0 HF H:List (Ob K)) (ρ:List Value) (S:Nat->Prop) (listed:Array Bool) (a:Act) (w:World):Prop where
 heap:aM cx.D ρ S w H
 hlen:H.length=HF.length
 defers:a.defers=[]
 size:a.tmps.size=cf.length
 oN:listed.size=L.length
 base:∀(t:Nat) v x,(∀(k:Nat) o,L[k]?=some o->o.dst=some t->listed[k]?≠some true)->cf[t]?=some v->a.tmps[t]?=some x->Rep cx.D ρ S w v x
 done:∀(k:Nat) o d x,L[k]?=some o->listed[k]?=some true->o.dst=some d->a.tmps[d]?=some x->eV cx.D ρ S w a.tmps (F.vals k) x
 opts:∀(k g:Nat) b y,listed[k]?=some true->F.vals k=.opt g b y->∃(k':Nat)(o':Oper),L[k']?=some o'/\o'.dst=some g/\listed[k']?=some true
 closed:∀(k:Nat) o,L[k]?=some o->listed[k]?=some true->∀e∈o.after,listed[e.on]?=some true
 Ko:∀h,(∀k,listed[k]?=some true->¬F.W k h)->h<HF.length->(h<H0.length->H[h]?=H0[h]?)/\(H0.length<=h->H[h]?=some .dead)
 Kp:∀h k,listed[k]?=some true->F.W k h->(∀k',listed[k']?=some true->F.W k' h->k'<=k)->H[h]?=(F.hin (k+1))[h]?
 QD:∀h,H0.length<=h->h<HF.length->(∀k,listed[k]?=some true->¬((F.hin k).length<=h/\h<(F.hout k).length))->ρ[h]?=some dummy
section
variable {cx :Cx K}{L:List Oper}{bs:List Nat}{H0:List (Ob K)}{cf fw:List (AV K)}{F:lD K}{HF:List (Ob K)}{wr:List Nat}{ms:List (Nat×Nat)}{ws:List Nat}{listed:Array Bool}{a:Act}
theorem kJ.sees(hp:gC cx L bs H0 cf F L.length fw HF wr ms ws)(hm:kJ cx L bs cf F H0 HF H ρ S listed a w){j:Nat}(hj:j<L.length)(im:listed[j]?=some false)
 (hA:∀k,(bs.getD j 0).testBit k=true->listed[k]?=some true) (hcl:∀i k,listed[i]?=some true->(bs.getD i 0).testBit k=true->listed[k]?=some true) {h:Nat} (hh:h<(F.hin j).length) (hun:(F.mask j).testBit h=false):H[h]?=(F.hin j)[h]?:=by
 have hlt:∀k,listed[k]?=some true->k<L.length:=fun k hk=>by have:=(kz.1 hk).1;rw[hm.oN]at this;exact this
 have hne:∀k,listed[k]?=some true->k≠j:=fun k hk e=>by subst e;rw[im]at hk;cases hk
 have hbef:∀k,k<j->F.W k h->listed[k]?=some true:=fun k hk hw=>by
  cases hb:(bs.getD j 0).testBit k with
  |true=>exact hA k hb
  |false=>have:=hp.masks j hj h ⟨k,hk,hb,hw⟩;rw[hun]at this;cases this
 have haft:∀k,listed[k]?=some true->F.W k h->k<j:=fun k hk hw=>by
  rcases Nat.lt_trichotomy k j with h1|h1|h1
  ·exact h1
  ·exact absurd h1 (hne k hk)
  ·have ns:=hlt k hk;have hlen:=hp.mono (show j<=k by omega) (by omega);rcases hw with hT|⟨h2,-⟩
   ·cases hb:(bs.getD k 0).testBit j with
    |true=>have:=hcl k j hk hb;rw[im]at this;cases this
    |false=>have:=hp.readers k ns j h1 hb h hT hh;rw[hun]at this;cases this
   ·omega
 by_cases hex:∃k,listed[k]?=some true/\F.W k h
 ·obtain⟨k,⟨hk1,hk2⟩,hk3⟩:=QC (p:=fun k=>listed[k]?=some true/\F.W k h) (n:=L.length) (fun k hk=>hlt k hk.1) hex;rw[hm.Kp h k hk1 hk2 fun k' a b=>hk3 k' ⟨a,b⟩];have hkj:=haft k hk1 hk2;have hno:∀k',k+1<=k'->k'<j->¬F.W k' h:=fun k' h1 h2 hw=>by have:=hk3 k' ⟨hbef k' h2 hw,hw⟩;omega
  by_cases hl:h<(F.hin (k+1)).length
  ·exact(hp.stay (show k+1<=j by omega) (by omega) hno hl).symm
  ·
   exfalso;have:H0.length<=h:=by have:=hp.mono (show 0<=k+1 by omega) (show k+1<=L.length by omega);rw[hp.h0]at this;omega
   obtain⟨k',g1,g2,g3⟩:=hp.made (show j<=L.length by omega) hh this;by_cases hkk:k+1<=k'
   ·exact hno k' hkk g1 (.inr ⟨g2,g3⟩)
   ·have:=hp.mono (show k'+1<=k+1 by omega) (show k+1<=L.length by omega);rw[hp.tA (show k'<L.length by omega)]at this;omega
 ·have hno:∀k,listed[k]?=some true->¬F.W k h:=fun k a b=>hex ⟨k,a,b⟩
  have vD:∀k,0<=k->k<j->¬F.W k h:=fun k _ hk hw=>hno k (hbef k hk hw) hw
  have hHF:h<HF.length:=by have:=hp.mono (show j<=L.length by omega) (cq _);rw[hp.hn]at this;omega
  obtain⟨g1,g2⟩:=hm.Ko h hno hHF;by_cases h0:h<H0.length
  ·rw[g1 h0,hp.stay (cN j) (by omega) vD (by rw[hp.h0];exact h0),hp.h0]
  ·obtain⟨k',a1,a2,a3⟩:=hp.made (show j<=L.length by omega) hh (by omega);exact absurd (.inr ⟨a2,a3⟩) (vD k' (cN _) a1)
end
end Go.V
namespace Go.V
open Go
variable {K :di}{ρ ρ':List Value}{S S':Nat->Prop}{w w':World}{H H':List (Ob K)}{D:bC K}
theorem eV.take(hD:bT D){n:Nat}{tmps:Array Value}{v:AV K}{x:Value}(h:eV D ρ S w tmps v x)(hu:v.upto n=true):eV D (ρ.take n) S w tmps v x:=by
 cases v with
 |opt g b v=>
  simp only[eV]at h⊢;rcases h with⟨h1,h2⟩|h
  ·exact .inl ⟨h1,h2.take hD (by simpa [AV.upto]using hu)⟩
  ·exact .inr h
 |_=>exact Rep.take hD h hu
theorem eV.mono'{tmps:Array Value}(hS:∀b,S b->S' b)(hw:∀b,S b->w'.heap[b]?=w.heap[b]?)(hρ:∀(h:Nat) r,ρ[h]?=some r->r≠dummy->ρ'[h]?=some r){v:AV K}{x:Value}(h:eV D ρ S w tmps v x):eV D ρ' S' w' tmps v x:=by
 cases v with
 |opt g b v=>
  simp only[eV]at h⊢;rcases h with⟨h1,h2⟩|h
  ·exact .inl ⟨h1,h2.mono' hS hw hρ⟩
  ·exact .inr h
 |_=>exact Rep.mono' hS hw hρ h
section
variable {cx :Cx K}{L:List Oper}{bs:List Nat}{H0:List (Ob K)}{cf fw:List (AV K)}{F:lD K}{HF:List (Ob K)}{wr:List Nat}{ms:List (Nat×Nat)}{ws:List Nat}{listed:Array Bool}{a:Act}
theorem kJ.slots(hD:bT cx.D)(hbs:bs=iQ L [])(he:kG L 0=true)(hp:gC cx L bs H0 cf F L.length fw HF wr ms ws)(hm:kJ cx L bs cf F H0 HF H ρ S listed a w){j:Nat}{o:Oper}(ho:L[j]?=some o)(im:listed[j]?=some false)(lY:∀e∈o.after,listed[e.on]?=some true){dj:List (AV K)}{dY:List Nat}
 (fs:xU cx L bs cf F j o dj dY):fq cx.D (ρ.take (F.hin j).length) S w (eS (fk bs j) L 0 dj) a.tmps/\
   ∀(t:Nat) v,(eS (fk bs j) L 0 dj)[t]?=some v->v≠.any->(∀(k:Nat) o',k<j->L[k]?=some o'->o'.dst≠some t)\/∃(k:Nat)(o':Oper),L[k]?=some o'/\o'.dst=some t/\listed[k]?=some true:=by
 have key:∀(t:Nat) v,(eS (fk bs j) L 0 dj)[t]?=some v->v≠.any->(((∀(k:Nat) o',k<j->L[k]?=some o'->o'.dst≠some t)/\(∀(k:Nat) o,L[k]?=some o->o.dst=some t->listed[k]?≠some true))/\cf[t]?=some v)\/∃(k:Nat)(o':Oper),L[k]?=some o'/\o'.dst=some t/\listed[k]?=some true/\v=F.vals k:=fun t v hv hne=>by
  obtain⟨g1,g2⟩:=JX L 0 dj t v hv hne;rcases xR L t with hn|⟨k,o',hk,hkd⟩
  ·exact .inl ⟨⟨fun k o' _ h=>hn k o' h,fun k o' h h'=>absurd h' (hn k o' h)⟩,by rw[<-fs.rest t fun k o' _ h=>hn k o' h];exact g1⟩
  ·have hb:=g2 k o' hk hkd;rw[dz,hbs]at hb;rcases Qc hb with hb|hb
   ·obtain⟨c1,c2⟩:=tw he (T:=fun i=>listed[i]?=some true) (fun i o hi gB=>hm.closed i o hi gB) j o ho lY k hb;have:=fs.fin k o' t hk hkd c2;rw[g1]at this;exact .inr ⟨k,o',hk,hkd,c1,by simpa using this⟩
   ·have c0:=(tw he (T:=fun _=>True) (fun _ _ _ _ _ _=>trivial) k o' hk (fun _ _=>trivial) j hb).2;have hun:listed[k]?≠some true:=fun hlk=>by
     have:=(tw he (T:=fun i=>listed[i]?=some true) (fun i o hi gB=>hm.closed i o hi gB) k o' hk (hm.closed k o' hk hlk) j hb).1;rw[im]at this;cases this
    have AA:∀(k':Nat) o1,L[k']?=some o1->o1.dst=some t->k'=k:=fun k' o1 h1 h2=>hp.uniq k' k o1 o' t (cF.1 h1).1 (cF.1 hk).1 h1 hk h2 hkd
    have hlt:∀(k':Nat) o1,k'<j->L[k']?=some o1->o1.dst≠some t:=fun k' o1 hk' h1 h2=>by have:=AA k' o1 h1 h2;omega
    exact .inl ⟨⟨hlt,fun k' o1 h1 h2=>by rw[AA k' o1 h1 h2];exact hun⟩,by rw[<-fs.rest t hlt];exact g1⟩
 refine⟨⟨by rw[JY,fs.len,hm.size],fun t v x hv hx=>?_⟩,fun t v hv hne=>?_⟩
 ·by_cases hne:v=.any
  ·subst hne;exact .kH (.any x)
  ·have hu:=vC fs.up hv;rcases key t v hv hne with⟨⟨-,hn⟩,g⟩|⟨k,o',hk,hkd,hlk,rfl⟩
   ·exact(eV.kH (hm.base t v x hn g hx)).take hD hu
   ·exact(hm.done k o' t x hk hlk hkd hx).take hD hu
 ·rcases key t v hv hne with⟨⟨hn,-⟩,-⟩|⟨k,o',hk,hkd,hlk,-⟩
  ·exact .inl hn
  ·exact .inr ⟨k,o',hk,hkd,hlk⟩
theorem kJ.view(hp:gC cx L bs H0 cf F L.length fw HF wr ms ws)(hm:kJ cx L bs cf F H0 HF H ρ S listed a w){j:Nat}{o:Oper}(hj:j<L.length)(im:listed[j]?=some false)
 (hA:∀k,(bs.getD j 0).testBit k=true->listed[k]?=some true) (hcl:∀i k,listed[i]?=some true->(bs.getD i 0).testBit k=true->listed[k]?=some true) {dj:List (AV K)} {dY:List Nat} (fs:xU cx L bs cf F j o dj dY):
 View (F.hin j).length H (je (F.mask j) 0 (F.hin j)):={
 len:=AE _ _
 le:=by rw[hm.hlen];have:=hp.mono (show j<=L.length by omega) (cq _);rw[hp.hn]at this;exact this
 ob:=fun h o ho=>by
  rw[AD,dz]at ho;cases hb:(F.mask j).testBit h with
  |true=>
   rw[hb]at ho;cases hx:(F.hin j)[h]? with
   |none=>rw[hx]at ho;cases ho
   |some y=>rw[hx]at ho;simp at ho;exact .inl ho.symm
  |false=>
   rw[hb]at ho;cases hx:(F.hin j)[h]? with
   |none=>rw[hx]at ho;cases ho
   |some y=>
    rw[hx]at ho;simp at ho;subst ho;exact .inr (by rw[hm.sees hp hj im hA hcl (cF.1 hx).1 hb];exact hx)
 up:=fun h o ho=>by
  have:=fs.Eu;rw[fO]at this;exact this o (iO ho)}
def after(F:lD K)(j:Nat)(H:List (Ob K)):List (Ob K):=lr (F.mask j) 0 (H.take (F.hin j).length) (F.hout j)++H.drop (F.hout j).length
theorem aeX{j:Nat}(h1:(F.hin j).length<=(F.hout j).length)(h2:(F.hout j).length<=H.length)(h:Nat):
 (after F j H)[h]?=if h<(F.hout j).length then(if h<(F.hin j).length/\(F.mask j).testBit h=true then H[h]? else(F.hout j)[h]?)else H[h]?:=by
 have hl:(H.take (F.hin j).length).length=(F.hin j).length:=by rw[ov];omega
 have hml:(lr (F.mask j) 0 (H.take (F.hin j).length) (F.hout j)).length=(F.hout j).length:=Eo _ _ _ (by omega);unfold after;by_cases hh:h<(F.hout j).length
 ·rw[dX (by omega),bf hh,Ep _ _ _ _ (by omega),hl,dz];by_cases hc:h<(F.hin j).length/\(F.mask j).testBit h=true
  ·rw[bf hc,bf hc,fj,bf hc.1]
  ·rw[bg hc,bg hc]
 ·rw[eZ (by omega),bg hh,hml,jm];congr 1;omega
theorem after_length{j:Nat}(h1:(F.hin j).length<=(F.hout j).length)(h2:(F.hout j).length<=H.length):(after F j H).length=H.length:=by
 have hl:(H.take (F.hin j).length).length=(F.hin j).length:=by rw[ov];omega
 unfold after;rw[aG,Eo _ _ _ (by omega),List.length_drop];omega
end
end Go.V
namespace Go.V
open Go
variable {K :di}{ρ ρ':List Value}{S S':Nat->Prop}{w w':World}{H H':List (Ob K)}{D:bC K}
section
variable {cx :Cx K}{L:List Oper}{bs:List Nat}{H0:List (Ob K)}{cf fw:List (AV K)}{F:lD K}{HF:List (Ob K)}{wr:List Nat}{ms:List (Nat×Nat)}{ws:List Nat}{listed:Array Bool}{a:Act}
theorem kJ.put(hD:bT cx.D)(hp:gC cx L bs H0 cf F L.length fw HF wr ms ws)(hm:kJ cx L bs cf F H0 HF H ρ S listed a w){j:Nat}{o:Oper}(ho:L[j]?=some o)(im:listed[j]?=some false)(lY:∀e∈o.after,listed[e.on]?=some true)
 (hA:∀k,(bs.getD j 0).testBit k=true->listed[k]?=some true) (hcl:∀i k,listed[i]?=some true->(bs.getD i 0).testBit k=true->listed[k]?=some true) {dj:List (AV K)} {dY:List Nat} (fs:xU cx L bs cf F j o dj dY)
 {ρ1:List Value} {S1:Nat->Prop} {w1:World} {u:Value} (hs1:aM cx.D ρ1 S1 w1 (F.hout j)) (hst:Step cx.D (F.hin j).length (ρ.take (F.hin j).length) S (je (F.mask j) 0 (F.hin j)) w ρ1 S1 (F.hout j) w1) (hv:eV cx.D ρ1 S1 w1 a.tmps (F.vals j) u)
 (mM:∀g b y,F.vals j=.opt g b y->∃(k':Nat)(o':Oper),L[k']?=some o'/\o'.dst=some g/\listed[k']?=some true) {n0:Nat} (hn0:n0<=H0.length):
 kJ cx L bs cf F H0 HF (after F j H) (ρ1++ρ.drop (F.hout j).length) S1 (listed.setIfInBounds j true) (a.put o.dst u) w1/\Step cx.D n0 ρ S H w (ρ1++ρ.drop (F.hout j).length) S1 (after F j H) w1:=by
 have hj:j<L.length:=(cF.1 ho).1;have hjs:j<listed.size:=(kz.1 im).1;have hnm:=(hp.hs j hj).2;have hmN:(F.hout j).length<=H.length:=by
  have:=hp.mono (show j+1<=L.length by omega) (cq _);rw[hp.tA hj,hp.hn]at this;rw[hm.hlen];exact this
 have h0n:H0.length<=(F.hin j).length:=by have:=hp.mono (cN j) (by omega);rw[hp.h0]at this;exact this
 have hlt:∀k,listed[k]?=some true->k<L.length:=fun k hk=>by have:=(kz.1 hk).1;rw[hm.oN]at this;exact this
 have hne:∀k,listed[k]?=some true->k≠j:=fun k hk e=>by subst e;rw[im]at hk;cases hk
 have view:=hm.view hp hj im hA hcl fs;have hd:∀h,(F.hin j).length<=h->h<(F.hout j).length->ρ[h]?=some dummy:=fun h h1 h2=>
  hm.QD h (by omega) (by rw[<-hm.hlen];omega) fun k hk ⟨h3,h4⟩=>hne k hk (hp.maker hj (hlt k hk) h1 h2 h3 h4).symm
 have ag:=aeX (F:=F) (H:=H) hnm hmN;have joined:Joined (F.hin j).length (F.hout j).length H (je (F.mask j) 0 (F.hin j)) (F.hout j) (after F j H):=⟨hnm,rfl,after_length hnm hmN,hmN,fun h o1 h1=>by
  rw[ag]at h1;by_cases hh:h<(F.hout j).length
  ·rw[bf hh]at h1;by_cases hc:h<(F.hin j).length/\(F.mask j).testBit h=true
   ·rw[bf hc]at h1;refine .inr ⟨h1,.inl ⟨hc.1,?_⟩⟩;rw[AD,dz,hc.2,cJ hc.1];rfl
   ·rw[bg hc]at h1;exact .inl ⟨hh,h1⟩
  ·rw[bg hh]at h1;exact .inr ⟨h1,.inr (by omega)⟩⟩
 obtain⟨QE,stF,hmono⟩:=hm.heap.join (n0:=n0) view hs1 hst joined hd (by omega);have hl1:ρ1.length=(F.hout j).length:=hs1.len;have hρ:=Qo (n:=0) (ρ:=ρ) (ρ1:=ρ1) hl1 (by rw[hm.heap.len];exact hmN);have hread:∀b,S b->w1.heap[b]?=w.heap[b]?:=fun b hb=>hst.old b (hm.heap.slt b hb) fun h=>(hm.heap.lt b (view.own h)).2 hb
 have hrep:∀{v:AV K}{x:Value},Rep cx.D ρ S w v x->Rep cx.D (ρ1++ρ.drop (F.hout j).length) S1 w1 v x:=fun h=>h.mono' hst.s1 hread hmono
 have tz:∀{v:AV K}{x:Value}{tmps:Array Value},eV cx.D ρ S w tmps v x->eV cx.D (ρ1++ρ.drop (F.hout j).length) S1 w1 tmps v x:=fun h=>h.mono' hst.s1 hread hmono
 have hvF:eV cx.D (ρ1++ρ.drop (F.hout j).length) S1 w1 a.tmps (F.vals j) u:=hv.mono' (fun _ h=>h) (fun _ _=>rfl) fun h r hr _=>by
  have:h<(F.hout j).length:=by have:=(cF.1 hr).1;omega
  rw[hρ,bf this];exact hr
 have hget:∀(k:Nat),(listed.setIfInBounds j true)[k]?=some true↔(k=j\/listed[k]?=some true):=fun k=>by
  rw[pG];by_cases hk:j=k
  ·subst hk;simp[hjs]
  ·rw[bg hk];simp[pJ hk]
 have hclosed:∀(k:Nat) o1,L[k]?=some o1->(listed.setIfInBounds j true)[k]?=some true->∀e∈o1.after,(listed.setIfInBounds j true)[e.on]?=some true:=fun k o1 hk hlk e he=>by
  rw[hget]at hlk⊢;rcases hlk with rfl|hlk
  ·rw[ho]at hk;simp at hk;subst hk;exact .inr (lY e he)
  ·exact .inr (hm.closed k o1 hk hlk e he)
 have AB:∀(k g:Nat) b y,(listed.setIfInBounds j true)[k]?=some true->F.vals k=.opt g b y->∃(k':Nat)(o':Oper),L[k']?=some o'/\o'.dst=some g/\(listed.setIfInBounds j true)[k']?=some true:=fun k g b y hlk hvk=>by
  rw[hget]at hlk;rcases hlk with rfl|hlk
  ·obtain⟨k',o',h1,h2,h3⟩:=mM g b y hvk;exact⟨k',o',h1,h2,(hget k').2 (.inr h3)⟩
  ·obtain⟨k',o',h1,h2,h3⟩:=hm.opts k g b y hlk hvk;exact⟨k',o',h1,h2,(hget k').2 (.inr h3)⟩
 have hsame:∀h,¬F.W j h->(after F j H)[h]?=H[h]?:=fun h hn=>by
  rw[ag];by_cases hh:h<(F.hout j).length
  ·rw[bf hh];by_cases hc:h<(F.hin j).length/\(F.mask j).testBit h=true
   ·rw[bf hc]
   ·rw[bg hc];have hln:h<(F.hin j).length:=by
     rcases cU h (F.hin j).length with h1|h1
     ·exact h1
     ·exact absurd (.inr ⟨h1,hh⟩) hn
    have hun:(F.mask j).testBit h=false:=by
     cases hb:(F.mask j).testBit h with
     |false=>rfl
     |true=>exact absurd ⟨hln,hb⟩ hc
    rw[fs.turns.2 h (by rw[AE];exact hln) (fun hT=>hn (.inl hT)),AD,dz,hun,hm.sees hp hj im hA hcl hln hun];cases (F.hin j)[h]?<;>simp
  ·rw[bg hh]
 have hnew:∀h,F.W j h->(after F j H)[h]?=(F.hin (j+1))[h]?:=fun h hw=>by
  have hc:¬(h<(F.hin j).length/\(F.mask j).testBit h=true):=fun⟨h1,h2⟩=>by
   rcases hw with hT|hT
   ·have:=(hp.clear j hj h hT).1;rw[h2]at this;cases this
   ·omega
  have hh:h<(F.hout j).length:=by
   rcases hw with hT|hT
   ·have:=(hp.clear j hj h hT).2;omega
   ·exact hT.2
  rw[ag,bf hh,bg hc,(hp.hs j hj).1,Ep _ _ _ _ hnm,dz,bg hc]
 have c0:∀h,(∀k,(listed.setIfInBounds j true)[k]?=some true->¬F.W k h)->h<HF.length->(h<H0.length->(after F j H)[h]?=H0[h]?)/\(H0.length<=h->(after F j H)[h]?=some .dead):=fun h hno hh=>by
  rw[hsame h (hno j ((hget j).2 (.inl rfl)))];exact hm.Ko h (fun k hk=>hno k ((hget k).2 (.inr hk))) hh
 have ck:∀h k,(listed.setIfInBounds j true)[k]?=some true->F.W k h->(∀k',(listed.setIfInBounds j true)[k']?=some true->F.W k' h->k'<=k)->(after F j H)[h]?=(F.hin (k+1))[h]?:=fun h k hk hw hmax=>by
  by_cases hkj:k=j
  ·subst hkj;exact hnew h hw
  ·have hk':listed[k]?=some true:=((hget k).1 hk).resolve_left hkj;have vD:¬F.W j h:=fun Kq=>by
    have hjk:j<k:=by have:=hmax j ((hget j).2 (.inl rfl)) Kq;omega
    have ns:=hlt k hk';have hlen:=hp.mono (show j+1<=k by omega) (by omega);rw[hp.tA hj]at hlen;have hb:(bs.getD k 0).testBit j=false:=by
     cases hb:(bs.getD k 0).testBit j with
     |false=>rfl
     |true=>have:=hcl k j hk' hb;rw[im]at this;cases this
    have hmk:=hp.masks k ns h ⟨j,hjk,hb,Kq⟩;rcases hw with hT|hT
    ·have:=(hp.clear k ns h hT).1;rw[hmk]at this;cases this
    ·have:h<(F.hout j).length:=by
      rcases Kq with h1|h1
      ·have:=(hp.clear j hj h h1).2;omega
      ·exact h1.2
     omega
   rw[hsame h vD];exact hm.Kp h k hk' hw fun k' a b=>hmax k' ((hget k').2 (.inr a)) b
 have cd:∀h,H0.length<=h->h<HF.length->(∀k,(listed.setIfInBounds j true)[k]?=some true->¬((F.hin k).length<=h/\h<(F.hout k).length))->(ρ1++ρ.drop (F.hout j).length)[h]?=some dummy:=fun h h1 h2 hno=>by
  have h3:=hm.QD h h1 h2 fun k hk=>hno k ((hget k).2 (.inr hk))
  have h4:=hno j ((hget j).2 (.inl rfl));rw[hρ];by_cases hh:h<(F.hout j).length
  ·have hl:h<(F.hin j).length:=by
    rcases cU h (F.hin j).length with h5|h5
    ·exact h5
    ·exact absurd ⟨h5,hh⟩ h4
   rw[bf hh,hst.pre h hl,fj,bf hl];exact h3
  ·rw[bg hh];exact h3
 have hlen2:(after F j H).length=HF.length:=by rw[after_length hnm hmN,hm.hlen]
 refine⟨?_,stF⟩;cases hdst:o.dst with
 |none=>
  refine⟨QE,hlen2,hm.defers,hm.size,by simp[hm.oN],fun t v x h1 h2 h3=>hrep (hm.base t v x (fun k o1 hk hd1 hl=>h1 k o1 hk hd1 ((hget k).2 (.inr hl))) h2 h3),fun k o1 d x hk hlk hd1 hx=>?_,AB,hclosed,c0,ck,cd⟩;rw[hget]at hlk;rcases hlk with rfl|hlk
  ·rw[ho]at hk;simp at hk;subst hk;rw[hdst]at hd1;cases hd1
  ·exact tz (hm.done k o1 d x hk hlk hd1 hx)
 |some d=>
  have Kr:∀{k:Nat}{o1:Oper},L[k]?=some o1->listed[k]?=some true->o1.dst≠some d:=fun{k o1} hk hlk hd1=>by
   have:=hp.uniq k j o1 o d (hlt k hlk) hj hk ho hd1 hdst;exact hne k hlk this
  refine⟨QE,hlen2,hm.defers,by simp[Act.put,hm.size],by simp[hm.oN],fun t v x h1 h2 h3=>?_,fun k o1 d1 x hk hlk hd1 hx=>?_,AB,hclosed,c0,ck,cd⟩
  ·have:d≠t:=fun e=>by subst e;exact h1 j o ho hdst ((hget j).2 (.inl rfl))
   simp only[Act.put,pG,bg this]at h3;exact hrep (hm.base t v x (fun k o1 hk hd1 hl=>h1 k o1 hk hd1 ((hget k).2 (.inr hl))) h2 h3)
  ·rw[hget]at hlk;simp only[Act.put]at hx⊢;rw[pG]at hx;rcases hlk with rfl|hlk
   ·rw[ho]at hk;simp at hk;subst hk;rw[hdst]at hd1;simp at hd1;subst hd1;rw[bf rfl]at hx;split at hx
    ·simp at hx;subst hx;refine hvF.put fun g b y e he=>?_
     obtain⟨k',o',h1,h2,h3⟩:=mM g b y e;subst he;exact Kr h1 h3 h2
    ·cases hx
   ·have hdd:d≠d1:=fun e=>by subst e;exact Kr hk hlk hd1
    rw[bg hdd]at hx;refine(tz (hm.done k o1 d1 x hk hlk hd1 hx)).put fun g b y e he=>?_
    obtain⟨k',o',h1,h2,h3⟩:=hm.opts k g b y hlk e;subst he;exact Kr h1 h3 h2
end
end Go.V
namespace Go.V
open Go
variable {K :di}{ρ ρ':List Value}{S S':Nat->Prop}{w w':World}{H H':List (Ob K)}{D:bC K}
def oO(H0:List (Ob K))(n:Nat):List (Ob K):=H0++List.replicate (n-H0.length) .dead
def nu(ρ:List Value)(n:Nat):List Value:=ρ++List.replicate (n-ρ.length) dummy
theorem QF{H0:List (Ob K)}{n:Nat}(h:H0.length<=n):(oO H0 n).length=n:=by simp[oO];omega
theorem QG{n h:Nat}{r:Value}(hr:ρ[h]?=some r):(nu ρ n)[h]?=some r:=by
 unfold nu;rw[dX (cF.1 hr).1];exact hr
theorem QH{H0:List (Ob K)}{n h:Nat}{o:Ob K}(ho:(oO H0 n)[h]?=some o):H0[h]?=some o\/(H0.length<=h/\o=.dead):=by
 unfold oO at ho;rcases cU h H0.length with h1|h1
 ·rw[dX h1]at ho;exact .inl ho
 ·rw[eZ h1,mF]at ho;split at ho
  ·simp at ho;exact .inr ⟨h1,ho.symm⟩
  ·cases ho
theorem Ew{H0:List (Ob K)}{n h:Nat}{o:Ob K}{r:Value}(hl:ρ.length=H0.length)(ho:(oO H0 n)[h]?=some o)(hlv:o.live=true)(hr:(nu ρ n)[h]?=some r):H0[h]?=some o/\ρ[h]?=some r:=by
 rcases QH ho with h1|⟨-,rfl⟩
 ·have:h<ρ.length:=by rw[hl];exact(cF.1 h1).1
  unfold nu at hr;rw[dX this]at hr;exact⟨h1,hr⟩
 ·cases hlv
theorem aM.pad{H0:List (Ob K)}(hs:aM D ρ S w H0){n:Nat}(hn:H0.length<=n):aM D (nu ρ n) S w (oO H0 n):=by
 have own:∀b,Own D w (nu ρ n) (oO H0 n) b->Own D w ρ H0 b:=fun b ⟨h,o,r,h1,h2,h3,h4⟩=>by
  obtain⟨g1,g2⟩:=Ew hs.len h1 h2 h3;exact⟨h,o,r,g1,h2,g2,h4⟩
 refine⟨by rw[QF hn];simp[nu];have:=hs.len;omega,fun h o r h1 h2=>?_,fun h h' o o' r r' b h1 h2 h3 h4 h5 h6 h7 h8=>?_,fun b hb=>hs.lt b (own b hb),hs.slt,hs.base⟩
 ·rcases QH h1 with h3|⟨-,rfl⟩
  ·have:h<ρ.length:=by rw[hs.len];exact(cF.1 h3).1
   have h4:ρ[h]?=some r:=by unfold nu at h2;rwa [dX this]at h2
   refine(hs.ob h o r h3 h4).mono' (fun _ h=>h) (fun _ _=>rfl) (fun h' r' hr' _=>QG hr') fun _ _ _=>rfl
  ·trivial
 ·obtain⟨g1,g2⟩:=Ew hs.len h1 h2 h3;obtain⟨k1,k2⟩:=Ew hs.len h5 h6 h7;exact hs.ff h h' o o' r r' b g1 h2 g2 h4 k1 h6 k2 h8
theorem Step.pad{H0:List (Ob K)}(hs:aM D ρ S w H0){n n0:Nat}(hn:n0<=H0.length):Step D n0 ρ S H0 w (nu ρ n) S (oO H0 n) w:=
 ⟨rfl,rfl,rfl,cq _,fun _ _ _=>rfl,fun b ⟨h,o,r,h1,h2,h3,h4⟩=>by
   obtain⟨g1,g2⟩:=Ew hs.len h1 h2 h3;exact .inl ⟨h,o,r,g1,h2,g2,h4⟩,fun _ h=>h,fun _ h=>.inl h,fun h hh=>by
   have:h<ρ.length:=by rw[hs.len];omega
   unfold nu;rw[dX this]⟩
section
variable {cx :Cx K}{L:List Oper}{bs:List Nat}{H0:List (Ob K)}{cf fw:List (AV K)}{F:lD K}{HF:List (Ob K)}{wr:List Nat}{ms:List (Nat×Nat)}{ws:List Nat}{listed:Array Bool}{a:Act}
theorem gC.len0(hp:gC cx L bs H0 cf F L.length fw HF wr ms ws):H0.length<=HF.length:=by
 have:=hp.mono (cN L.length) (cq _);rw[hp.h0,hp.hn]at this;exact this
theorem kJ.final(hp:gC cx L bs H0 cf F L.length fw HF wr ms ws)(hm:kJ cx L bs cf F H0 HF H ρ S listed a w)(hall:∀i,i<L.length->listed[i]?=some true):H=HF:=by
 have hlt:∀k,listed[k]?=some true->k<L.length:=fun k hk=>by have:=(kz.1 hk).1;rw[hm.oN]at this;exact this
 apply uZ;intro h;rcases cU h HF.length with hh|hh
 ·have QI:h<(F.hin L.length).length:=by rw[hp.hn];exact hh
  by_cases hex:∃k,listed[k]?=some true/\F.W k h
  ·obtain⟨k,⟨hk1,hk2⟩,hk3⟩:=QC (p:=fun k=>listed[k]?=some true/\F.W k h) (n:=L.length) (fun k hk=>hlt k hk.1) hex;rw[hm.Kp h k hk1 hk2 fun k' a b=>hk3 k' ⟨a,b⟩];have ns:=hlt k hk1;have hno:∀k',k+1<=k'->k'<L.length->¬F.W k' h:=fun k' h1 h2 hw=>by have:=hk3 k' ⟨hall k' h2,hw⟩;omega
   by_cases hl:h<(F.hin (k+1)).length
   ·rw[<-hp.stay (show k+1<=L.length by omega) (cq _) hno hl,hp.hn]
   ·exfalso;have:H0.length<=h:=by have:=hp.mono (show 0<=k+1 by omega) (show k+1<=L.length by omega);rw[hp.h0]at this;omega
    obtain⟨k',g1,g2,g3⟩:=hp.made (cq _) QI this;by_cases hkk:k+1<=k'
    ·exact hno k' hkk g1 (.inr ⟨g2,g3⟩)
    ·have:=hp.mono (show k'+1<=k+1 by omega) (show k+1<=L.length by omega);rw[hp.tA g1]at this;omega
  ·have hno:∀k,listed[k]?=some true->¬F.W k h:=fun k a b=>hex ⟨k,a,b⟩
   have vD:∀k,0<=k->k<L.length->¬F.W k h:=fun k _ hk hw=>hno k (hall k hk) hw
   obtain⟨g1,g2⟩:=hm.Ko h hno hh;by_cases h0:h<H0.length
   ·rw[g1 h0,<-hp.hn,hp.stay (cN _) (cq _) vD (by rw[hp.h0];exact h0),hp.h0]
   ·obtain⟨k',a1,a2,a3⟩:=hp.made (cq _) QI (by omega);exact absurd (.inr ⟨a2,a3⟩) (vD k' (cN _) a1)
 ·rw[kA (by rw[hm.hlen];exact hh),kA hh]
theorem ae0(hD:bT cx.D)(hc:aY cx)(he:kG L 0=true)(hp:gC cx L (iQ L []) H0 cf F L.length fw HF wr ms ws){n0:Nat}(hn:n0<=H0.length){Q:Exit->Act->World->Prop}:
 ∀(fuel:Nat)(listed:Array Bool)(H:List (Ob K))(ρ:List Value)(S:Nat->Prop)(a:Act)(w:World),kJ cx L (iQ L []) cf F H0 HF H ρ S listed a w->todo listed<=fuel->
 (∀ρ' S' a' w',aM cx.D ρ' S' w' HF->fq cx.D ρ' S' w' fw a'.tmps->a'.defers=[]->Step cx.D n0 ρ S H w ρ' S' HF w'->Q .normal a' w')->wpAny cx.P .any L.toArray Q fuel listed a w:=by
 have hfin:∀(listed:Array Bool)(H:List (Ob K))(ρ:List Value)(S:Nat->Prop)(a:Act)(w:World),kJ cx L (iQ L []) cf F H0 HF H ρ S listed a w->Region.ready .any L.toArray listed=[]->H=HF/\fq cx.D ρ S w fw a.tmps:=fun listed H ρ S a w hm hr=>by
  have hall:=Ql he hm.oN hr;refine⟨hm.final hp hall,by rw[hp.len,hm.size],fun t v x hv hx=>?_⟩;rcases xR L t with hnd|⟨k,o,hk,hkd⟩
  ·rw[hp.rest t fun k o _ h=>hnd k o h]at hv;exact .kH (hm.base t v x (fun k o hk hkd=>absurd hkd (hnd k o hk)) hv hx)
  ·have ns:=(cF.1 hk).1;rw[hp.fin k o t ns hk hkd]at hv;simp only[aw]at hv;subst hv;exact hm.done k o t x hk (hall k ns) hkd hx
 intro fuel
 induction fuel with
 |zero=>
  intro listed H ρ S a w hm ht hq;have hr:Region.ready .any L.toArray listed=[]:=by
   cases hh:Region.ready .any L.toArray listed with
   |nil=>rfl
   |cons j r=>
    have:j∈Region.ready .any L.toArray listed:=by rw[hh];simp
    exact absurd (Az.1 (mem_ready.1 this).1) (Qk (by omega))
  obtain⟨e,hs⟩:=hfin listed H ρ S a w hm hr;subst e;exact⟨hr,hq ρ S a w hm.heap hs hm.defers Step.refl⟩
 |succ fuel ih=>
  intro listed H ρ S a w hm ht hq;refine⟨fun hr=>by
   obtain⟨e,hs⟩:=hfin listed H ρ S a w hm hr;subst e;exact hq ρ S a w hm.heap hs hm.defers Step.refl,fun j hj=>?_⟩
  obtain⟨ry,o,hoj,hall⟩:=mem_ready.1 hj;have im:=Az.1 ry;have ho:L[j]?=some o:=by simpa using hoj
  have QJ:=(cF.1 ho).1;have lY:∀e∈o.after,listed[e.on]?=some true:=fun e vB=>J2.1 (hall e vB (Ax L 0 j o he ho e vB).2)
  have hA:∀k,((iQ L []).getD j 0).testBit k=true->listed[k]?=some true:=fun k hk=>
   (tw he (T:=fun i=>listed[i]?=some true) (fun i o hi gB=>hm.closed i o hi gB) j o ho lY k hk).1
  have hcl:∀i k,listed[i]?=some true->((iQ L []).getD i 0).testBit k=true->listed[k]?=some true:=fun i k hi hk=>by
   have hiL:i<L.length:=by have:=(kz.1 hi).1;rw[hm.oN]at this;exact this
   exact(tw he (T:=fun i=>listed[i]?=some true) (fun i o hi gB=>hm.closed i o hi gB) i _ (cJ hiL) (hm.closed i _ (cJ hiL) hi) k hk).1
  obtain⟨dj,dY,fs⟩:=hp.slot j o QJ ho;obtain⟨hsl,hkn⟩:=hm.slots hD rfl he hp ho im lY fs;have view:=hm.view hp QJ im hA hcl fs;have hsv:=hm.heap.view hD view;have main:∀q,jd q cx L (eS (fk (iQ L []) j) L 0 dj) (je (F.mask j) 0 (F.hin j)) dY o=some (F.vals j,F.hout j,true)->wpOp cx.P L.toArray Q j (wpAny cx.P .any L.toArray Q fuel (listed.setIfInBounds j true)) a w:=fun q s1=>by
   have mM:∀g b y,F.vals j=.opt g b y->∃(k':Nat)(o':Oper),L[k']?=some o'/\o'.dst=some g/\listed[k']?=some true:=fun g b y e=>by
    rw[e]at s1;obtain⟨v,g1,g2⟩:=Qh s1;rcases hkn g v g1 g2 with hn'|h
    ·obtain⟨k,o',hk,h2,h3⟩:=fs.dY g (vA s1 g b y rfl);exact absurd h3 (hn' k o' hk h2)
    ·exact h
   have hw:=JS hD hc hsv hsl (ops:=L) s1 rfl (k:=wpAny cx.P .any L.toArray Q fuel (listed.setIfInBounds j true)) (Q:=Q) fun u ρ1 S1 w1 q1 q2 q3=>by
    rw[AE]at q3;obtain⟨hm1,st1⟩:=hm.put hD hp ho im lY hA hcl fs q1 q3 q2 mM hn;exact ih _ _ _ S1 _ w1 hm1 (by have:=Qj im;omega) fun ρ' S' a' w' g1 g2 g3 g4=>hq ρ' S' a' w' g1 g2 g3 (st1.trans g4)
   unfold wpOp;rw[hoj];dsimp only;split
   ·rename_i hwt;rw[bf hwt]at hw;exact .inl hw
   ·rename_i hwt;rw[bg hwt]at hw;exact hw
  have s1:=fs.slot;unfold xx at s1;split at s1
  ·exact main true s1
  ·split at s1
   ·exact main false s1
   ·cases s1
theorem kJ.start(hp:gC cx L bs H0 cf F L.length fw HF wr ms ws)(hs:aM cx.D ρ S w H0)(hd:a.defers=[])(hsl:fq cx.D ρ S w cf a.tmps)(h0:dG cf):
 kJ cx L bs cf F H0 HF (oO H0 HF.length) (nu ρ HF.length) S (Array.replicate L.length false) a w:=by
 have hf:∀(k:Nat),(Array.replicate L.length false)[k]?≠some true:=fun k e=>by
  rw[Du]at e;split at e<;>simp at e
 have hl:=hp.len0;refine⟨hs.pad hl,QF hl,hd,hsl.len.symm,by simp,fun t v x hn1 h1 h2=>?_,fun k o d x h1 h2=>absurd h2 (hf k),fun k g b y h1=>absurd h1 (hf k),fun k o h1 h2=>absurd h2 (hf k),fun h _ hh=>⟨fun h1=>?_,fun h1=>?_⟩,fun h k hk=>absurd hk (hf k),fun h h1 h2 _=>?_⟩
 ·have h3:=hsl.ok t v x h1 h2;have h4:Rep cx.D ρ S w v x:=by
   cases v with
   |opt g b y=>exact absurd h1 (h0 t g b y)
   |_=>exact h3
  exact h4.mono' (fun _ h=>h) (fun _ _=>rfl) fun h r hr _=>QG hr
 ·unfold oO;rw[dX h1]
 ·unfold oO;rw[eZ h1,mF,bf (by omega)]
 ·unfold nu;rw[eZ (by rw[hs.len];exact h1),mF,bf (by rw[hs.len];omega)]
end
end Go.V
namespace Go.V
open Go
theorem QK:∀(π:List Nat),ni π=true->∀(i j k:Nat),π[i]?=some k->π[j]?=some k->i=j
 |[],_,i,j,k,h,_=>by simp at h
 |x::r,hn,i,j,k,hi,hj=>by
  simp only[ni,bu,fb,xd,fa]at hn;cases i with
  |zero=>
   cases j with
   |zero=>rfl
   |succ j=>simp at hi hj;subst hi;exact absurd (iO hj) hn.1
  |succ i=>
   cases j with
   |zero=>simp at hi hj;subst hj;exact absurd (iO hi) hn.1
   |succ j=>rw[QK r hn.2 i j k (by simpa using hi) (by simpa using hj)]
structure rD (π:List Nat) (ops ops':Array Oper):Prop where
 len:π.length=ops.size
 len':ops'.size=ops.size
 Ey:∀i,i<ops.size->∃j:Nat,π[j]?=some i
 inj:∀(i j k:Nat),π[i]?=some k->π[j]?=some k->i=j
 ops:∀(j i:Nat),π[j]?=some i->∃o,ops[i]?=some o/\ops'[j]?=some (vj π ops.size o)
theorem QL{π:List Nat}{ops:List Oper}(h:Aa π ops.length=true):rD π ops.toArray (permuted π ops).toArray:=by
 simp only[Aa,bu,bX,fO,List.mem_range,xd]at h;obtain⟨h1,h2,h3,h4⟩:=h;refine⟨by simpa using h1,by simp[permuted,h1],fun i hi=>?_,QK π h4,fun j i hj=>?_⟩
 ·have:=h3 i (by simpa using hi);obtain⟨j,hj,e⟩:=qT this;exact⟨j,by rw[cJ hj,e]⟩
 ·have hi:i<ops.length:=h2 i (iO hj);refine⟨ops[i],by simp[hi],?_⟩;simp only[List.getElem?_toArray,permuted,jG,hj,iP,cJ hi,pI]
section
variable {P :Program}{π:List Nat}{ops ops':Array Oper}{Q:Exit->Act->World->Prop}
theorem QM{π:List Nat}{i j:Nat}(h:π.idxOf? i=some j):π[j]?=some i:=by
 rw[List.idxOf?_eq_some_iff]at h;obtain⟨hlt,he,-⟩:=h;rw[cJ hlt];simpa using he
theorem QN{π:List Nat}{i:Nat}(h:π.idxOf? i=none):i∉π:=by
 rw[List.idxOf?_eq_none_iff]at h;exact h
structure Listed (π:List Nat) (n:Nat) (l l':Array Bool):Prop where
 sz:l.size=n
 sz':l'.size=n
 eq:∀(j i:Nat),π[j]?=some i->l'[j]?=l[i]?
theorem Listed.getD(hp:rD π ops ops'){l l':Array Bool}(h:Listed π ops.size l l')(i:Nat):l'.getD ((π.idxOf? i).getD ops.size) false=l.getD i false:=by
 cases hx:π.idxOf? i with
 |some j=>
  have:=h.eq j i (QM hx);simp only[an,ou,this]
 |none=>
  have hi:ops.size<=i:=by
   rcases cU i ops.size with hlt|hge
   ·obtain⟨j,hj⟩:=hp.Ey i hlt;exact absurd (iO hj) (QN hx)
   ·exact hge
  simp only[Option.getD_none,ou];rw[qS (by rw[h.sz'];exact cq _),qS (by rw[h.sz];exact hi)]
theorem mem_ready{ops:Array Oper}{l:Array Bool}{i:Nat}:i∈Region.ready .any ops l↔i<ops.size/\l.getD i true=false/\∃o,ops[i]?=some o/\(o.after.all fun e=> !Region.binds .any e||l.getD e.on false)=true:=by
 unfold Region.ready;rw[List.mem_filter,List.mem_range];constructor
 ·rintro ⟨h1,h2⟩
  rw[bu,fb]at h2;refine⟨h1,h2.1,ops[i],by simp[h1],?_⟩;have:=h2.2;rw[xb h1]at this;simpa using this
 ·rintro ⟨h1,h2,o,h3,h4⟩
  refine⟨h1,?_⟩;rw[bu,fb];refine⟨h2,?_⟩;rw[h3];simpa using h4
theorem QO(hp:rD π ops ops'){l l':Array Bool}(h:Listed π ops.size l l')(o:Oper):
 ((vj π ops.size o).after.all fun e=> !Region.binds .any e||l'.getD e.on false)=(o.after.all fun e=> !Region.binds .any e||l.getD e.on false):=by
 have key:∀(L:List Edge),(((L.filter (Region.binds .any)).map fun e=>({e with on:=(π.idxOf? e.on).getD ops.size}:Edge)).all fun e=> !Region.binds .any e||l'.getD e.on false)=L.all fun e=> !Region.binds .any e||l.getD e.on false:=by
  intro L
  induction L with
  |nil=>rfl
  |cons e r ih=>
   rw[List.filter_cons,sU,<-ih];cases hb:Region.binds .any e with
   |false=>simp
   |true=>
    have hb':Region.binds .any {e with on:=(π.idxOf? e.on).getD ops.size}=true:=hb;simp only[Dx,eR,sU,hb',h.getD hp]
 have:=key o.after.toList;simp only[vj];rw[<-Array.all_toList,<-Array.all_toList,Array.toList_map,Array.toList_filter];exact this
theorem Ks(hp:rD π ops ops'){l l':Array Bool}(h:Listed π ops.size l l'){i j:Nat}(hj:π[j]?=some i):j∈Region.ready .any ops' l'↔i∈Region.ready .any ops l:=by
 obtain⟨o,ho,ho'⟩:=hp.ops j i hj;have hi:i<ops.size:=(kz.1 ho).1;have hj':j<ops'.size:=(kz.1 ho').1;have hl:l'.getD j true=l.getD i true:=by simp only[ou,h.eq j i hj]
 rw[mem_ready,mem_ready,hl];constructor
 ·rintro ⟨-,h2,o1,h3,h4⟩
  rw[ho']at h3;simp only[aw]at h3;subst h3;rw[QO hp h]at h4;exact⟨hi,h2,o,ho,h4⟩
 ·rintro ⟨-,h2,o1,h3,h4⟩
  rw[ho]at h3;simp only[aw]at h3;subst h3;exact⟨hj',h2,_,ho',by rw[QO hp h];exact h4⟩
theorem ae1(hp:rD π ops ops')(tm:Array Value)(i:Nat):yielded ops' tm ((π.idxOf? i).getD ops.size)=yielded ops tm i:=by
 unfold yielded;have:(ops'[(π.idxOf? i).getD ops.size]?).bind (·.dst)=(ops[i]?).bind (·.dst):=by
  cases hx:π.idxOf? i with
  |some j=>
   obtain⟨o,ho,ho'⟩:=hp.ops j i (QM hx);simp only[an];rw[ho,ho'];rfl
  |none=>
   have hi:ops.size<=i:=by
    rcases cU i ops.size with hlt|hge
    ·obtain⟨j,hj⟩:=hp.Ey i hlt;exact absurd (iO hj) (QN hx)
    ·exact hge
   simp only[Option.getD_none];rw[qS (by rw[hp.len'];exact cq _),qS hi]
 rw[this]
theorem ae2(hp:rD π ops ops')(tm:Array Value)(o:Oper):Region.wanted (vj π ops.size o) (yielded ops' tm)=Region.wanted o (yielded ops tm):=by
 unfold Region.wanted vj;cases hg:o.guard with
 |none=>rfl
 |some g=>simp only[iP,ae1 hp]
theorem ae3(hp:rD π ops ops'){i j:Nat}(hj:π[j]?=some i){K:Act->World->Prop}{a:Act}{w:World}(h:wpOp P ops' Q j K a w):wpOp P ops Q i K a w:=by
 obtain⟨o,ho,ho'⟩:=hp.ops j i hj;unfold wpOp at h⊢;rw[ho']at h;rw[ho];dsimp only at h⊢;rw[ae2 hp]at h;exact h
theorem Listed.set(hp:rD π ops ops'){l l':Array Bool}(h:Listed π ops.size l l'){i j:Nat}(hj:π[j]?=some i):Listed π ops.size (l.setIfInBounds i true) (l'.setIfInBounds j true):=by
 refine⟨by simp[h.sz],by simp[h.sz'],fun j' i' hj'=>?_⟩;rw[pG,pG];have hb:j<l'.size↔i<l.size:=by
  have:=h.eq j i hj;constructor
  ·intro hlt;rcases cU i l.size with h1|h1
   ·exact h1
   ·rw[qS h1,xb hlt]at this;cases this
  ·intro hlt;rcases cU j l'.size with h1|h1
   ·exact h1
   ·rw[qS h1,xb hlt]at this;cases this
 by_cases e:j=j'
 ·subst e;rw[hj]at hj';simp only[aw]at hj';subst hj';simp only[Dx];by_cases h1:j<l'.size
  ·rw[bf h1,bf (hb.1 h1)]
  ·rw[bg h1,bg (fun h2=>h1 (hb.2 h2))]
 ·have e':i≠i':=fun e2=>by subst e2;exact e (hp.inj j j' i hj hj')
  rw[bg e,bg e'];exact h.eq j' i' hj'
theorem ae4(hp:rD π ops ops'):∀(fuel:Nat)(l l':Array Bool)(a:Act)(w:World),Listed π ops.size l l'->wpAny P .any ops' Q fuel l' a w->wpAny P .any ops Q fuel l a w:=by
 have nil:∀{l l':Array Bool},Listed π ops.size l l'->Region.ready .any ops l=[]->Region.ready .any ops' l'=[]:=fun{l l'} h he=>by
  apply List.eq_nil_iff_forall_not_mem.2;intro j hj;have hjn:j<π.length:=by rw[hp.len,<-hp.len'];exact(mem_ready.1 hj).1
  have:=(Ks hp h (cJ hjn)).1 hj;rw[he]at this;cases this
 have nil':∀{l l':Array Bool},Listed π ops.size l l'->Region.ready .any ops' l'=[]->Region.ready .any ops l=[]:=fun{l l'} h he=>by
  apply List.eq_nil_iff_forall_not_mem.2;intro i hi;obtain⟨j,hj⟩:=hp.Ey i (mem_ready.1 hi).1;have:=(Ks hp h hj).2 hi;rw[he]at this;cases this
 intro fuel
 induction fuel with
 |zero=>
  intro l l' a w h hw;exact⟨nil' h hw.1,hw.2⟩
 |succ fuel ih=>
  intro l l' a w h hw;refine⟨fun he=>hw.1 (nil h he),fun i hi=>?_⟩;obtain⟨j,hj⟩:=hp.Ey i (mem_ready.1 hi).1;refine ae3 hp hj (wpOp_mono (fun a w=>ih _ _ a w (h.set hp hj)) (hw.2 j ((Ks hp h hj).2 hi)))
end
end Go.V
namespace Go.V
open Go
variable {K :di}{ρ ρ':List Value}{S S':Nat->Prop}{w w':World}{H H':List (Ob K)}
def Tr(cx:Cx K)(n0:Nat)(c:Code)(st:St K)(e:Ex)(st':St K):Prop:=
 ∀(ρ:List Value)(S:Nat->Prop)(a:Act)(w:World),n0<=st.H.length->Sat cx ρ S a w st->
  c.wp cx.P (fun e' a' w'=>e'=e.ox/\n0<=st'.H.length/\∃ρ' S',Sat cx ρ' S' a' w' st'/\Step cx.D n0 ρ S st.H w ρ' S' st'.H w') a w
theorem Step.drew{D:bC K}{n0 n:Nat}{ρ ρ':List Value}{S S':Nat->Prop}{w w':World}{H H':List (Ob K)}(h:Step D n0 ρ S H {w with drawn:=n} ρ' S' H' w'):Step D n0 ρ S H w ρ' S' H' w':=
 have g:∀b,Own D {w with drawn:=n} ρ H b->Own D w ρ H b:=fun b h=>h.old fun _ _=>rfl
 ⟨h.os,h.tape,h.output,h.size,fun b hb hn=>h.old b hb fun hO=>hn (g b hO),fun b hb=>(h.own b hb).imp (g b) id,h.s1,fun b hb=>(h.s2 b hb).imp id (Or.imp (g b) id),h.pre⟩
theorem Sat.drawn{cx:Cx K}{a:Act}{st:St K}(h:Sat cx ρ S a w st)(n:Nat):Sat cx ρ S a {w with drawn:=n} st:=
 ⟨h.heap.world (cq _) (fun _ _=>rfl) (fun _ _=>rfl),fq.mono (w:=w) (w':={w with drawn:=n}) (fun _ h=>h) (fun _ _=>rfl) (fun _ _ h=>h) h.slots,h.defers⟩
theorem QP{cx:Cx K}{ops:List Oper}:∀(l:List Oper)(st st':St K)(wr wr':List Nat),lW cx ops l st wr=some (st',wr')->lX st.tm wr->lX st'.tm wr'
 |[],st,st',wr,wr',h,ho=>by simp only[lW,aw,aP]at h;obtain⟨rfl,rfl⟩:=h;exact ho
 |o::r,st,st',wr,wr',h,ho=>by
  simp only[lW]at h;split at h
  ·rename_i st1 iT h1;refine QP r st1 st' iT wr' h ?_;unfold vi at h1;split at h1
   ·rename_i v H1 c hsv;obtain⟨-,-,p3⟩:=rB h1;rcases p3 with⟨e1,e2,e3⟩|⟨d,e1,e2,e3,e4,e5⟩
    ·rw[e2,e3];exact ho
    ·rw[e4,e5];exact ho.put (vA hsv)
   ·cases h1
  ·cases h
theorem ae5{cx:Cx K}{op:Op}(h:jr cx op=true):oI cx op=true:=by
 unfold oI;split
 ·rfl
 ·simp only[jr]at h;simp[h]
 ·simp only[jr,bu]at h;simp[h.1]
 ·exact h
theorem Kt{cx:Cx K}{ops:List Oper}{π:List Nat}{st st':St K}(h:Ab cx ops π st=some st'):Aa π ops.length=true/\pQ cx (permuted π ops) st=some st':=by
 unfold Ab at h;split at h
 ·rename_i hp;exact⟨hp,h⟩
 ·cases h
theorem QQ{cx:Cx K}{ops:List Oper}{st st':St K}(h:I2 cx ops st=some st'):pQ cx ops st=some st'\/∃π,Aa π ops.length=true/\pQ cx (permuted π ops) st=some st':=by
 unfold I2 at h;split at h
 ·split at h
  ·rename_i r hr;simp only[aw]at h;subst h;exact .inl hr
  ·exact .inr ⟨_,Kt h⟩
 ·split at h
  ·rename_i r hr;simp only[aw]at h;subst h;exact .inr ⟨_,Kt hr⟩
  ·exact .inr ⟨_,Kt h⟩
theorem QR{cx:Cx K}(hD:bT cx.D)(hc:aY cx){n0:Nat}{ops:Array Oper}{st st':St K}(h:pQ cx ops.toList st=some st'):
 (st'.ok=true->st.ok=true)/\(st'.ok=true->dG st.tm->dG st'.tm/\∀(ρ:List Value)(S:Nat->Prop)(a:Act)(w:World),n0<=st.H.length->Sat cx ρ S a w st->
   wpAny cx.P .any ops (fun e' a' w'=>e'=Ex.normal.ox/\n0<=st'.H.length/\∃ρ' S',Sat cx ρ' S' a' w' st'/\Step cx.D n0 ρ S st.H w ρ' S' st'.H w') ops.size (Array.replicate ops.size false) a {w with drawn:=w.drawn+1}):=by
 unfold pQ at h;split at h
 ·rename_i hsm;simp only[bu]at hsm;split at h
  ·rename_i s1 wr hr;simp only[aw]at h;subst h;have hk:=J0 _ _ _ _ _ _ hr;refine⟨fun hok=>(hk hok).1,fun hok h0=>?_⟩;obtain⟨vals,hd,hwr⟩:=aeE hr hok;have hH:=(hk hok).2;have J3:∀(i:Nat) o,ops.toList[i]?=some o->oI cx o.op=true:=fun i o ho=>
    fO.1 hsm.1 o (iO ho)
   have mM:lX s1.tm wr:=fun t g b v e=>by
    rcases xR ops.toList t with hn|⟨k,o,hk1,hk2⟩
    ·rw[hd.rest t hn]at e;exact absurd e (h0 t g b v)
    ·rw[hd.fin k o t hk1 hk2]at e;refine⟨(hwr t).2 ⟨k,o,hk1,hk2⟩,?_⟩;obtain⟨dj,dY,H1,q1,q2,q3,q4,q5⟩:=hd.slot k o hk1;simp only[aw]at e;rw[e]at q1;obtain⟨k',o',-,c2,c3⟩:=q5 g (vA q1 g b v rfl);exact(hwr g).2 ⟨k',o',c2,c3⟩
   refine⟨dG.wipe mM,fun ρ S a w hn bH=>?_⟩;have rE:=bH.drawn (w.drawn+1);have hall:ops=ops.toList.toArray:=by simp
   have hmid:Mid cx ops.toList st.tm vals st.H ρ S (Array.replicate ops.size false) a {w with drawn:=w.drawn+1}:=by
    have hf:∀(k:Nat),(Array.replicate ops.size false)[k]?≠some true:=fun k e=>by
     rw[Du]at e;split at e<;>simp at e
    refine⟨rE.heap,rE.defers,rE.slots.len.symm,by simp,fun t v x hn1 h1 h2=>?_,fun k o d x h1 h2=>absurd h2 (hf k),fun k g b y h1=>absurd h1 (hf k),fun k o h1 h2=>absurd h2 (hf k)⟩;have:=rE.slots.ok t v x h1 h2;cases v with
    |opt g b y=>exact absurd h1 (h0 t g b y)
    |_=>exact this
   rw[hH];have key:=aeF hD hc J3 hsm.2 hd h0 (n0:=n0) hn (Q:=fun e' a' w'=>e'=Ex.normal.ox/\n0<=st.H.length/\∃ρ' S',Sat cx ρ' S' a' w' ⟨jM s1.tm wr,st.H,s1.ok⟩/\Step cx.D n0 ρ S st.H w ρ' S' st.H w') ops.size (Array.replicate ops.size false) ρ S a {w with drawn:=w.drawn+1} hmid (Qm _) fun ρ' S' a' w' g1 g2 g3 g4=>by
    exact⟨rfl,hn,ρ',S',⟨g1,g2.wipe _ _,g3⟩,g4.drew⟩
   rw[<-hall]at key;exact key
  ·cases h
 ·split at h
  ·rename_i Ku;split at h
   ·rename_i s1 wr hr;simp only[aw]at h;subst h;refine⟨fun hok=>J9 _ _ _ _ _ _ _ _ hr hok,fun hok h0=>?_⟩;obtain⟨F,ms,ws,hp⟩:=aeU hr hok;have mM:lX s1.tm wr:=fun t g b v e=>by
     rcases xR ops.toList t with hn|⟨k,o,hk1,hk2⟩
     ·rw[hp.rest t fun k o _ h=>hn k o h]at e;exact absurd e (h0 t g b v)
     ·have ns:=(cF.1 hk1).1;rw[hp.fin k o t ns hk1 hk2]at e;refine⟨(hp.nr t).2 ⟨k,o,ns,hk1,hk2⟩,?_⟩;obtain⟨dj,dY,fs⟩:=hp.slot k o ns hk1;simp only[aw]at e;have q1:=fs.slot;rw[e]at q1;have hg:g∈dY:=by
       unfold xx at q1;split at q1
       ·exact vA q1 g b v rfl
       ·split at q1
        ·exact vA q1 g b v rfl
        ·cases q1
      obtain⟨k',o',c1,c2,c3⟩:=fs.dY g hg;exact(hp.nr g).2 ⟨k',o',by omega,c2,c3⟩
    refine⟨dG.wipe mM,fun ρ S a w hn bH=>?_⟩;have rE:=bH.drawn (w.drawn+1);have hall:ops=ops.toList.toArray:=by simp
    have hmid:=kJ.start hp rE.heap rE.defers rE.slots h0;have ae6:=Step.pad (n:=s1.H.length) (n0:=n0) rE.heap hn;have key:=ae0 hD hc Ku hp (n0:=n0) hn (Q:=fun e' a' w'=>e'=Ex.normal.ox/\n0<=s1.H.length/\∃ρ' S',Sat cx ρ' S' a' w' ⟨jM s1.tm wr,s1.H,s1.ok⟩/\Step cx.D n0 ρ S st.H w ρ' S' s1.H w') ops.size (Array.replicate ops.toList.length false) _ _ S a {w with drawn:=w.drawn+1} hmid (by have:=Qm ops.toList.length;simpa using this) fun ρ' S' a' w' g1 g2 g3 g4=>by
     have g5:=ae6.trans g4;exact⟨rfl,lQ hn hp.len0,ρ',S',⟨g1,g2.wipe _ _,g3⟩,g5.drew⟩
    rw[<-hall]at key;simpa using key
   ·cases h
  ·cases h
theorem xW{cx:Cx K}(hD:bT cx.D)(hc:aY cx)(hm:cx.P.follows .mixedOrders=true){n0:Nat}{id:Nat}{ops:Array Oper}{draw:Bool}{st st':St K}(h:jf cx ops.toList draw st=some st'):
 (st'.ok=true->st.ok=true)/\(st'.ok=true->dG st.tm->dG st'.tm/\Tr cx n0 (.region id ops draw) st .normal st'):=by
 unfold jf at h;split at h
 ·rename_i hdr;subst hdr;rcases QQ h with h|⟨π,hp,h⟩
  ·obtain⟨h1,h2⟩:=QR (n0:=n0) hD hc h;refine⟨h1,fun hok h0=>⟨(h2 hok h0).1,fun ρ S a w hn bH=>wp_region_any hm ((h2 hok h0).2 ρ S a w hn bH)⟩⟩
  ·have hp':=QL hp;have e:ops.toList.toArray=ops:=by simp
   rw[e]at hp';have h':pQ cx ((permuted π ops.toList).toArray).toList st=some st':=h;obtain⟨h1,h2⟩:=QR (n0:=n0) hD hc h';refine⟨h1,fun hok h0=>⟨(h2 hok h0).1,fun ρ S a w hn bH=>wp_region_any hm ?_⟩⟩;have:=(h2 hok h0).2 ρ S a w hn bH;rw[hp'.len']at this;exact ae4 hp' _ _ _ _ _ ⟨by simp,by simp,fun j i hj=>by
    obtain⟨o,ho,ho'⟩:=hp'.ops j i hj;have hi:=(kz.1 ho).1;have hj':=(kz.1 ho').1;rw[hp'.len']at hj';rw[Du,Du,bf hi,bf hj']⟩ this
 ·rename_i hdr;split at h
  ·rename_i s1 wr hr;simp only[aw]at h;subst h;refine⟨fun hok=>JV _ _ _ _ _ hr hok,fun hok h0=>?_⟩;refine⟨dG.wipe (QP _ _ _ _ _ hr h0.in),fun ρ S a w hn bH=>?_⟩;have hdr':draw=false:=by simpa using hdr
   subst hdr';refine wp_region_list ?_;have key:=P9 (n0:=n0) hD hc ops.toList st s1 [] wr ρ S a w hr hok bH h0.in hn (Q:=fun e' a' w'=>e'=Ex.normal.ox/\n0<=s1.H.length/\∃ρ' S',Sat cx ρ' S' a' w' ⟨jM s1.tm wr,s1.H,s1.ok⟩/\Step cx.D n0 ρ S st.H w ρ' S' s1.H w') fun ρ' S' a' w' g1 g2 g3=>
    ⟨rfl,g3.grow bH.heap g1.heap hn,ρ',S',⟨g1.heap,g1.slots.wipe _ _,g1.defers⟩,g3⟩
   exact key
  ·cases h
theorem Kv:∀(wr:List Nat)(tm:List (AV K))(t:Nat),t∉wr->(jM tm wr)[t]?=tm[t]?
 |[],tm,t,h=>rfl
 |d::r,tm,t,h=>by
  simp only[fe,not_or]at h;simp only[jM];split
  ·rw[Kv r _ t h.2,List.getElem?_set_ne (pJ h.1)]
  ·exact Kv r tm t h.2
theorem Kw:∀(wr:List Nat)(tm:List (AV K)),(jM tm wr).length=tm.length
 |[],tm=>rfl
 |d::r,tm=>by
  simp only[jM];split
  ·rw[Kw r];simp
  ·exact Kw r tm
theorem ae7{q:Bool}{cx:Cx K}{ops:List Oper}{tm:List (AV K)}{wr:List Nat}{o:Oper}{v:AV K}{c:Bool}(hs:jr cx o.op=true)(h:jd q cx ops tm H wr o=some (v,H',c)):H'=H:=by
 unfold jd at h;split at h
 ·cases h
 ·split at h
  ·rename_i hy;split at h
   ·cases h
   ·simp only[aw,aP]at h;obtain⟨-,rfl,-⟩:=h;exact P7 hs hy
  ·cases h
 ·split at h
  ·split at h
   ·split at h
    ·split at h
     ·rename_i hy;split at h
      ·cases h
      ·simp only[aw,aP]at h;obtain⟨-,rfl,-⟩:=h;exact P7 hs hy
     ·cases h
    ·simp only[aw,aP]at h;exact h.2.1.symm
   ·cases h
  split at h
  ·cases h
  ·split at h
   ·split at h
    ·simp only[aw,aP]at h;exact h.2.1.symm
    ·cases h
   ·cases h
structure Quiet (st st':St K) (wr:List Nat):Prop where
 H:st'.H=st.H
 len:st'.tm.length=st.tm.length
 rest:∀t,t∉wr->st'.tm[t]?=st.tm[t]?
theorem QS{st st':St K}{wr wr' ds:List Nat}{dst:Option Nat}{v:AV K}{ok:Bool}(h:vh st wr dst v st.H ok=some (st',wr'))(hd:∀d,dst=some d->d∈ds)(hw:∀d∈wr,d∈ds):Quiet st st' ds/\∀d∈wr',d∈ds:=by
 obtain⟨p1,p2,p3⟩:=rB h;rcases p3 with⟨e1,e2,e3⟩|⟨d,e1,e2,e3,e4,e5⟩
 ·exact⟨⟨p1,by rw[e2],fun t _=>by rw[e2]⟩,by rw[e3];exact hw⟩
 ·refine⟨⟨p1,by rw[e4];simp,fun t ht=>?_⟩,fun d' hd'=>?_⟩
  ·rw[e4,List.getElem?_set_ne fun e=>ht (by rw[<-e];exact hd d e1)]
  ·rw[e5]at hd';rcases fe.1 hd' with rfl|h'
   ·exact hd _ e1
   ·exact hw _ h'
theorem Quiet.trans{st st1 st2:St K}{wr:List Nat}(a:Quiet st st1 wr)(b:Quiet st1 st2 wr):Quiet st st2 wr:=
 ⟨b.H.trans a.H,b.len.trans a.len,fun t ht=>(b.rest t ht).trans (a.rest t ht)⟩
theorem Quiet.more{st st1:St K}{wr wr':List Nat}(a:Quiet st st1 wr)(h:∀d∈wr,d∈wr'):Quiet st st1 wr':=⟨a.H,a.len,fun t ht=>a.rest t fun h'=>ht (h t h')⟩
theorem QT{cx:Cx K}{ops:List Oper}{ds:List Nat}:∀(l:List Oper)(st st':St K)(wr wr':List Nat),lW cx ops l st wr=some (st',wr')->(∀o∈l,jr cx o.op=true)->(∀o∈l,∀d,o.dst=some d->d∈ds)->(∀d∈wr,d∈ds)->Quiet st st' ds/\∀d∈wr',d∈ds
 |[],st,st',wr,wr',h,_,_,hw=>by simp only[lW,aw,aP]at h;obtain⟨rfl,rfl⟩:=h;exact⟨⟨rfl,rfl,fun _ _=>rfl⟩,hw⟩
 |o::r,st,st',wr,wr',h,hs,hd,hw=>by
  simp only[lW]at h;split at h
  ·rename_i st1 iT h1;unfold vi at h1;split at h1
   ·rename_i v H1 c hsv;have hH:=ae7 (hs o (by simp)) hsv;subst hH;obtain⟨q1,q2⟩:=QS h1 (fun d e=>hd o (by simp) d e) hw;obtain⟨q3,q4⟩:=QT r st1 st' iT wr' h (fun o ho=>hs o (by simp[ho])) (fun o ho=>hd o (by simp[ho])) q2;exact⟨q1.trans q3,q4⟩
   ·cases h1
  ·cases h
theorem QU{cx:Cx K}{L:List Oper}{bs ds:List Nat}:∀(l:List Oper)(i:Nat)(st st':St K)(wr wr':List Nat),nj cx L bs l i st wr=some (st',wr')->(∀o∈l,∀d,o.dst=some d->d∈ds)->(∀d∈wr,d∈ds)->Quiet st st' ds/\∀d∈wr',d∈ds
 |[],i,st,st',wr,wr',h,_,hw=>by simp only[nj,aw,aP]at h;obtain⟨rfl,rfl⟩:=h;exact⟨⟨rfl,rfl,fun _ _=>rfl⟩,hw⟩
 |o::r,i,st,st',wr,wr',h,hd,hw=>by
  simp only[nj]at h;split at h
  ·split at h
   ·rename_i st1 iT h1;obtain⟨q1,q2⟩:=QS h1 (fun d e=>hd o (by simp) d e) hw;obtain⟨q3,q4⟩:=QU r _ st1 st' iT wr' h (fun o ho=>hd o (by simp[ho])) q2;exact⟨q1.trans q3,q4⟩
   ·cases h
  ·cases h
theorem Quiet.wipe{st st1:St K}{wr ds:List Nat}(a:Quiet st st1 ds)(h:∀d∈wr,d∈ds):Quiet st ⟨jM st1.tm wr,st1.H,st1.ok⟩ ds:=
 ⟨a.H,by simp[Kw,a.len],fun t ht=>by dsimp only;rw[Kv wr _ t fun h'=>ht (h t h')];exact a.rest t ht⟩
theorem Ez{cx:Cx K}{ops:List Oper}{draw:Bool}{st:St K}{b:Bool}{s1 s2:St K}:∀(l:List Nat),Ac cx ops draw st l=some (b,s1,s2)->
 ∃t,jf {cx with gs:=[(t,true)]} ops draw st=some s1/\jf {cx with gs:=[(t,false)]} ops draw st=some s2
 |[],h=>by cases h
 |t::r,h=>by
  unfold Ac at h;split at h
  ·rename_i a1 a2 h1 h2;split at h
   ·simp only[aw,aP]at h;obtain⟨-,rfl,rfl⟩:=h;exact⟨t,h1,h2⟩
   ·exact Ez r h
  ·exact Ez r h
theorem Sat.gs{cx:Cx K}{g:List (Nat×Bool)}{a:Act}{st:St K}(h:Sat cx ρ S a w st):Sat {cx with gs:=g} ρ S a w st:=⟨h.heap,h.slots,h.defers⟩
theorem Sat.ae8{cx:Cx K}{g:List (Nat×Bool)}{a:Act}{st:St K}(h:Sat {cx with gs:=g} ρ S a w st):Sat cx ρ S a w st:=⟨h.heap,h.slots,h.defers⟩
theorem Tr.gs{cx:Cx K}{g:List (Nat×Bool)}{n0:Nat}{c:Code}{st st':St K}{e:Ex}(h:Tr {cx with gs:=g} n0 c st e st'):Tr cx n0 c st e st':=fun ρ S a w hn hs=>
 wp_mono (h ρ S a w hn hs.gs) fun e' a' w' ⟨h1,h2,ρ',S',h3,h4⟩=>⟨h1,h2,ρ',S',h3.ae8,h4⟩
def iC.All(Q:St K->Prop):iC K->Prop
 |.no=>True
 |.leaf s=>Q s
 |.node _ x y=>x.All Q/\y.All Q
 |.two x y=>Q x/\Q y
theorem iC.Kx{cx:Cx K}{Q:St K->Prop}(hor:∀{R:Type}(a b:Option R)(r:R),cx.zR a b=some r->a=some r\/b=some r):∀(T:iC K),T.All Q->∀{R:Type}{k:St K->Option R}{r:R},T.go cx k=some r->∃s,Q s/\k s=some r
 |.no,_,R,k,r,h=>by cases h
 |.leaf s,hq,R,k,r,h=>⟨s,hq,h⟩
 |.node b x y,hq,R,k,r,h=>by
   cases b with
   |true=>exact iC.Kx hor x hq.1 h
   |false=>exact iC.Kx hor y hq.2 h
 |.two x y,hq,R,k,r,h=>by
   rcases hor _ _ _ h with h|h
   ·exact⟨x,hq.1,h⟩
   ·exact⟨y,hq.2,h⟩
theorem Ky{cx:Cx K}{ops:List Oper}{draw:Bool}{st:St K}{Q:St K->Prop}(h0:∀gs s,jf {cx with gs:=gs} ops draw st=some s->Q s)
 (h1:∀x gs s,jf {cx with call:=cx.alt x,mode:=cx.qX x,gs:=gs} ops draw st=some s->Q s):∀(n:Nat)(gs:List (Nat×Bool))(T:iC K),Ad cx ops draw st n gs=some T->T.All Q
 |0,gs,T,h=>by cases h
 |n+1,gs,T,h=>by
  unfold Ad at h;split at h
  ·rename_i s hs;cases h;exact h0 gs s hs
  ·split at h
   ·rename_i s1 s2 e1 e2;cases h;exact⟨h1 true gs s1 e1,h1 false gs s2 e2⟩
   ·split at h
    ·split at h
     ·rename_i x y ex ey;cases h;exact⟨Ky h0 h1 n _ x ex,Ky h0 h1 n _ y ey⟩
     ·cases h
    ·split at h
     ·cases h;trivial
     ·cases h
theorem iC.EA{Q:St K->Prop}:∀(T:iC K),T.All Q->∀{R:Type}{k:St K->Option R}{r:R},T.DO k=some r->∃s,Q s/\k s=some r
 |.no,_,R,k,r,h=>by cases h
 |.leaf s,hq,R,k,r,h=>⟨s,hq,h⟩
 |.node b x y,hq,R,k,r,h=>by
   cases b with
   |true=>exact iC.EA x hq.1 h
   |false=>exact iC.EA y hq.2 h
 |.two x y,hq,R,k,r,h=>by cases h
theorem EB{cx:Cx K}{ops:List Oper}{draw:Bool}{st:St K}{Q:St K->Prop}(h0:∀gs s,jf {cx with gs:=gs} ops draw st=some s->Q s):
 ∀(n:Nat)(gs:List (Nat×Bool))(T:iC K),Ae cx ops draw st n gs=some T->T.All Q
 |0,gs,T,h=>by cases h
 |n+1,gs,T,h=>by
  unfold Ae at h;split at h
  ·rename_i s hs;cases h;exact h0 gs s hs
  ·split at h
   ·split at h
    ·rename_i x y ex ey;cases h;exact⟨EB h0 n _ x ex,EB h0 n _ y ey⟩
    ·cases h
   ·split at h
    ·cases h;trivial
    ·cases h
theorem Sat.call{cx:Cx K}{g:FuncId->List (AV K)->List (Ob K)->Option (AV K×List (Ob K)×Bool)}{m:FuncId->Mode}{a:Act}{st:St K}(h:Sat cx ρ S a w st):Sat {cx with call:=g,mode:=m} ρ S a w st:=⟨h.heap,h.slots,h.defers⟩
theorem Sat.ae9{cx:Cx K}{g:FuncId->List (AV K)->List (Ob K)->Option (AV K×List (Ob K)×Bool)}{m:FuncId->Mode}{a:Act}{st:St K}(h:Sat {cx with call:=g,mode:=m} ρ S a w st):Sat cx ρ S a w st:=⟨h.heap,h.slots,h.defers⟩
theorem Tr.call{cx:Cx K}{g:FuncId->List (AV K)->List (Ob K)->Option (AV K×List (Ob K)×Bool)}{m:FuncId->Mode}{n0:Nat}{c:Code}{st st':St K}{e:Ex}(h:Tr {cx with call:=g,mode:=m} n0 c st e st'):Tr cx n0 c st e st':=fun ρ S a w hn hs=>
 wp_mono (h ρ S a w hn hs.call) fun e' a' w' ⟨h1,h2,ρ',S',h3,h4⟩=>⟨h1,h2,ρ',S',h3.ae9,h4⟩
theorem Kz{cx:Cx K}{g:List (Nat×Bool)}:∀(o:Op),jr {cx with gs:=g} o=jr cx o:=fun o=>by
 unfold jr;rfl
theorem EC{cx:Cx K}{id:Nat}{ops:Array Oper}{draw:Bool}{st st':St K}(hs:∀o∈ops.toList,jr cx o.op=true)(hr:jf cx ops.toList draw st=some st'):Quiet st st' (writes (.region id ops draw)):=by
 have hd:∀o∈ops.toList,∀d,o.dst=some d->d∈writes (.region id ops draw):=fun o ho d hd=>by
  simp only[writes,List.mem_filterMap];exact⟨o,ho,hd⟩
 have dq:∀(L:List Oper),(∀o∈L,jr cx o.op=true)->(∀o∈L,∀d,o.dst=some d->d∈writes (.region id ops draw))->pQ cx L st=some st'->Quiet st st' (writes (.region id ops draw)):=fun L hs hd hr=>by
  unfold pQ at hr;split at hr
  ·split at hr
   ·rename_i s1 wr h1;simp only[aw]at hr;subst hr;obtain⟨q1,q2⟩:=QU _ _ _ _ _ _ h1 hd (by simp);exact q1.wipe q2
   ·cases hr
  ·rename_i hnq;split at hr
   ·rename_i Ku;exact absurd (by rw[bu];exact⟨fO.2 fun o ho=>ae5 (hs o ho),Ku⟩) hnq
   ·cases hr
 unfold jf at hr;split at hr
 ·rcases QQ hr with hr|⟨π,hp,hr⟩
  ·exact dq _ hs hd hr
  ·have hp':=QL hp;have src:∀o∈permuted π ops.toList,∃o1∈ops.toList,o=vj π ops.toList.length o1:=fun o ho=>by
    obtain⟨j,hj,e⟩:=qT ho;have hjn:j<π.length:=by simpa [permuted]using hj
    obtain⟨o1,h1,h2⟩:=hp'.ops j _ (cJ hjn);have h3:(permuted π ops.toList)[j]?=some o:=by rw[cJ hj,e]
    have h4:=h3.symm.trans (by simpa using h2);exact⟨o1,iO (by simpa using h1),by simpa using ie h4⟩
   refine dq _ (fun o ho=>?_) (fun o ho d hod=>?_) hr
   ·obtain⟨o1,h1,rfl⟩:=src o ho;exact hs o1 h1
   ·obtain⟨o1,h1,rfl⟩:=src o ho;exact hd o1 h1 d hod
 ·split at hr
  ·rename_i s1 wr h1;simp only[aw]at hr;subst hr;obtain⟨q1,q2⟩:=QT _ _ _ _ _ h1 hs hd (by simp);exact q1.wipe q2
  ·cases hr
theorem xX{cx:Cx K}:∀(c:Code),simple cx c=true->∀{R:Type}(st:St K)(k:Ex->St K->Option R)(r:R),fZ cx c st k=some r->∃st',k .normal st'=some r/\Quiet st st' (writes c)
 |.skip,_,R,st,k,r,h=>⟨st,h,rfl,rfl,fun _ _=>rfl⟩
 |.region id ops draw,hs,R,st,k,r,h=>by
   simp only[fZ]at h;have hs':∀o∈ops.toList,jr cx o.op=true:=by simpa only[simple,fO]using hs
   split at h
   ·rename_i st' hr;exact⟨st',h,EC hs' hr⟩
   ·split at h
    ·rename_i b s1 s2 hsp;obtain⟨t,h1,h2⟩:=Ez _ hsp;cases b with
     |true=>exact⟨s1,h,EC (cx:={cx with gs:=[(t,true)]}) (fun o ho=>by rw[Kz];exact hs' o ho) h1⟩
     |false=>exact⟨s2,h,EC (cx:={cx with gs:=[(t,false)]}) (fun o ho=>by rw[Kz];exact hs' o ho) h2⟩
    ·rw[bf (fO.2 hs')]at h;split at h
     ·rename_i T hT;obtain⟨s,hq,hk⟩:=iC.EA _ (EB (Q:=fun s'=>Quiet st s' (writes (.region id ops draw))) (fun gs s' hr=>EC (cx:={cx with gs:=gs}) (fun o ho=>by rw[Kz];exact hs' o ho) hr) 4 [] T hT) h;exact⟨s,hk,hq⟩
     ·cases h
 |.seq a b,hs,R,st,k,r,h=>by
   simp only[simple,bu]at hs;simp only[fZ]at h;obtain⟨s1,h1,q1⟩:=xX a hs.1 st _ r h;obtain⟨s2,h2,q2⟩:=xX b hs.2 s1 k r h1;exact⟨s2,h2,(q1.more fun d hd=>by simp[writes,hd]).trans (q2.more fun d hd=>by simp[writes,hd])⟩
 |.cond c a b,hs,R,st,k,r,h=>by
   have hs':=hs;simp only[simple,bu]at hs;simp only[fZ]at h;split at h
   ·rename_i t ht;rw[bf (by simp[hs.1,hs.2])]at h;split at h
    ·rename_i sa sb ha hb;refine⟨_,h,?_⟩;obtain⟨s1,g1,q1⟩:=xX a hs.1 st _ sa ha;obtain⟨s2,g2,q2⟩:=xX b hs.2 st _ sb hb;simp only[xz,aw]at g1 g2;subst g1;subst g2;have hlen:∀(wr:List Nat)(l s t':List (AV K))(n:Nat),s.length=l.length->t'.length=l.length->(jN t wr n l s t').length=l.length:=fun wr l=>by
      induction l with
      |nil=>intro s t' n h1 h2;simp at h1 h2;subst h1;subst h2;rfl
      |cons x l ih=>
       intro s t' n h1 h2;cases s with
       |nil=>simp at h1
       |cons y s=>
        cases t' with
        |nil=>simp at h2
        |cons z t'=>
         simp only[jN,aE];rw[ih s t' (n+1) (by simpa using h1) (by simpa using h2)]
     have hget:∀(wr:List Nat)(l s t':List (AV K))(n i:Nat),s.length=l.length->t'.length=l.length->n+i∉wr->(jN t wr n l s t')[i]?=l[i]?:=fun wr l=>by
      induction l with
      |nil=>intro s t' n i h1 h2 _;simp at h1 h2;subst h1;subst h2;rfl
      |cons x l ih=>
       intro s t' n i h1 h2 hni;cases s with
       |nil=>simp at h1
       |cons y s=>
        cases t' with
        |nil=>simp at h2
        |cons z t'=>
         simp only[jN];cases i with
         |zero=>simp only[Nat.add_zero]at hni;simp[hni]
         |succ i=>
          simp only[List.getElem?_cons_succ];exact ih s t' (n+1) i (by simpa using h1) (by simpa using h2) (by rw[kE,xi 1 i];exact hni)
     refine⟨rfl,hlen _ _ _ _ _ q1.len q2.len,fun i hi=>?_⟩;exact hget _ _ _ _ 0 i q1.len q2.len (by rw[dz];simpa [writes]using hi)
    ·cases h
   ·cases h
 |.block ..,hs,R,st,k,r,h=>by simp[simple]at hs
 |.loop ..,hs,R,st,k,r,h=>by simp[simple]at hs
 |.exit ..,hs,R,st,k,r,h=>by simp[simple]at hs
 |.ret,hs,R,st,k,r,h=>by simp[simple]at hs
 |.scope ..,hs,R,st,k,r,h=>by simp[simple]at hs
 |.rangeFunc ..,hs,R,st,k,r,h=>by simp[simple]at hs
 |.goto ..,hs,R,st,k,r,h=>by simp[simple]at hs
 |.label ..,hs,R,st,k,r,h=>by simp[simple]at hs
end Go.V
namespace Go.V
open Go
variable {K :di}{ρ ρ':List Value}{S S':Nat->Prop}{w w':World}{H H':List (Ob K)}
def bP(cx:Cx K)(c:Code)(L:bM K):Prop:=
 ∀(vals:List (AV K))(Hi:List (Ob K))(R:Type)(k:Ex->List (AV K)->List (Ob K)->Option R)(r:R),L.run vals Hi k=some r->
  ∃e vs Ho,k e vs Ho=some r/\Tr cx Hi.length (.loop c) ⟨eH (List.replicate L.n .any) L.ins vals,Hi,true⟩ e ⟨eH (List.replicate L.n .any) L.outs vs,Ho,true⟩
def iD(cx:Cx K):Code->Prop
 |.loop c=>∀L,cx.loop (keyOf c)=some L->bP cx c L
 |.seq a b=>iD cx a/\iD cx b
 |.cond _ a b=>iD cx a/\iD cx b
 |.block _ c=>iD cx c
 |_=>True
theorem afa:∀(b:Bool)(x y:AV K),(merge b x y).jH=false:=by
 intro b x y;cases x<;>cases y<;>simp only[merge]<;>(try split)<;>rfl
theorem KA{t:Bool}{wr:List Nat}:∀(l s s':List (AV K))(n i:Nat)(v:AV K),(jN t wr n l s s')[i]?=some v->
 (n+i∉wr/\l[i]?=some v)\/∃x y,s[i]?=some x/\s'[i]?=some y/\v=merge t x y
 |[],s,s',n,i,v,h=>by simp[jN]at h
 |x::l,[],s',n,i,v,h=>by simp[jN]at h
 |x::l,y::s,[],n,i,v,h=>by simp[jN]at h
 |x::l,y::s,z::s',n,0,v,h=>by
  simp only[jN,List.getElem?_cons_zero,aw]at h;subst h;by_cases hc:n∈wr
  ·exact .inr ⟨y,z,rfl,rfl,by simp[hc]⟩
  ·exact .inl ⟨hc,by simp[hc]⟩
 |x::l,y::s,z::s',n,i+1,v,h=>by
  simp only[jN,List.getElem?_cons_succ]at h;rcases KA l s s' (n+1) i v h with⟨h1,h2⟩|⟨a,b,h1,h2,h3⟩
  ·exact .inl ⟨by rw[xi i 1,<-kE];exact h1,by simpa using h2⟩
  ·exact .inr ⟨a,b,by simpa using h1,by simpa using h2,h3⟩
theorem QV{t:Bool}{wr:List Nat}:∀(l s s':List (AV K))(n:Nat),s.length=l.length->s'.length=l.length->(jN t wr n l s s').length=l.length
 |[],s,s',n,h1,h2=>by cases s<;>cases s'<;>simp[jN]
 |x::l,[],s',n,h1,h2=>by simp at h1
 |x::l,y::s,[],n,h1,h2=>by simp at h2
 |x::l,y::s,z::s',n,h1,h2=>by
  simp only[jN,aE];rw[QV l s s' (n+1) (by simpa using h1) (by simpa using h2)]
theorem fq.rep{D:bC K}{tm:List (AV K)}{tmps:Array Value}(h:fq D ρ S w tm tmps)(h0:dG tm){t:Nat}{v:AV K}{x:Value}(hv:tm[t]?=some v)(hx:tmps[t]?=some x):Rep D ρ S w v x:=by
 have:=h.ok t v x hv hx;cases v with
 |opt g b y=>exact absurd hv (h0 t g b y)
 |_=>exact this
theorem afb{D:bC K}{t:Bool}{wr:List Nat}{l sa sb:List (AV K)}{tmps:Array Value}(hab:dG (cond t sa sb))(la:sa.length=l.length)(lb:sb.length=l.length)(ra:∀t,t∉wr->sa[t]?=l[t]?)(rb:∀t,t∉wr->sb[t]?=l[t]?)
 (h:fq D ρ S w (cond t sa sb) tmps):fq D ρ S w (jN t wr 0 l sa sb) tmps:=by
 refine⟨by rw[QV _ _ _ _ la lb,<-h.len];cases t<;>simp[la,lb],fun i v x hv hx=>?_⟩;rcases KA l sa sb 0 i v hv with⟨h1,h2⟩|⟨a,b,h1,h2,rfl⟩
 ·rw[dz]at h1;refine .kH ?_;cases t
  ·exact h.rep hab (by rw[al,rb i h1];exact h2) hx
  ·exact h.rep hab (by rw[ad,ra i h1];exact h2) hx
 ·refine .kH (PL (fun e=>?_) fun e=>?_)
  ·subst e;exact h.rep hab h1 hx
  ·subst e;exact h.rep hab h2 hx
theorem afc{t:Bool}{wr:List Nat}{l sa sb:List (AV K)}(h0:dG l):dG (jN t wr 0 l sa sb):=fun i g b v e=>by
 rcases KA l sa sb 0 i _ e with⟨-,h2⟩|⟨x,y,-,-,h3⟩
 ·exact h0 i g b v h2
 ·have:=afa t x y;rw[<-h3]at this;simp[AV.jH]at this
theorem vE:∀(ds:List Nat)(vs tm:List (AV K)),(eH tm ds vs).length=tm.length
 |[],vs,tm=>by simp[eH]
 |d::r,[],tm=>by simp[eH]
 |d::r,v::vs,tm=>by simp only[eH];rw[vE r vs];simp
theorem xY:∀(ds:List Nat)(vs tm:List (AV K))(t:Nat)(v:AV K),(eH tm ds vs)[t]?=some v->tm[t]?=some v\/∃i:Nat,ds[i]?=some t/\vs[i]?=some v
 |[],vs,tm,t,v,h=>.inl (by simpa [eH]using h)
 |d::r,[],tm,t,v,h=>.inl (by simpa [eH]using h)
 |d::r,x::vs,tm,t,v,h=>by
  simp only[eH]at h;rcases xY r vs _ t v h with h1|⟨i,h1,h2⟩
  ·rcases fD h1 with⟨rfl,rfl,-⟩|⟨-,h1⟩
   ·exact .inr ⟨0,rfl,rfl⟩
   ·exact .inl h1
  ·exact .inr ⟨i+1,by simpa using h1,by simpa using h2⟩
theorem QW{p:AV K->AV K->Prop}:∀(ds:List Nat)(vs vs' tm tm':List (AV K)),vs.length=vs'.length->tm.length=tm'.length->(∀(i:Nat) v v',vs[i]?=some v->vs'[i]?=some v'->p v v')->(∀(t:Nat) v v',tm[t]?=some v->tm'[t]?=some v'->p v v')->
 ∀(t:Nat) v v',(eH tm ds vs)[t]?=some v->(eH tm' ds vs')[t]?=some v'->p v v'
 |[],vs,vs',tm,tm',h1,h2,h3,h4,t,v,v',g1,g2=>h4 t v v' (by simpa [eH]using g1) (by simpa [eH]using g2)
 |d::r,[],[],tm,tm',h1,h2,h3,h4,t,v,v',g1,g2=>h4 t v v' (by simpa [eH]using g1) (by simpa [eH]using g2)
 |d::r,[],_::_,tm,tm',h1,h2,h3,h4,t,v,v',g1,g2=>by simp at h1
 |d::r,_::_,[],tm,tm',h1,h2,h3,h4,t,v,v',g1,g2=>by simp at h1
 |d::r,x::vs,x'::vs',tm,tm',h1,h2,h3,h4,t,v,v',g1,g2=>by
  simp only[eH]at g1 g2;refine QW r vs vs' _ _ (by simpa using h1) (by simpa using h2) (fun i a b ha hb=>h3 (i+1) a b (by simpa using ha) (by simpa using hb)) (fun k a b ha hb=>?_) t v v' g1 g2;rcases fD ha with⟨rfl,rfl,-⟩|⟨hne,ha⟩
  ·rcases fD hb with⟨-,rfl,-⟩|⟨hne,-⟩
   ·exact h3 0 _ _ rfl rfl
   ·exact absurd rfl hne
  ·rcases fD hb with⟨rfl,-⟩|⟨-,hb⟩
   ·exact absurd rfl hne
   ·exact h4 k a b ha hb
theorem vF{f:Nat->Option Nat}:∀(l l':List (AV K)),jK f l=some l'->l'.length=l.length/\∀(i:Nat) v',l'[i]?=some v'->∃v,l[i]?=some v/\fJ f v=some v'
 |[],l',h=>by simp[jK]at h;subst h;simp
 |x::l,l',h=>by
  simp only[jK]at h;split at h
  ·rename_i y m h1 h2;simp only[aw]at h;subst h;obtain⟨g1,g2⟩:=vF l m h2;refine⟨by simp[g1],fun i v' hi=>?_⟩;cases i with
   |zero=>simp at hi;subst hi;exact⟨x,rfl,h1⟩
   |succ i=>simp at hi;obtain⟨v,q1,q2⟩:=g2 i v' hi;exact⟨v,by simpa using q1,q2⟩
  ·cases h
theorem afd{f:Nat->Option Nat}{v v':AV K}(h:fJ f v=some v'):v'.jH=false:=by
 cases v<;>simp only[fJ,fA,aw]at h<;>first
  |(subst h;rfl)
  |(obtain⟨a,-,rfl⟩:=h;rfl)
  |cases h
theorem QX{n:Nat}{ds:List Nat}{l l':List (AV K)}{f:Nat->Option Nat}(h:jK f l=some l'):dG (eH (List.replicate n .any) ds l'):=fun t g b v e=>by
 rcases xY ds l' _ t _ e with h1|⟨i,-,h2⟩
 ·rw[mF]at h1;split at h1<;>cases h1
 ·obtain⟨v0,-,q⟩:=(vF l l' h).2 i _ h2;have:=afd q;simp[AV.jH]at this
theorem KB{D:bC K}{n:Nat}{ds:List Nat}{vs:List (AV K)}{tmps:Array Value}(hn:tmps.size=n)(h:∀(i t:Nat) v x,ds[i]?=some t->vs[i]?=some v->tmps[t]?=some x->Rep D ρ S w v x):fq D ρ S w (eH (List.replicate n .any) ds vs) tmps:=
 ⟨by rw[vE];simp[hn],fun t v x hv hx=>.kH (by
   rcases xY ds vs _ t v hv with h1|⟨i,h1,h2⟩
   ·rw[mF]at h1;split at h1
    ·simp at h1;subst h1;exact .any x
    ·cases h1
   ·exact h i t v x h1 h2 hx)⟩
theorem QY{cx:Cx K}(hD:bT cx.D){c:Code}{L:bM K}{n0:Nat}{st st':St K}{m:List Nat}{vals vs:List (AV K)}{Hi Ho:List (Ob K)}{e:Ex}(hn:st.tm.length=L.n)(h0:dG st.tm)
 (hin:inLoop st.H (L.ins.map fun t=>st.tm.getD t .any)=some (m,vals,Hi)) (hout:DL L m st vs Ho=some st')
 (htr:Tr cx Hi.length (.loop c) ⟨eH (List.replicate L.n .any) L.ins vals,Hi,true⟩ e ⟨eH (List.replicate L.n .any) L.outs vs,Ho,true⟩):dG st'.tm/\Tr cx n0 (.loop c) st e st':=by
 unfold inLoop at hin;split at hin
 ·rename_i hp;split at hin
  ·rename_i lu Hi' hv hH;simp only[aw,aP]at hin;obtain⟨rfl,rfl,rfl⟩:=hin;unfold DL at hout;split at hout
   ·rename_i vs' iz hvs JC;split at hout
    ·rename_i hle;simp only[aw]at hout;subst hout;refine⟨QX hvs,fun ρ S a w hn0 bH=>?_⟩;obtain⟨s1,s2,s3,s4⟩:=PO hD bH.heap hp hH;have hrs:=Jz (ρ:=ρ) (m:=reach st.H 64 (cz (L.ins.map fun t=>st.tm.getD t .any)) []) (fun i h hi=>by rw[bH.heap.len];exact(Ap _ hp).1 i h hi);have hsize:a.tmps.size=L.n:=by rw[<-hn,bH.slots.len]
     have fK:Sat cx (tu ρ (reach st.H 64 (cz (L.ins.map fun t=>st.tm.getD t .any)) [])) S a w ⟨eH (List.replicate L.n .any) L.ins lu,Hi',true⟩:=⟨s1,KB hsize fun i t v x g1 g2 g3=>by
      obtain⟨v0,q1,q2⟩:=(vF _ _ hv).2 i v g2;simp only[jG,g1,iP,aw]at q1;subst q1;refine tp hD s4 _ v x q2 ?_;rw[gp];cases hg:st.tm[t]? with
      |none=>exact .any x
      |some v1=>exact bH.slots.rep h0 hg g3,bH.defers⟩
     refine wp_mono (htr _ S a w (cq _) fK) fun e' a' w'=>?_
     rintro ⟨he,aff,ρo,So,hso,hst⟩
     obtain⟨j1,j2,j3⟩:=join hD bH.heap hp hrs s2 s3 s1 hso.heap hst aff JC;refine⟨he,?_,_,So,⟨j1,?_,hso.defers⟩,j2.weaken hn0⟩
     ·have:=j2.grow bH.heap j1 (cq _);dsimp only at this⊢;omega
     ·refine⟨by rw[vE];have:=hso.slots.len;rw[vE]at this;exact this,fun t v x hv' hx=>?_⟩;have hlt:t<(eH (List.replicate L.n .any) L.outs vs).length:=by
       have:=(cF.1 hv').1;rw[vE]at this⊢;exact this
      have hg:=cJ hlt;have hrep:eV cx.D ρo So w' a'.tmps _ x:=hso.slots.ok t _ x hg hx;have hrel:=QW (p:=fun v v'=>v'=.any\/fJ (fun h=>(ik (reach st.H 64 (cz (L.ins.map fun t=>st.tm.getD t .any)) []) st.H.length Ho.length)[h]?) v=some v') L.outs vs vs' (List.replicate L.n .any) (List.replicate L.n .any)
       (vF _ _ hvs).1.symm rfl (fun i v v' h1 h2=>by
         obtain⟨v0,q1,q2⟩:=(vF _ _ hvs).2 i v' h2;rw[h1]at q1;simp at q1;subst q1;exact .inr q2) (fun t v v' h1 h2=>by
         rw[mF]at h2;split at h2
         ·simp at h2;exact .inl h2.symm
         ·cases h2) t _ v hg hv'
      rcases hrel with rfl|hrel
      ·exact .kH (.any x)
      ·refine .kH (tp hD j3 _ v x hrel ?_);generalize (eH (List.replicate L.n .any) L.outs vs)[t]=y at hrep hrel;cases y with
       |opt=>simp[fJ]at hrel
       |_=>exact hrep
    ·cases hout
   ·cases hout
  ·cases hin
 ·cases hin
theorem pW{cx:Cx K}(hD:bT cx.D)(hc:aY cx)(hm:cx.P.follows .mixedOrders=true):∀(c:Code),iD cx c->∀{R:Type}(st:St K)(k:Ex->St K->Option R)(r:R),fZ cx c st k=some r->
 ∃e st',k e st'=some r/\(st'.ok=true->st.ok=true)/\(st'.ok=true->dG st.tm->dG st'.tm/\∀n0,Tr cx n0 c st e st')
 |.skip,_,R,st,k,r,h=>⟨.normal,st,h,id,fun _ h0=>⟨h0,fun n0 ρ S a w hn bH=>wp_skip ⟨rfl,hn,ρ,S,bH,Step.refl⟩⟩⟩
 |.exit id,_,R,st,k,r,h=>⟨.exit id,st,h,fun h=>h,fun _ h0=>⟨h0,fun n0 ρ S a w hn bH=>wp_exit ⟨rfl,hn,ρ,S,bH,Step.refl⟩⟩⟩
 |.ret,_,R,st,k,r,h=>⟨.ret,st,h,fun h=>h,fun _ h0=>⟨h0,fun n0 ρ S a w hn bH=>wp_ret ⟨rfl,hn,ρ,S,bH,Step.refl⟩⟩⟩
 |.region id ops draw,_,R,st,k,r,h=>by
   simp only[fZ]at h;split at h
   ·rename_i st' hr;have:=fun n0=>xW (id:=id) (n0:=n0) hD hc hm hr
    exact⟨.normal,st',h,(this 0).1,fun hok h0=>⟨((this 0).2 hok h0).1,fun n0=>((this n0).2 hok h0).2⟩⟩
   ·split at h
    ·rename_i b s1 s2 hsp;obtain⟨t,h1,h2⟩:=Ez _ hsp;have key:∀(x:Bool)(s':St K),jf {cx with gs:=[(t,x)]} ops.toList draw st=some s'->k .normal s'=some r->
      ∃e st',k e st'=some r/\(st'.ok=true->st.ok=true)/\(st'.ok=true->dG st.tm->dG st'.tm/\∀n0,Tr cx n0 (.region id ops draw) st e st'):=fun x s' hr hk=>by
      have:=fun n0=>xW (cx:={cx with gs:=[(t,x)]}) (id:=id) (n0:=n0) hD hc hm hr
      exact⟨.normal,s',hk,(this 0).1,fun hok h0=>⟨((this 0).2 hok h0).1,fun n0=>(((this n0).2 hok h0).2).gs⟩⟩
     cases b with
     |true=>exact key true s1 h1 h
     |false=>exact key false s2 h2 h
    ·split at h
     ·split at h
      ·rename_i T hT;obtain⟨s,⟨hq1,hq2⟩,hk⟩:=iC.EA (Q:=fun s'=>(s'.ok=true->st.ok=true)/\(s'.ok=true->dG st.tm->dG s'.tm/\∀n0,Tr cx n0 (.region id ops draw) st .normal s')) _ (EB (fun gs s' hr=>by
        have:=fun n0=>xW (cx:={cx with gs:=gs}) (id:=id) (n0:=n0) hD hc hm hr
        exact⟨(this 0).1,fun hok h0=>⟨((this 0).2 hok h0).1,fun n0=>(((this n0).2 hok h0).2).gs⟩⟩) 4 [] T hT) h
       exact⟨.normal,s,hk,hq1,hq2⟩
      ·cases h
     ·split at h
      ·rename_i s1 s2 h1 h2;have key:∀(x:Bool)(s':St K),jf {cx with call:=cx.alt x,mode:=cx.qX x} ops.toList draw st=some s'->k .normal s'=some r->
        ∃e st',k e st'=some r/\(st'.ok=true->st.ok=true)/\(st'.ok=true->dG st.tm->dG st'.tm/\∀n0,Tr cx n0 (.region id ops draw) st e st'):=fun x s' hr hk=>by
        have:=fun n0=>xW (cx:={cx with call:=cx.alt x,mode:=cx.qX x}) (id:=id) (n0:=n0) hD ⟨hc.2.1 x,hc.2⟩ hm hr
        exact⟨.normal,s',hk,(this 0).1,fun hok h0=>⟨((this 0).2 hok h0).1,fun n0=>(((this n0).2 hok h0).2).call⟩⟩
       rcases hc.2.2 _ _ _ _ h with h|h
       ·exact key true s1 h1 h
       ·exact key false s2 h2 h
      ·split at h
       ·rename_i T hT;obtain⟨s,⟨hq1,hq2⟩,hk⟩:=iC.Kx (cx:=cx) (Q:=fun s'=>(s'.ok=true->st.ok=true)/\(s'.ok=true->dG st.tm->dG s'.tm/\∀n0,Tr cx n0 (.region id ops draw) st .normal s')) (fun a b r h=>hc.2.2 _ _ _ _ h) _ (Ky (fun gs s' hr=>by
         have:=fun n0=>xW (cx:={cx with gs:=gs}) (id:=id) (n0:=n0) hD hc hm hr
         exact⟨(this 0).1,fun hok h0=>⟨((this 0).2 hok h0).1,fun n0=>(((this n0).2 hok h0).2).gs⟩⟩) (fun x gs s' hr=>by
         have:=fun n0=>xW (cx:={cx with call:=cx.alt x,mode:=cx.qX x,gs:=gs}) (id:=id) (n0:=n0) hD ⟨hc.2.1 x,hc.2⟩ hm hr
         exact⟨(this 0).1,fun hok h0=>⟨((this 0).2 hok h0).1,fun n0=>Tr.call (Tr.gs (cx:={cx with call:=cx.alt x,mode:=cx.qX x}) (((this n0).2 hok h0).2))⟩⟩) 4 [] T hT) h
        exact⟨.normal,s,hk,hq1,hq2⟩
       ·cases h
 |.seq a b,hl,R,st,k,r,h=>by
   simp only[fZ]at h;obtain⟨e1,s1,h1,ok1,t1⟩:=pW hD hc hm a hl.1 st _ r h;cases e1 with
   |normal=>
    obtain⟨e2,s2,h2,ok2,t2⟩:=pW hD hc hm b hl.2 s1 k r h1;refine⟨e2,s2,h2,fun hk=>ok1 (ok2 hk),fun hk h0=>?_⟩;obtain⟨n1,q1⟩:=t1 (ok2 hk) h0;obtain⟨n2,q2⟩:=t2 hk n1;refine⟨n2,fun n0 ρ S a' w hn bH=>wp_seq (wp_mono (q1 n0 ρ S a' w hn bH) ?_)⟩
    rintro e a2 w2 ⟨rfl,hn1,ρ1,S1,fK,hst1⟩
    refine wp_mono (q2 n0 ρ1 S1 a2 w2 hn1 fK) ?_
    rintro e a3 w3 ⟨rfl,hn2,ρ2,S2,AI,hst2⟩
    exact⟨rfl,hn2,ρ2,S2,AI,hst1.trans hst2⟩
   |exit id=>
    refine⟨.exit id,s1,h1,ok1,fun hk h0=>⟨(t1 hk h0).1,fun n0 ρ S a' w hn bH=>wp_seq (wp_mono ((t1 hk h0).2 n0 ρ S a' w hn bH) ?_)⟩⟩
    rintro e a2 w2 ⟨rfl,q⟩
    exact⟨rfl,q⟩
   |ret=>
    refine⟨.ret,s1,h1,ok1,fun hk h0=>⟨(t1 hk h0).1,fun n0 ρ S a' w hn bH=>wp_seq (wp_mono ((t1 hk h0).2 n0 ρ S a' w hn bH) ?_)⟩⟩
    rintro e a2 w2 ⟨rfl,q⟩
    exact⟨rfl,q⟩
 |.cond c a b,hl,R,st,k,r,h=>by
   simp only[fZ]at h;split at h
   ·rename_i t ht;have hev:∀{ρ S a' w},Sat cx ρ S a' w st->a'.eval c=.bool t:=fun{ρ S a' w} bH=>by
     have:=Ed bH.slots (gs:=[]) (fun p hp=>by simp at hp) c;rw[ht]at this;generalize a'.eval c=y at this;cases this;rfl
    split at h
    ·rename_i hs;simp only[bu]at hs;split at h
     ·rename_i sa sb ha hb;obtain⟨s1,g1,q1⟩:=xX a hs.1 st _ sa ha;obtain⟨s2,g2,q2⟩:=xX b hs.2 st _ sb hb;simp only[xz,aw]at g1 g2;subst g1;subst g2;obtain⟨e1,s1',c1,ok1,t1⟩:=pW hD hc hm a hl.1 st _ s1 ha;obtain⟨e2,s2',c2,ok2,t2⟩:=pW hD hc hm b hl.2 st _ s2 hb;cases e1<;>simp only[xz,aw]at c1<;>try cases c1
      cases e2<;>simp only[xz,aw]at c2<;>try cases c2
      have hks:∀{x y:Bool},((x|| !t)&&(y||t))=true->(t=true->x=true)/\(t=false->y=true):=fun{x y} hk=>by
       cases t<;>simpa using hk
      refine⟨.normal,_,h,fun hk=>?_,fun hk h0=>⟨afc h0,fun n0 ρ S a' w hn bH=>wp_cond (hev bH) ?_⟩⟩
      ·cases ht':t
       ·exact ok2 ((hks hk).2 ht')
       ·exact ok1 ((hks hk).1 ht')
      ·have fin:∀e' a' w',(e'=Ex.normal.ox/\n0<=(cond t s1 s2).H.length/\∃ρ' S',Sat cx ρ' S' a' w' (cond t s1 s2)/\Step cx.D n0 ρ S st.H w ρ' S' (cond t s1 s2).H w')->dG (cond t s1.tm s2.tm)->
        (e'=Ex.normal.ox/\n0<=st.H.length/\∃ρ' S',Sat cx ρ' S' a' w' ⟨jN t (writes a++writes b) 0 st.tm s1.tm s2.tm,st.H,(s1.ok|| !t)&&(s2.ok||t)⟩/\Step cx.D n0 ρ S st.H w ρ' S' st.H w'):=by
        rintro e' a2 w2 ⟨he,hn1,ρ1,S1,fK,hst1⟩ hno
        have hH:(cond t s1 s2).H=st.H:=by cases t;exact q2.H;exact q1.H
        rw[hH]at hn1 hst1;refine⟨he,hn1,ρ1,S1,⟨by have:=fK.heap;rw[hH]at this;exact this,?_,fK.defers⟩,hst1⟩;exact afb hno q1.len q2.len (fun i hi=>q1.rest i fun h'=>hi (by simp[h'])) (fun i hi=>q2.rest i fun h'=>hi (by simp[h'])) (by have:=fK.slots;cases t<;>exact this)
       cases ht':t<;>rw[ht']at fin
       ·obtain⟨n2,r2⟩:=t2 ((hks hk).2 ht') h0;exact wp_mono (r2 n0 ρ S a' w hn bH) fun e' a2 w2 q=>fin e' a2 w2 q n2
       ·obtain⟨n1,r1⟩:=t1 ((hks hk).1 ht') h0;exact wp_mono (r1 n0 ρ S a' w hn bH) fun e' a2 w2 q=>fin e' a2 w2 q n1
     ·cases h
    ·cases t
     ·obtain⟨e,s,h1,ok1,t1⟩:=pW hD hc hm b hl.2 st k r h;exact⟨e,s,h1,ok1,fun hk h0=>⟨(t1 hk h0).1,fun n0 ρ S a' w hn bH=>wp_cond (hev bH) ((t1 hk h0).2 n0 ρ S a' w hn bH)⟩⟩
     ·obtain⟨e,s,h1,ok1,t1⟩:=pW hD hc hm a hl.1 st k r h;exact⟨e,s,h1,ok1,fun hk h0=>⟨(t1 hk h0).1,fun n0 ρ S a' w hn bH=>wp_cond (hev bH) ((t1 hk h0).2 n0 ρ S a' w hn bH)⟩⟩
   ·cases h
 |.block id c,hl,R,st,k,r,h=>by
   simp only[fZ]at h;obtain⟨e1,s1,h1,ok1,t1⟩:=pW hD hc hm c hl st _ r h;cases e1 with
   |normal=>
    refine⟨.normal,s1,h1,ok1,fun hk h0=>⟨(t1 hk h0).1,fun n0 ρ S a' w hn bH=>wp_block (wp_mono ((t1 hk h0).2 n0 ρ S a' w hn bH) ?_)⟩⟩
    rintro e a2 w2 ⟨rfl,q⟩
    exact⟨rfl,q⟩
   |ret=>
    refine⟨.ret,s1,h1,ok1,fun hk h0=>⟨(t1 hk h0).1,fun n0 ρ S a' w hn bH=>wp_block (wp_mono ((t1 hk h0).2 n0 ρ S a' w hn bH) ?_)⟩⟩
    rintro e a2 w2 ⟨rfl,q⟩
    exact⟨rfl,q⟩
   |exit i=>
    dsimp only at h1;split at h1
    ·rename_i hid;refine⟨.normal,s1,h1,ok1,fun hk h0=>⟨(t1 hk h0).1,fun n0 ρ S a' w hn bH=>wp_block (wp_mono ((t1 hk h0).2 n0 ρ S a' w hn bH) ?_)⟩⟩
     rintro e a2 w2 ⟨rfl,q⟩
     subst hid;show(if i=i then _ else _)
     rw[bf rfl];exact⟨rfl,q⟩
    ·rename_i hid;refine⟨.exit i,s1,h1,ok1,fun hk h0=>⟨(t1 hk h0).1,fun n0 ρ S a' w hn bH=>wp_block (wp_mono ((t1 hk h0).2 n0 ρ S a' w hn bH) ?_)⟩⟩
     rintro e a2 w2 ⟨rfl,q⟩
     show(if i=id then _ else _)
     rw[bg hid];exact⟨rfl,q⟩
 |.loop c,hl,R,st,k,r,h=>by
   simp only[fZ]at h;split at h
   ·rename_i L hL;split at h
    ·rename_i hn;split at h
     ·rename_i m vals Hi hin;obtain⟨e,vs,Ho,h1,htr⟩:=hl L hL vals Hi R _ r h;split at h1
      ·rename_i st' hout;refine⟨e,st',h1,?_,fun hk h0=>?_⟩
       ·unfold DL at hout;split at hout
        ·split at hout
         ·simp only[aw]at hout;subst hout;exact id
         ·cases hout
        ·cases hout
       ·exact⟨(QY (n0:=0) hD hn h0 hin hout htr).1,fun n0=>(QY (n0:=n0) hD hn h0 hin hout htr).2⟩
      ·cases h1
     ·cases h
    ·cases h
   ·cases h
 |.scope ..,_,R,st,k,r,h=>by simp[fZ]at h
 |.rangeFunc ..,_,R,st,k,r,h=>by simp[fZ]at h
 |.goto ..,_,R,st,k,r,h=>by simp[fZ]at h
 |.label ..,_,R,st,k,r,h=>by simp[fZ]at h
 |.refuse ..,_,R,st,k,r,h=>by simp[fZ]at h
end Go.V
