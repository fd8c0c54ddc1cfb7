/-
  ONE OPERATION IN ITS FRAME; A REGION IN THE ORDER OF THE TEXT.
-/
import Derived.Test.YtnkkcmdomlkdmaaGreatDoorXWgB
set_option linter.unusedVariables false
namespace Go.V
open Go
variable {K :dc}{ρ ρ':List Value}{S S':Nat->Prop}{w w':World}{H H':List (Ob K)}
theorem Sl{D:bL K}{P:Program}{o:Oper}{a:Act}{v:AV K}(h:Does D P ρ S H w (execOp a.eval o) v H'){k:Act->World->Prop}{Q:Exit->Act->World->Prop}
 (hk:∀u ρ' S' w',aU D ρ' S' w' H'->Rep D ρ' S' w' v u->Step D H.length ρ S H w ρ' S' H' w'->k (a.put o.dst u) w'):o.wp P a w k Q:=by
 obtain⟨n,u,w',ρ',h1,h2,h3,h4,h5⟩:=h;unfold Oper.wp;rw[h1];rcases h2 with rfl|⟨rfl,rfl⟩
 ·exact hk u ρ' S w' h3 h4 h5
 ·exact hk _ ρ' S w' h3 h4 h5
theorem Sm{q:Bool}{cx:Cx K}(hD:bT cx.D)(hc:aI cx)(hs:aU cx.D ρ S w H){a:Act}{tm:List (AV K)}(hsl:fg cx.D ρ S w tm a.tmps){gs:List (Nat×Bool)}(hg:∀p∈gs,a.tmps[p.1]?=some (.bool p.2)){o:Oper}{v:AV K}{c:Bool}{t:List Nat}
 (h:lS q cx tm gs H o.type o.op=some (v,H',c,t)) (hc1:c=true) {k:Act->World->Prop} {Q:Exit->Act->World->Prop}
 (hk:∀u ρ' S' w',aU cx.D ρ' S' w' H'->Rep cx.D ρ' S' w' v u->Step cx.D H.length ρ S H w ρ' S' H' w'->k (a.put o.dst u) w'):o.wp cx.P a w k Q:=by
 have hev:=M8 hsl hg;unfold lS at h;split at h
 ·
  rename_i cnd x y hop;have key:∀(b:Bool)(gx gy:List (Nat×Bool)),a.eval cnd=.bool b->(b=true->∀p∈gx,a.tmps[p.1]?=some (.bool p.2))->(b=false->∀p∈gy,a.tmps[p.1]?=some (.bool p.2))->v=merge b (dM tm gx x) (dM tm gy y)->H'=H->o.wp cx.P a w k Q:=by
   intro b gx gy hb h1 h2 hv hH;subst hH;unfold Oper.wp execOp;rw[hop];dsimp only;have:(do pure (.value (if<-asBool (a.eval cnd)then a.eval x else a.eval y)):Sem Next).run cx.P w=.ok (.value (if b then a.eval x else a.eval y)) w:=by rw[hb];simp[asBool]
   rw[this];refine hk _ ρ S w hs ?_ Step.refl;rw[hv];refine amB (fun e=>?_) (fun e=>?_)
   ·subst e;exact M8 hsl (h1 rfl) x
   ·subst e;exact M8 hsl (h2 rfl) y
  split at h
  ·rename_i tt b hcv;have hb:=hev (.tmp tt);rw[hcv]at hb;have hb':=kV hb;split at h
   ·rename_i b0 _;simp only[aD,cw]at h;obtain⟨hv,hH,hcc,-⟩:=h;rw[hc1]at hcc;have hbb:b=b0:=by simpa using hcc
    subst hbb;subst hH;unfold Oper.wp execOp;rw[hop];dsimp only;have:(do pure (.value (if<-asBool (a.eval (.tmp tt))then a.eval x else a.eval y)):Sem Next).run cx.P w=.ok (.value (if b then a.eval x else a.eval y)) w:=by rw[hb'];simp[asBool]
    rw[this];refine hk _ ρ S w hs ?_ Step.refl;rw[<-hv];cases b
    ·exact hev y
    ·exact hev x
   simp only[aD,cw]at h;obtain⟨hv,hH,-,-⟩:=h;have hget:a.tmps[tt]?=some (.bool b):=by
    simp only[Act.eval,jc]at hb';cases hh:a.tmps[tt]? with
    |none=>rw[hh]at hb';simp[undef]at hb'
    |some z=>rw[hh]at hb';simp at hb';rw[hb']
   exact key b _ _ hb' (fun e p hp=>by subst e;rcases gz.1 hp with rfl|hp;exact hget;exact hg p hp) (fun e p hp=>by subst e;rcases gz.1 hp with rfl|hp;exact hget;exact hg p hp) hv.symm hH.symm
  ·rename_i cv b hcv;simp only[aD,cw]at h;obtain⟨hv,hH,-,-⟩:=h;have hb:=hev (.const cv);rw[hcv]at hb;exact key b _ _ (kV hb) (fun _=>hg) (fun _=>hg) hv.symm hH.symm
  ·cases h
 ·
  rename_i f args ats hop;have hf:=hev f;split at h
  ·rename_i g caps hfv;have hcall:=h;rw[hc1]at hcall
   ·skip
    rw[hfv]at hf;generalize hF:a.eval f=F at hf;cases hf with
    |fn hl hr=>
     rename_i cs;have hargs:=(amd (fun x=>qz hs _ _ (hev x)) args.toList).append (⟨hl,hr⟩:bB cx.D ρ S w caps cs);obtain⟨⟨fn,hfn,hname,hbody⟩,mq⟩:=aEN hD hc hs hcall hargs;unfold Oper.wp execOp;rw[hop];dsimp only;have hrun:(do let d<-resolve a.eval {callee:=.value f,args:=args,argTypes:=ats} o.type;invoke d.target d.args:Sem Next).run cx.P w=.ok (.enter g (args.toList.map a.eval++cs).toArray) w:=by
      simp only[resolve,hF,Deferred.ofValue,Sem.run_bind,Sem.run_pure,Result.andThen_ok,invoke,callFunc,run_program];rw[hfn];simp only[hname,hbody,eS,gU,Sem.run_pure];congr 2;apply Array.ext';simp
     rw[hrun,Oper.upon_enter];refine mq.mono ?_
     rintro e w' ⟨u,ρ',S',rfl,h1,h2,h3⟩
     exact hk u ρ' S' w' h1 h2 h3
  ·cases h
 ·
  rename_i x hop;have hrun:∀(v':AV K),Rep cx.D ρ S w v' (a.eval x)->v=v'->H'=H->o.wp cx.P a w k Q:=fun v' h1 h2 h3=>by
   subst h2;subst h3;unfold Oper.wp execOp;rw[hop];exact hk _ ρ S w hs h1 Step.refl
  split at h
  ·rename_i hq;split at h
   ·split at h
    ·rename_i c _;simp only[aD,cw]at h;obtain⟨rfl,rfl,rfl,rfl⟩:=h;simp only[bD]at hq;have hx:x=.const (.slice none 0 0):=by
      have:=hq.2;unfold Q3 at this;split at this
      ·rfl
      ·cases this
     obtain⟨n1,n2⟩:=alW hs c (cx.deep c);unfold Oper.wp execOp;rw[hop,hx];exact hk _ _ S w n1 (.sl (by rw[eA (by rw[hs.len];exact eL _)];simp[hs.len])) n2
    ·simp only[aD,cw]at h;exact hrun _ (hev x) h.1.symm h.2.1.symm
   ·simp only[aD,cw]at h;exact hrun _ (hev x) h.1.symm h.2.1.symm
  ·simp only[aD,cw]at h;exact hrun _ (qz hs _ _ (hev x)) h.1.symm h.2.1.symm
 ·split at h
  ·rename_i v1 c1 hp;simp only[aD,cw]at h;obtain⟨rfl,rfl,rfl,rfl⟩:=h;obtain⟨u,hu,hr⟩:=ame hD hs (fun x=>qz hs _ _ (hev x)) hp hc1;unfold Oper.wp;rw[hu];exact hk u ρ S w hs hr Step.refl
  ·split at h
   ·obtain⟨rfl,u,w1,S1,g1,g2,g3,g4⟩:=aEu hD hs (fun x=>qz hs _ _ (hev x)) h hc1;unfold Oper.wp;rw[g1];exact hk u ρ S1 w1 g2 g3 g4
   ·split at h
    ·cases h
    split at h
    ·rename_i hov;simp only[aD]at h;rw[h]at hov;exact Sl (aEM hD hs hev hov) fun u ρ' S' w' a1 a2 a3=>hk u ρ' S' w' a1 a2 a3
    split at h
    ·rename_i hct;simp only[aD]at h;rw[h]at hct;exact Sl (aEt hs hev hct hc1) fun u ρ' S' w' a1 a2 a3=>hk u ρ' S' w' a1 a2 a3
    ·obtain⟨S1,H1,g1,g2,g3⟩:=aEL hD hs hev h hc1;refine Sl g3 fun u ρ' S' w' a1 a2 a3=>hk u ρ' S' w' a1 a2 ?_
     rw[g2]at a3;exact g1.trans a3
theorem Sr{cx:Cx K}{f:FuncId}{args:List (AV K)}{v:AV K}{c:Bool}{t:List Nat}(hcall:lR cx .plain H f args=some (v,H',c,t)):H'=H:=by
 unfold lR at hcall;dsimp only at hcall;split at hcall
 ·split at hcall
  ·split at hcall
   ·simp only[aD,cw]at hcall;exact hcall.2.1.symm
   ·cases hcall
  ·cases hcall
 ·cases hcall
theorem aEO{cx:Cx K}{ev:Operand->AV K}{op:Op}{v:AV K}{c:Bool}{t:List Nat}(h:FZ cx ev H op=some (v,H',c,t)):H'=H:=by
 unfold FZ at h;split at h
 ·split at h
  ·cases h
  ·split at h
   ·split at h
    ·split at h
     ·simp only[aD,cw]at h;exact h.2.1.symm
     ·cases h
    ·cases h
   ·cases h
 ·cases h
theorem AP{cx:Cx K}{tm:List (AV K)}{gs:List (Nat×Bool)}{T:TypeId}{op:Op}{v:AV K}{c:Bool}{t:List Nat}(h:lS true cx tm gs H T op=some (v,H',c,t)):H'=H:=by
 unfold lS at h;split at h
 ·split at h
  ·split at h
   ·simp only[aD,cw]at h;exact h.2.1.symm
   ·simp only[aD,cw]at h;exact h.2.1.symm
  ·simp only[aD,cw]at h;exact h.2.1.symm
  ·cases h
 ·split at h
  ·unfold As at h;simp only[eH,Bool.and_false,eS,gU]at h;unfold rH at h;split at h
   ·exact Sr h
   ·split at h
    ·rename_i r hr;simp only[aD]at h;subst h;exact Sr hr
    ·simp at h
   all_goals simp at h
  ·cases h
 ·simp only[eH,Ai,eS,gU,aD,cw]at h;exact h.2.1.symm
 ·split at h
  ·simp only[aD,cw]at h;exact h.2.1.symm
  ·simp only[fJ]at h;exact aEO h
theorem amW{q:Bool}{cx:Cx K}{tm:List (AV K)}{gs:List (Nat×Bool)}{T:TypeId}{op:Op}{v:AV K}{c:Bool}{t:List Nat}(hs:jo cx op=true)(h:lS q cx tm gs H T op=some (v,H',c,t)):H'=H:=by
 cases q with
 |true=>exact AP h
 |false=>
 unfold lS at h;split at h
 ·split at h
  ·split at h
   ·simp only[aD,cw]at h;exact h.2.1.symm
   ·simp only[aD,cw]at h;exact h.2.1.symm
  ·simp only[aD,cw]at h;exact h.2.1.symm
  ·cases h
 ·rename_i f args ats;cases f<;>simp only[jo]at hs<;>try (cases hs;done)
  rename_i g;simp only[dM]at h;have hm:cx.mode g=.plain/\(cx.opn=false\/cx.lz=true):=by simpa using hs
  unfold As at h;have Ss:(cx.opn&& !cx.lz&& !false)=false:=by rcases hm.2 with e|e<;>simp[e]
  rw[Ss]at h;simp only[eS,gU]at h
  replace hm:=hm.1
  unfold rH at h;rw[hm]at h;exact Sr h
 ·simp only[jo,fj]at hs;rw[hs]at h;simp only[Bool.and_false,eS,gU,aD,cw]at h;exact h.2.1.symm
 ·split at h
  ·simp only[aD,cw]at h;exact h.2.1.symm
  ·rw[hs]at h;simp at h
end Go.V
namespace Go.V
open Go
variable {K :dc}{ρ ρ':List Value}{S S':Nat->Prop}{w w':World}{H H':List (Ob K)}
theorem Nk{ops:List Oper}{o:Oper}{tmps:Array Value}{g:Nat}{wt:Bool}(h:guardOf ops o=some (some (g,wt))):
 Region.wanted o (yielded ops.toArray tmps)=true↔tmps[g]?=some (.bool wt):=by
 unfold guardOf at h;split at h
 ·cases h
 ·rename_i j w1 hgd;split at h
  ·rename_i og hog;split at h
   ·rename_i t ht;simp only[aD,cw]at h;obtain⟨rfl,rfl⟩:=h;have aEP:ops.toArray[j]?=some og:=by simpa using hog
    simp only[Region.wanted,hgd,yielded,aEP,Option.bind_some,ht];cases hv:tmps[t]? with
    |none=>simp
    |some z=>cases z<;>simp
   ·cases h
  ·cases h
theorem aEQ{ops:List Oper}{o:Oper}{y:Nat->Option Bool}(h:guardOf ops o=some none):Region.wanted o y=true:=by
 unfold guardOf at h;split at h
 ·rename_i hg;simp[Region.wanted,hg]
 ·split at h
  ·split at h<;>cases h
  ·cases h
theorem Su{q:Bool}{cx:Cx K}(hD:bT cx.D)(hc:aI cx)(hs:aU cx.D ρ S w H){a:Act}{tm:List (AV K)}(hsl:fg cx.D ρ S w tm a.tmps){ops:List Oper}{wr:List Nat}{o:Oper}{v:AV K}{c:Bool}
 (h:iY q cx ops tm H wr o=some (v,H',c)) (hc1:c=true) {k:Act->World->Prop} {Q:Exit->Act->World->Prop}
 (hk:∀u ρ' S' w',aU cx.D ρ' S' w' H'->eK cx.D ρ' S' w' a.tmps v u->Step cx.D H.length ρ S H w ρ' S' H' w'->k (a.put o.dst u) w'):
 if Region.wanted o (yielded ops.toArray a.tmps)then o.wp cx.P a w k Q else k (a.put o.dst undef) w:=by
 unfold iY at h;split at h
 ·cases h
 ·rename_i hgd;rw[cz (aEQ hgd)];split at h
  ·rename_i v1 H1 c1 t1 hy;split at h
   ·cases h
   simp only[aD,cw]at h;obtain⟨rfl,rfl,rfl⟩:=h;exact Sm hD hc hs hsl (gs:=[]) (fun p hp=>by simp at hp) hy hc1 fun u ρ' S' w' h1 h2 h3=>hk u ρ' S' w' h1 (.kD h2) h3
  ·cases h
 ·rename_i g wt hgd;split at h
  ·rename_i b0 hkn;split at h
   ·rename_i b htm;have hval:a.tmps[g]?=some (.bool b):=by
     have hlt:g<a.tmps.size:=by rw[<-hsl.len];exact(bc.1 htm).1
     have hx:=Ah hlt;have:=hsl.ok g _ _ htm hx;rw[hx,kV this]
    split at h
    ·rename_i hbw;split at h
     ·rename_i v1 H1 c1 t1 hy;split at h
      ·cases h
      simp only[aD,cw]at h;obtain⟨rfl,rfl,rfl⟩:=h;simp only[bD,hU]at hc1;obtain⟨hc1,rfl⟩:=hc1;rw[cz ((Nk hgd).2 (by rw[hval,hbw]))];exact Sm hD hc hs hsl (gs:=[]) (fun p hp=>by simp at hp) hy hc1 fun u ρ' S' w' h1 h2 h3=>hk u ρ' S' w' h1 (.kD h2) h3
     ·cases h
    ·rename_i hbw;simp only[aD,cw]at h;obtain⟨rfl,rfl,rfl⟩:=h;have hbb:b=b0:=by simpa using hc1
     rw[aw (fun hh=>hbw (by have:=(Nk hgd).1 hh;rw[hval]at this;simp at this;rw[<-hbb];exact this))];exact hk undef ρ S w hs (.kD (.any _)) Step.refl
   ·cases h
  split at h
  ·cases h
  ·rename_i b hb;split at h
   ·rename_i hsm;simp only[bD]at hsm;split at h
    ·rename_i v1 H1 c1 t1 hy;simp only[aD,cw]at h;obtain⟨rfl,rfl,rfl⟩:=h;have hbt:=amv hsl 6 g wt b hb;by_cases hw:a.tmps[g]?=some (.bool wt)
     ·rw[cz ((Nk hgd).2 hw)];have hb1:b=true:=hbt.2 hw;subst hb1;have hc1':c1=true:=by simpa using hc1
      have hH:H1=H:=AP hy;subst hH;exact Sm hD hc hs hsl (gs:=[(g,wt)]) (fun p hp=>by simp at hp;subst hp;exact hw) hy hc1' fun u ρ' S' w' h1 h2 h3=>hk u ρ' S' w' h1 (.inl ⟨hw,h2⟩) h3
     ·rw[aw (fun hh=>hw ((Nk hgd).1 hh))];exact hk undef ρ S w hs (.inr ⟨hw,rfl⟩) Step.refl
    ·cases h
   ·cases h
theorem yk{q:Bool}{cx:Cx K}{ops:List Oper}{tm:List (AV K)}{wr:List Nat}{o:Oper}{v:AV K}{c:Bool}(h:iY q cx ops tm H wr o=some (v,H',c)):∀g wt v1,v=.opt g wt v1->g∈wr:=by
 intro g' wt' v' e;unfold iY at h;split at h
 ·cases h
 ·split at h
  ·split at h
   ·cases h
   ·rename_i hno;simp only[aD,cw]at h;obtain⟨rfl,rfl,rfl⟩:=h;subst e;simp[AV.jF]at hno
  ·cases h
 ·rename_i g wt hgd;split at h
  ·split at h
   ·split at h
    ·split at h
     ·split at h
      ·cases h
      ·rename_i hno;simp only[aD,cw]at h;obtain⟨rfl,rfl,rfl⟩:=h;subst e;simp[AV.jF]at hno
     ·cases h
    ·simp only[aD,cw]at h;obtain⟨rfl,-,-⟩:=h;cases e
   ·cases h
  split at h
  ·cases h
  ·split at h
   ·rename_i hsm;simp only[bD]at hsm;split at h
    ·simp only[aD,cw]at h;obtain⟨rfl,rfl,rfl⟩:=h;simp only[AV.opt.injEq]at e;obtain⟨rfl,rfl,rfl⟩:=e;simpa using hsm.2
    ·cases h
   ·cases h
def lU(tm:List (AV K))(wr:List Nat):Prop:=∀(t g:Nat) b v,tm[t]?=some (.opt g b v)->t∈wr/\g∈wr
structure Sat (cx:Cx K) (ρ:List Value) (S:Nat->Prop) (a:Act) (w:World) (st:St K):Prop where
 heap:aU cx.D ρ S w st.H
 slots:fg cx.D ρ S w st.tm a.tmps
 defers:a.defers=[]
theorem eK.put{D:bL K}{tmps:Array Value}{d:Nat}{u:Value}{v:AV K}{x:Value}(h:eK D ρ S w tmps v x)(hv:∀g b y,v=.opt g b y->g≠d):eK D ρ S w (tmps.setIfInBounds d u) v x:=by
 cases v<;>first|exact h|skip
 rename_i g b y;have hg:=hv g b y rfl;simp only[eK,mj,aw (By hg)]at h⊢;exact h
theorem fg.put{D:bL K}{tm:List (AV K)}{tmps:Array Value}{wr:List Nat}(h:fg D ρ S w tm tmps)(ho:lU tm wr){d:Nat}(hd:d∉wr){v:AV K}{u:Value}(hv:eK D ρ S w tmps v u)(AQ:∀g b y,v=.opt g b y->g∈wr):
 fg D ρ S w (tm.set d v) (tmps.setIfInBounds d u):=by
 refine⟨by simp[h.len],fun t v' x hv' hx=>?_⟩;rw[mj]at hx;rcases fy hv' with⟨rfl,rfl,hl⟩|⟨hne,hv'⟩
 ·rw[cz rfl]at hx;split at hx
  ·simp at hx;subst hx;exact hv.put fun g b y e=>fun he=>hd (he ▸ AQ g b y e)
  ·cases hx
 ·rw[aw (By hne)]at hx;exact(h.ok t v' x hv' hx).put fun g b y e=>fun he=>hd (he ▸ (ho t g b y (by rw[<-e];exact hv')).2)
theorem lU.put{tm:List (AV K)}{wr:List Nat}(ho:lU tm wr){d:Nat}{v:AV K}(AQ:∀g b y,v=.opt g b y->g∈wr):lU (tm.set d v) (d::wr):=fun t g b y h=>by
 rcases fy h with⟨rfl,rfl,-⟩|⟨-,h⟩
 ·exact⟨by simp,mX _ (AQ g b y rfl)⟩
 ·exact⟨mX _ (ho t g b y h).1,mX _ (ho t g b y h).2⟩
theorem Step.grow{D:bL K}{n:Nat}(hs:aU D ρ S w H)(hs':aU D ρ' S' w' H')(st:Step D n ρ S H w ρ' S' H' w')(hn:n<=H.length):n<=H'.length:=by
 rcases lK n with h|h
 ·omega
 ·have h1:=st.pre (n-1) (by omega);rw[bG (show n-1<ρ.length by rw[hs.len];omega)]at h1;have:=(bc.1 h1).1;rw[hs'.len]at this;omega
theorem Step.Sv{D:bL K}(hs:aU D ρ S w H)(st:Step D H.length ρ S H w ρ' S' H' w'):∀(h:Nat) r,ρ[h]?=some r->ρ'[h]?=some r:=fun h r hr=>by
 rw[st.pre h (by rw[<-hs.len];exact(bc.1 hr).1)];exact hr
theorem rU{st:St K}{wr:List Nat}{dst:Option Nat}{v:AV K}{ok:Bool}{st':St K}{wr':List Nat}(h:xY st wr dst v H ok=some (st',wr')):
 st'.H=H/\st'.ok=ok/\((dst=none/\st'.tm=st.tm/\wr'=wr)\/∃d,dst=some d/\d∉wr/\d<st.tm.length/\st'.tm=st.tm.set d v/\wr'=d::wr):=by
 unfold xY at h;split at h
 ·simp only[aD,cw]at h;obtain⟨rfl,rfl⟩:=h;exact⟨rfl,rfl,.inl ⟨rfl,rfl,rfl⟩⟩
 ·rename_i d;split at h
  ·cases h
  ·rename_i hc;simp only[gq,bw,not_or,mi]at hc;simp only[aD,cw]at h;obtain⟨rfl,rfl⟩:=h;exact⟨rfl,rfl,.inr ⟨d,rfl,hc.1,by omega,rfl,rfl⟩⟩
theorem Sat.put{cx:Cx K}{a:Act}{st st':St K}{wr wr':List Nat}{o:Oper}{v:AV K}{ok:Bool}{u:Value}{n0:Nat}(bN:Sat cx ρ S a w st)(ho:lU st.tm wr)(hp:xY st wr o.dst v H' ok=some (st',wr'))
 (AQ:∀g b y,v=.opt g b y->g∈wr) (hs':aU cx.D ρ' S' w' H') (hv:eK cx.D ρ' S' w' a.tmps v u) (hst:Step cx.D st.H.length ρ S st.H w ρ' S' H' w'):
 Sat cx ρ' S' (a.put o.dst u) w' st'/\lU st'.tm wr':=by
 obtain⟨h1,h2,h3⟩:=rU hp;have hsl:=bN.slots.mono hst.s1 (hst.Ge bN.heap) (hst.Sv bN.heap);rcases h3 with⟨e1,e2,e3⟩|⟨d,e1,e2,e3,e4,e5⟩
 ·rw[e1];exact⟨⟨by rw[h1];exact hs',by rw[e2];exact hsl,bN.defers⟩,by rw[e2,e3];exact ho⟩
 ·rw[e1];exact⟨⟨by rw[h1];exact hs',by rw[e4];exact hsl.put ho e2 hv AQ,bN.defers⟩,by rw[e4,e5];exact ho.put AQ⟩
theorem aER{cx:Cx K}{ops:List Oper}{st st':St K}{wr wr':List Nat}{o:Oper}(h:xZ cx ops st wr o=some (st',wr'))(hok:st'.ok=true):st.ok=true:=by
 unfold xZ at h;split at h
 ·obtain⟨-,h2,-⟩:=rU h;rw[h2]at hok;simp only[bD]at hok;exact hok.2
 ·cases h
theorem Sz{cx:Cx K}{ops:List Oper}:∀(l:List Oper)(st st':St K)(wr wr':List Nat),lT cx ops l st wr=some (st',wr')->st'.ok=true->st.ok=true
 |[],st,st',wr,wr',h,hok=>by simp only[lT,aD,cw]at h;rw[h.1];exact hok
 |o::r,st,st',wr,wr',h,hok=>by
  simp only[lT]at h;split at h
  ·rename_i st1 iM h1;exact aER h1 (Sz r st1 st' iM wr' h hok)
  ·cases h
theorem amY{cx:Cx K}(hD:bT cx.D)(hc:aI cx){ops:List Oper}{n0:Nat}{Q:Exit->Act->World->Prop}:∀(l:List Oper)(st st':St K)(wr wr':List Nat)(ρ:List Value)(S:Nat->Prop)(a:Act)(w:World),
 lT cx ops l st wr=some (st',wr')->st'.ok=true->Sat cx ρ S a w st->lU st.tm wr->n0<=st.H.length->
 (∀ρ' S' a' w',Sat cx ρ' S' a' w' st'->lU st'.tm wr'->Step cx.D n0 ρ S st.H w ρ' S' st'.H w'->Q .normal a' w')->wpList cx.P ops.toArray Q l a w
 |[],st,st',wr,wr',ρ,S,a,w,h,hok,bN,ho,hn,hq=>by
   simp only[lT,aD,cw]at h;obtain⟨rfl,rfl⟩:=h;exact hq ρ S a w bN ho Step.refl
 |o::r,st,st',wr,wr',ρ,S,a,w,h,hok,bN,ho,hn,hq=>by
  simp only[lT]at h;split at h
  ·rename_i st1 iM h1;have hok1:=Sz r st1 st' iM wr' h hok;have h1':=h1;unfold xZ at h1';split at h1'
   ·rename_i v H1 c hsv;obtain⟨p1,p2,p3⟩:=rU h1';rw[p2]at hok1;simp only[bD]at hok1;refine wpList_step fun k hk=>Su hD hc bN.heap bN.slots hsv hok1.1 fun u ρ1 S1 w1 q1 q2 q3=>hk _ _ ?_
    obtain⟨s1,s2⟩:=bN.put (n0:=n0) ho h1' (yk hsv) q1 q2 q3;have hg:=q3.grow bN.heap q1 (eL _);refine amY (n0:=n0) hD hc r st1 st' iM wr' ρ1 S1 _ w1 h hok s1 s2 (by rw[p1];omega) fun ρ' S' a' w' g1 g2 g3=>hq ρ' S' a' w' g1 g2 ?_
    rw[p1]at g3;exact(q3.weaken hn).trans g3
   ·cases h1'
  ·cases h
def dz(tm:List (AV K)):Prop:=∀(t g:Nat) b v,tm[t]?≠some (.opt g b v)
theorem dz.in{tm:List (AV K)}(h:dz tm):lU tm []:=fun t g b v e=>absurd e (h t g b v)
theorem fg.wipe{D:bL K}{tmps:Array Value}:∀(wr:List Nat)(tm:List (AV K)),fg D ρ S w tm tmps->fg D ρ S w (jI tm wr) tmps
 |[],tm,h=>h
 |d::r,tm,h=>by
  simp only[jI];split
  ·refine fg.wipe r _ ⟨by simp[h.len],fun t v x hv hx=>?_⟩;rcases fy hv with⟨rfl,rfl,-⟩|⟨-,hv⟩
   ·exact .kD (.any x)
   ·exact h.ok t v x hv hx
  ·exact fg.wipe r tm h
theorem SA:∀(wr:List Nat)(tm:List (AV K))(t:Nat)(v:AV K),(jI tm wr)[t]?=some v->v.jF=true->t∉wr/\tm[t]?=some v
 |[],tm,t,v,h,hv=>⟨by simp,h⟩
 |d::r,tm,t,v,h,hv=>by
  simp only[jI]at h;split at h
  ·obtain⟨h1,h2⟩:=SA r _ t v h hv;rcases fy h2 with⟨rfl,rfl,-⟩|⟨hne,h2⟩
   ·simp[AV.jF]at hv
   ·exact⟨by simp[hne,h1],h2⟩
  ·rename_i hno;obtain⟨h1,h2⟩:=SA r _ t v h hv;refine⟨?_,h2⟩;simp only[gz,not_or];refine⟨fun e=>?_,h1⟩;subst e;cases v<;>simp[AV.jF]at hv;exact hno _ _ _ h2
theorem dz.wipe{tm:List (AV K)}{wr:List Nat}(h:lU tm wr):dz (jI tm wr):=fun t g b v e=>by
 obtain⟨h1,h2⟩:=SA wr tm t _ e rfl;exact h1 (h t g b v h2).1
end Go.V
namespace Go.V
open Go
variable {K :dc}{ρ ρ':List Value}{S S':Nat->Prop}{w w':World}{H H':List (Ob K)}
def amZ(L:List Oper)(t:Nat):Prop:=∀(k:Nat) o,L[k]?=some o->o.dst≠some t
theorem SB{bits:Nat}:∀(L:List Oper)(i:Nat)(tm:List (AV K))(t:Nat)(v:AV K),(eJ bits L i tm)[t]?=some v->v≠.any->
 tm[t]?=some v/\∀(k:Nat) o,L[k]?=some o->o.dst=some t->bits.testBit (i+k)=true
 |[],i,tm,t,v,h,_=>⟨h,fun k o ho=>by simp at ho⟩
 |o::r,i,tm,t,v,h,hv=>by
  simp only[eJ]at h;obtain⟨h1,h2⟩:=SB r (i+1) _ t v h hv;have hrest:∀(k:Nat) o',(o::r)[k]?=some o'->o'.dst=some t->k≠0->bits.testBit (i+k)=true:=fun k o' ho' hd hk=>by
   obtain⟨k',rfl⟩:=Nat.exists_eq_succ_of_ne_zero hk;have:=h2 k' o' (by simpa using ho') hd;rw[show i+(k'+1)=i+1+k' by omega];exact this
  split at h1
  ·rename_i d hd;split at h1
   ·rename_i hb;refine⟨h1,fun k o' ho' hd'=>?_⟩;by_cases hk:k=0
    ·subst hk;simpa using hb
    ·exact hrest k o' ho' hd' hk
   ·rename_i hb;rcases fy h1 with⟨rfl,rfl,-⟩|⟨hne,h1⟩
    ·exact absurd rfl hv
    ·refine⟨h1,fun k o' ho' hd'=>?_⟩;by_cases hk:k=0
     ·subst hk;simp at ho';subst ho';rw[hd]at hd';simp at hd';exact absurd hd'.symm hne
     ·exact hrest k o' ho' hd' hk
  ·rename_i hd;refine⟨h1,fun k o' ho' hd'=>?_⟩;by_cases hk:k=0
   ·subst hk;simp at ho';subst ho';rw[hd]at hd';cases hd'
   ·exact hrest k o' ho' hd' hk
theorem SC{bits:Nat}:∀(L:List Oper)(i:Nat)(tm:List (AV K)),(eJ bits L i tm).length=tm.length
 |[],i,tm=>rfl
 |o::r,i,tm=>by
  simp only[eJ];rw[SC r];split
  ·split<;>simp
  ·rfl
theorem am0{i:Nat}:∀(bs:List Nat)(k0 k:Nat),(F3 i k0 bs).testBit k=true->∃j:Nat,k=k0+j/\((bs[j]?).getD 0).testBit i=true
 |[],k0,k,h=>by simp[F3]at h
 |b::r,k0,k,h=>by
  simp only[F3,Ab,gq]at h;rcases h with h|h
  ·cases hb:b.testBit i with
   |false=>rw[hb]at h;simp at h
   |true=>
    rw[hb]at h;simp only[cr,Nat.testBit_two_pow,bw]at h;exact⟨0,by omega,by simpa using hb⟩
  ·obtain⟨j,h1,h2⟩:=am0 r (k0+1) k h;exact⟨j+1,by omega,by simpa using h2⟩
theorem am1{bs:List Nat}{i k:Nat}(h:(ajF bs i).testBit k=true):(bs.getD i 0).testBit k=true\/(bs.getD k 0).testBit i=true:=by
 simp only[ajF,Ab,gq]at h;rcases h with h|h
 ·exact .inl h
 ·obtain⟨j,h1,h2⟩:=am0 _ _ _ h;rw[gV]at h1;subst h1;right;rw[aH];exact h2
theorem SD:∀(L:List Oper)(acc:List Nat)(i:Nat),i<acc.length->(iK L acc).getD i 0=acc.getD i 0
 |[],acc,i,_=>rfl
 |o::r,acc,i,h=>by
  simp only[iK];rw[SD r _ i (by simp;omega)];simp only[aH];rw[dL h]
theorem am2{acc:List Nat}{k:Nat}:∀(es:List Edge)(s:Nat),(es.foldl (fun s e=>s|||2^e.on|||acc.getD e.on 0) s).testBit k=true->s.testBit k=true\/∃e∈es,k=e.on\/(acc.getD e.on 0).testBit k=true
 |[],s,h=>.inl h
 |e::r,s,h=>by
  rcases am2 r _ h with h|⟨e',he',h⟩
  ·simp only[Ab,gq]at h;rcases h with(h|h)|h
   ·exact .inl h
   ·rw[Nat.testBit_two_pow]at h;exact .inr ⟨e,by simp,.inl (by simpa using h.symm:e.on=k).symm⟩
   ·exact .inr ⟨e,by simp,.inr h⟩
  ·exact .inr ⟨e',by simp[he'],h⟩
theorem am3:∀(L:List Oper)(acc:List Nat)(j:Nat)(o:Oper),L[j]?=some o->kC L acc.length=true->
 ∀k,((iK L acc).getD (acc.length+j) 0).testBit k=true->∃e∈o.after,k=e.on\/((iK L acc).getD e.on 0).testBit k=true
 |[],acc,j,o,h,_,k,_=>by simp at h
 |x::r,acc,0,o,h,he,k,hk=>by
  simp at h;subst h;simp only[iK]at hk⊢;rw[SD r _ _ (by simp)]at hk;simp only[aH,Nat.add_zero]at hk;rw[eA (eL _)]at hk;simp only[uo,List.getElem?_cons_zero,aR]at hk;simp only[kC,bD,dr,bw]at he;rcases am2 x.after.toList 0 (by simpa only[aH]using hk)with h|⟨e,h1,h2⟩
  ·simp at h
  ·refine⟨e,by simpa using h1,h2.imp id fun h=>?_⟩;rw[SD r _ _ (by have:=(he.1 e h1).1;simp;omega)];rw[aH,dL (he.1 e h1).1,<-aH];exact h
 |x::r,acc,j+1,o,h,he,k,hk=>by
  simp only[iK]at hk⊢;simp only[kC,bD]at he;have:=am3 r (acc++[x.after.toList.foldl (fun s e=>s|||2^e.on|||acc.getD e.on 0) 0]) j o (by simpa using h) (by simpa using he.2) k (by
   rw[show acc.length+(j+1)=(acc++[x.after.toList.foldl (fun s e=>s|||2^e.on|||acc.getD e.on 0) 0]).length+j by simp;omega]at hk;exact hk)
  exact this
theorem Gu:∀(L:List Oper)(n i:Nat)(o:Oper),kC L n=true->L[i]?=some o->∀e∈o.after,e.on<n+i/\Region.binds .any e=true
 |[],n,i,o,_,h=>by simp at h
 |x::r,n,0,o,h,ho=>by
  simp at ho;subst ho;simp only[kC,bD,dr,bw]at h;intro e he;exact h.1 e (by simpa using he)
 |x::r,n,i+1,o,h,ho=>by
  simp only[kC,bD]at h;intro e he;have:=Gu r (n+1) i o h.2 (by simpa using ho) e he;exact⟨by omega,this.2⟩
theorem uS{L:List Oper}(he:kC L 0=true){T:Nat->Prop}(hT:∀(i:Nat) o,L[i]?=some o->T i->∀e∈o.after,T e.on):
 ∀(i:Nat)(o:Oper),L[i]?=some o->(∀e∈o.after,T e.on)->∀k,((iK L []).getD i 0).testBit k=true->T k/\k<i:=by
 intro i
 induction i using Nat.strongRecOn with
 |_ i ih=>
  intro o ho hoe k hk;obtain⟨e,h1,h2⟩:=am3 L [] i o ho he k (by simpa using hk);have hlt:=(Gu L 0 i o he ho e h1).1;rw[gV]at hlt;rcases h2 with rfl|h2
  ·exact⟨hoe e h1,hlt⟩
  ·have hi:i<L.length:=(bc.1 ho).1;have hg:=bG (show e.on<L.length by omega);obtain⟨a,b⟩:=ih e.on hlt _ hg (hT e.on _ hg (hoe e h1)) k h2;exact⟨a,by omega⟩
structure Nl (cx:Cx K) (L:List Oper) (bs:List Nat) (H:List (Ob K)) (bY fh:List (AV K)) (vals:Nat->AV K):Prop where
 len:fh.length=bY.length
 uniq:∀(i j:Nat) o o' d,L[i]?=some o->L[j]?=some o'->o.dst=some d->o'.dst=some d->i=j
 inb:∀(i:Nat) o d,L[i]?=some o->o.dst=some d->d<bY.length
 fin:∀(i:Nat) o d,L[i]?=some o->o.dst=some d->fh[d]?=some (vals i)
 rest:∀t,amZ L t->fh[t]?=bY[t]?
 slot:∀(i:Nat) o,L[i]?=some o->∃de dU H1,iY true cx L (eJ (ajF bs i) L 0 de) H dU o=some (vals i,H1,true)/\de.length=bY.length/\
  (∀(k:Nat) o' d,L[k]?=some o'->o'.dst=some d->k<i->de[d]?=some (vals k))/\(∀t,(∀(k:Nat) o,k<i->L[k]?=some o->o.dst≠some t)->de[t]?=bY[t]?)/\∀d∈dU,∃(k:Nat)(o':Oper),k<i/\L[k]?=some o'/\o'.dst=some d
structure am4 (cx:Cx K) (L:List Oper) (bs:List Nat) (H:List (Ob K)) (bY:List (AV K)) (vals:Nat->AV K) (n:Nat) (tm:List (AV K)) (wr:List Nat):Prop where
 len:tm.length=bY.length
 uniq:∀(i j:Nat) o o' d,i<n->j<n->L[i]?=some o->L[j]?=some o'->o.dst=some d->o'.dst=some d->i=j
 inb:∀(i:Nat) o d,i<n->L[i]?=some o->o.dst=some d->d<bY.length
 fin:∀(i:Nat) o d,i<n->L[i]?=some o->o.dst=some d->tm[d]?=some (vals i)
 rest:∀t,(∀(k:Nat) o,k<n->L[k]?=some o->o.dst≠some t)->tm[t]?=bY[t]?
 mS:∀d,d∈wr↔∃(k:Nat)(o':Oper),k<n/\L[k]?=some o'/\o'.dst=some d
 slot:∀(i:Nat) o,i<n->L[i]?=some o->∃de dU H1,iY true cx L (eJ (ajF bs i) L 0 de) H dU o=some (vals i,H1,true)/\de.length=bY.length/\
  (∀(k:Nat) o' d,L[k]?=some o'->o'.dst=some d->k<i->de[d]?=some (vals k))/\(∀t,(∀(k:Nat) o,k<i->L[k]?=some o->o.dst≠some t)->de[t]?=bY[t]?)/\∀d∈dU,∃(k:Nat)(o':Oper),k<i/\L[k]?=some o'/\o'.dst=some d
theorem SE{cx:Cx K}{L:List Oper}{bs:List Nat}:∀(l:List Oper)(i:Nat)(st st':St K)(wr wr':List Nat),mP cx L bs l i st wr=some (st',wr')->st'.ok=true->st.ok=true/\st'.H=st.H
 |[],i,st,st',wr,wr',h,hok=>by simp only[mP,aD,cw]at h;rw[h.1];exact⟨hok,rfl⟩
 |o::r,i,st,st',wr,wr',h,hok=>by
  simp only[mP]at h;split at h
  ·split at h
   ·rename_i st1 iM hp;obtain⟨p1,p2,-⟩:=rU hp;obtain⟨q1,q2⟩:=SE r (i+1) st1 st' iM wr' h hok;rw[p2]at q1;simp only[bD]at q1;exact⟨q1.2,by rw[q2,p1]⟩
   ·cases h
  ·cases h
theorem am5{cx:Cx K}{L:List Oper}{bs:List Nat}{H:List (Ob K)}{bY:List (AV K)}:∀(l:List Oper)(n:Nat)(st st':St K)(wr wr':List Nat)(vals:Nat->AV K),mP cx L bs l n st wr=some (st',wr')->st'.ok=true->st.H=H->
 (∀j,l[j]?=L[n+j]?)->n+l.length=L.length->am4 cx L bs H bY vals n st.tm wr->∃kZ,am4 cx L bs H bY kZ L.length st'.tm wr'
 |[],n,st,st',wr,wr',vals,h,hok,hH,hl,hn,hp=>by
   simp only[mP,aD,cw]at h;obtain⟨rfl,rfl⟩:=h;simp at hn;subst hn;exact⟨vals,hp⟩
 |o::r,n,st,st',wr,wr',vals,h,hok,hH,hl,hn,hp=>by
  have hLn:L[n]?=some o:=by have:=hl 0;simpa using this.symm
  simp only[mP]at h;split at h
  ·rename_i v H1 c hsv;split at h
   ·rename_i st1 iM hput;obtain⟨p1,p2,p3⟩:=rU hput;have hok1:=(SE r (n+1) st1 st' iM wr' h hok).1;rw[p2]at hok1;simp only[bD]at hok1;obtain⟨rfl,-⟩:=hok1;rw[hH]at hsv
    let kZ:Nat->AV K:=fun i=>if i=n then v else vals i
    have hv':∀i,i<n->kZ i=vals i:=fun i hi=>by simp[kZ,show i≠n by omega]
    have hvn:kZ n=v:=by simp[kZ]
    have SG:∃de dU H1,iY true cx L (eJ (ajF bs n) L 0 de) H dU o=some (kZ n,H1,true)/\de.length=bY.length/\
     (∀(k:Nat) o' d,L[k]?=some o'->o'.dst=some d->k<n->de[d]?=some (kZ k))/\(∀t,(∀(k:Nat) o,k<n->L[k]?=some o->o.dst≠some t)->de[t]?=bY[t]?)/\∀d∈dU,∃(k:Nat)(o':Oper),k<n/\L[k]?=some o'/\o'.dst=some d:=
     ⟨st.tm,wr,H1,by rw[hvn];exact hsv,hp.len,fun k o' d h1 h2 h3=>by rw[hv' k h3];exact hp.fin k o' d h3 h1 h2,fun t ht=>hp.rest t fun k o' hk h1=>ht k o' hk h1,fun d hd=>(hp.mS d).1 hd⟩
    have uT:∀(i:Nat) o,i<n+1->L[i]?=some o->∃de dU H1,iY true cx L (eJ (ajF bs i) L 0 de) H dU o=some (kZ i,H1,true)/\de.length=bY.length/\
     (∀(k:Nat) o' d,L[k]?=some o'->o'.dst=some d->k<i->de[d]?=some (kZ k))/\(∀t,(∀(k:Nat) o,k<i->L[k]?=some o->o.dst≠some t)->de[t]?=bY[t]?)/\∀d∈dU,∃(k:Nat)(o':Oper),k<i/\L[k]?=some o'/\o'.dst=some d:=fun i o1 hi ho1=>by
     by_cases hin:i=n
     ·subst hin;rw[hLn]at ho1;simp at ho1;subst ho1;exact SG
     ·obtain⟨de,dU,H2,a1,a2,a3,a4,a5⟩:=hp.slot i o1 (by omega) ho1;exact⟨de,dU,H2,by rw[hv' i (by omega)];exact a1,a2,fun k o' d h1 h2 h3=>by rw[hv' k (by omega)];exact a3 k o' d h1 h2 h3,a4,a5⟩
    refine am5 r (n+1) st1 st' iM wr' kZ h hok (by rw[p1];exact hH) (fun j=>by have:=hl (j+1);simp only[List.getElem?_cons_succ]at this;rw[this];congr 1;omega) (by simp at hn;omega) ?_;rcases p3 with⟨e1,e2,e3⟩|⟨d,e1,e2,e3,e4,e5⟩
    ·refine⟨by rw[e2];exact hp.len,fun i j o1 o2 d hi hj h1 h2 h3 h4=>?_,fun i o1 d hi h1 h2=>?_,fun i o1 d hi h1 h2=>?_,fun t ht=>by rw[e2];exact hp.rest t fun k o' hk=>ht k o' (by omega),fun d=>?_,uT⟩
     ·have hin:i≠n:=fun e=>by subst e;rw[hLn]at h1;simp at h1;subst h1;rw[e1]at h3;cases h3
      have hjn:j≠n:=fun e=>by subst e;rw[hLn]at h2;simp at h2;subst h2;rw[e1]at h4;cases h4
      exact hp.uniq i j o1 o2 d (by omega) (by omega) h1 h2 h3 h4
     ·have hin:i≠n:=fun e=>by subst e;rw[hLn]at h1;simp at h1;subst h1;rw[e1]at h2;cases h2
      exact hp.inb i o1 d (by omega) h1 h2
     ·have hin:i≠n:=fun e=>by subst e;rw[hLn]at h1;simp at h1;subst h1;rw[e1]at h2;cases h2
      rw[e2,hv' i (by omega)];exact hp.fin i o1 d (by omega) h1 h2
     ·rw[e3,hp.mS d];constructor
      ·rintro ⟨k,o',hk,h1,h2⟩;exact⟨k,o',by omega,h1,h2⟩
      ·rintro ⟨k,o',hk,h1,h2⟩
       have hkn:k≠n:=fun e=>by subst e;rw[hLn]at h1;simp at h1;subst h1;rw[e1]at h2;cases h2
       exact⟨k,o',by omega,h1,h2⟩
    ·have hnew:∀(k:Nat) o',k<n->L[k]?=some o'->o'.dst≠some d:=fun k o' hk h1 h2=>e2 ((hp.mS d).2 ⟨k,o',hk,h1,h2⟩)
     have hdn:∀{o1:Oper}{d1:Nat},L[n]?=some o1->o1.dst=some d1->d1=d:=fun{o1 d1} h1 h2=>by rw[hLn]at h1;simp at h1;subst h1;rw[e1]at h2;simpa using h2.symm
     refine⟨by rw[e4];simp[hp.len],fun i j o1 o2 d1 hi hj h1 h2 h3 h4=>?_,fun i o1 d1 hi h1 h2=>?_,fun i o1 d1 hi h1 h2=>?_,fun t ht=>?_,fun d1=>?_,uT⟩
     ·by_cases hin:i=n<;>by_cases hjn:j=n
      ·omega
      ·subst hin;have:=hdn h1 h3;subst this;exact absurd h4 (hnew j o2 (by omega) h2)
      ·subst hjn;have:=hdn h2 h4;subst this;exact absurd h3 (hnew i o1 (by omega) h1)
      ·exact hp.uniq i j o1 o2 d1 (by omega) (by omega) h1 h2 h3 h4
     ·by_cases hin:i=n
      ·subst hin;have:=hdn h1 h2;subst this;rw[<-hp.len];exact e3
      ·exact hp.inb i o1 d1 (by omega) h1 h2
     ·rw[e4];by_cases hin:i=n
      ·subst hin;have:=hdn h1 h2;subst this;rw[km,cz rfl,cz e3,hvn]
      ·have hne:d1≠d:=fun e=>by subst e;exact hnew i o1 (by omega) h1 h2
       rw[km,aw (By hne),hv' i (by omega)];exact hp.fin i o1 d1 (by omega) h1 h2
     ·have hne:d≠t:=fun e=>by subst e;exact ht n o (by omega) hLn e1
      rw[e4,km,aw hne];exact hp.rest t fun k o' hk=>ht k o' (by omega)
     ·rw[e5,gz,hp.mS d1];constructor
      ·rintro (rfl|⟨k,o',hk,h1,h2⟩)
       ·exact⟨n,o,by omega,hLn,e1⟩
       ·exact⟨k,o',by omega,h1,h2⟩
      ·rintro ⟨k,o',hk,h1,h2⟩
       by_cases hkn:k=n
       ·subst hkn;exact .inl (hdn h1 h2)
       ·exact .inr ⟨k,o',by omega,h1,h2⟩
   ·cases h
  ·cases h
theorem aES{cx:Cx K}{L:List Oper}{bs:List Nat}{st st':St K}{wr':List Nat}(h:mP cx L bs L 0 st []=some (st',wr'))(hok:st'.ok=true):
 ∃vals,Nl cx L bs st.H st.tm st'.tm vals/\∀d,d∈wr'↔∃(k:Nat)(o':Oper),L[k]?=some o'/\o'.dst=some d:=by
 obtain⟨vals,hp⟩:=am5 (bY:=st.tm) L 0 st st' [] wr' (fun _=>.any) h hok rfl (fun j=>by simp) (by simp)
  ⟨rfl,fun i j _ _ _ hi=>by omega,fun i _ _ hi=>by omega,fun i _ _ hi=>by omega,fun t _=>rfl,fun d=>by simp,fun i _ hi=>by omega⟩
 have hlt:∀{i:Nat}{o:Oper},L[i]?=some o->i<L.length:=fun h=>(bc.1 h).1
 refine⟨vals,⟨hp.len,fun i j o o' d h1 h2=>hp.uniq i j o o' d (hlt h1) (hlt h2) h1 h2,fun i o d h1=>hp.inb i o d (hlt h1) h1,fun i o d h1=>hp.fin i o d (hlt h1) h1,fun t ht=>hp.rest t fun k o _=>ht k o,fun i o h1=>hp.slot i o (hlt h1) h1⟩,fun d=>?_⟩;rw[hp.mS d];exact⟨fun⟨k,o',_,h1,h2⟩=>⟨k,o',h1,h2⟩,fun⟨k,o',h1,h2⟩=>⟨k,o',hlt h1,h1,h2⟩⟩
end Go.V
namespace Go.V
open Go
variable {K :dc}{ρ ρ':List Value}{S S':Nat->Prop}{w w':World}{H H':List (Ob K)}
structure Mid (cx:Cx K) (L:List Oper) (bY:List (AV K)) (vals:Nat->AV K) (H:List (Ob K)) (ρ:List Value) (S:Nat->Prop) (listed:Array Bool) (a:Act) (w:World):Prop where
 heap:aU cx.D ρ S w H
 defers:a.defers=[]
 size:a.tmps.size=bY.length
 nY:listed.size=L.length
 base:∀(t:Nat) v x,(∀(k:Nat) o,L[k]?=some o->o.dst=some t->listed[k]?≠some true)->bY[t]?=some v->a.tmps[t]?=some x->Rep cx.D ρ S w v x
 done:∀(k:Nat) o d x,L[k]?=some o->listed[k]?=some true->o.dst=some d->a.tmps[d]?=some x->eK cx.D ρ S w a.tmps (vals k) x
 opts:∀(k g:Nat) b y,listed[k]?=some true->vals k=.opt g b y->∃(k':Nat)(o':Oper),L[k']?=some o'/\o'.dst=some g/\listed[k']?=some true
 closed:∀(k:Nat) o,L[k]?=some o->listed[k]?=some true->∀e∈o.after,listed[e.on]?=some true
theorem AS(L:List Oper)(t:Nat):amZ L t\/∃(k:Nat)(o:Oper),L[k]?=some o/\o.dst=some t:=by
 by_cases h:∃(k:Nat)(o:Oper),L[k]?=some o/\o.dst=some t
 ·exact .inr h
 ·exact .inl fun k o h1 h2=>h ⟨k,o,h1,h2⟩
theorem am6{q:Bool}{cx:Cx K}{ops:List Oper}{tm:List (AV K)}{wr:List Nat}{o:Oper}{g:Nat}{b:Bool}{y:AV K}{c:Bool}(h:iY q cx ops tm H wr o=some (.opt g b y,H',c)):∃v,tm[g]?=some v/\v≠.any:=by
 unfold iY at h;split at h
 ·cases h
 ·split at h
  ·split at h
   ·cases h
   ·rename_i hno;simp only[aD,cw]at h;obtain⟨rfl,-⟩:=h;simp[AV.jF]at hno
  ·cases h
 ·rename_i g' w1 hgd;split at h
  ·split at h
   ·split at h
    ·split at h
     ·split at h
      ·cases h
      ·rename_i hno;simp only[aD,cw]at h;obtain⟨rfl,-⟩:=h;simp[AV.jF]at hno
     ·cases h
    ·simp only[aD,cw]at h;obtain⟨h,-⟩:=h;cases h
   ·cases h
  split at h
  ·cases h
  ·rename_i e hgv;split at h
   ·split at h
    ·simp only[aD,cw,AV.opt.injEq]at h;obtain⟨⟨rfl,rfl,rfl⟩,-⟩:=h;simp only[Ak]at hgv;split at hgv
     ·rename_i bb hv;exact⟨_,hv,by simp⟩
     ·rename_i g1 w1 bb hv;exact⟨_,hv,by simp⟩
     ·cases hgv
    ·cases h
   ·cases h
theorem Gv{listed:Array Bool}{j:Nat}:listed.getD j true=false↔listed[j]?=some false:=by
 rw[jc];cases h:listed[j]? with
 |none=>simp
 |some b=>cases b<;>simp
theorem SH{listed:Array Bool}{j:Nat}:listed.getD j false=true↔listed[j]?=some true:=by
 rw[jc];cases h:listed[j]? with
 |none=>simp
 |some b=>cases b<;>simp
theorem Mid.slots{cx:Cx K}{L:List Oper}{bY fh:List (AV K)}{vals:Nat->AV K}{bs:List Nat}(hbs:bs=iK L [])(he:kC L 0=true){listed:Array Bool}{a:Act}
 (hm:Mid cx L bY vals H ρ S listed a w) (hd:Nl cx L bs H bY fh vals) (h0:dz bY) {j:Nat} {o:Oper} (ho:L[j]?=some o) (ik:listed[j]?=some false) (lV:∀e∈o.after,listed[e.on]?=some true) {de:List (AV K)} (hl:de.length=bY.length)
 (h1:∀(k:Nat) o' d,L[k]?=some o'->o'.dst=some d->k<j->de[d]?=some (vals k)) (h2:∀t,(∀(k:Nat) o,k<j->L[k]?=some o->o.dst≠some t)->de[t]?=bY[t]?):fg cx.D ρ S w (eJ (ajF bs j) L 0 de) a.tmps/\
   ∀(t:Nat) v,(eJ (ajF bs j) L 0 de)[t]?=some v->v≠.any->(∀(k:Nat) o',k<j->L[k]?=some o'->o'.dst≠some t)\/∃(k:Nat)(o':Oper),L[k]?=some o'/\o'.dst=some t/\listed[k]?=some true:=by
 have key:∀(t:Nat) v,(eJ (ajF bs j) L 0 de)[t]?=some v->v≠.any->(((∀(k:Nat) o',k<j->L[k]?=some o'->o'.dst≠some t)/\(∀(k:Nat) o,L[k]?=some o->o.dst=some t->listed[k]?≠some true))/\bY[t]?=some v)\/∃(k:Nat)(o':Oper),L[k]?=some o'/\o'.dst=some t/\listed[k]?=some true/\v=vals k:=fun t v hv hne=>by
  obtain⟨g1,g2⟩:=SB L 0 de t v hv hne;rcases AS L t with hn|⟨k,o',hk,hkd⟩
  ·exact .inl ⟨⟨fun k o' _ h=>hn k o' h,fun k o' h h'=>absurd h' (hn k o' h)⟩,by rw[<-h2 t fun k o' _ h=>hn k o' h];exact g1⟩
  ·have hb:=g2 k o' hk hkd;rw[gV,hbs]at hb;rcases am1 hb with hb|hb
   ·obtain⟨c1,c2⟩:=uS he (T:=fun i=>listed[i]?=some true) (fun i o hi nZ=>hm.closed i o hi nZ) j o ho lV k hb;have:=h1 k o' t hk hkd c2;rw[g1]at this;exact .inr ⟨k,o',hk,hkd,c1,by simpa using this⟩
   ·have c0:=(uS he (T:=fun _=>True) (fun _ _ _ _ _ _=>trivial) k o' hk (fun _ _=>trivial) j hb).2;have hun:listed[k]?≠some true:=fun hlk=>by
     have:=(uS he (T:=fun i=>listed[i]?=some true) (fun i o hi nZ=>hm.closed i o hi nZ) k o' hk (hm.closed k o' hk hlk) j hb).1;rw[ik]at this;cases this
    have Gw:∀(k':Nat) o1,L[k']?=some o1->o1.dst=some t->k'=k:=fun k' o1 h1 h2=>hd.uniq k' k o1 o' t h1 hk h2 hkd
    have hlt:∀(k':Nat) o1,k'<j->L[k']?=some o1->o1.dst≠some t:=fun k' o1 hk' h1 h2=>by have:=Gw k' o1 h1 h2;omega
    exact .inl ⟨⟨hlt,fun k' o1 h1 h2=>by rw[Gw k' o1 h1 h2];exact hun⟩,by rw[<-h2 t hlt];exact g1⟩
 refine⟨⟨by rw[SC,hl,hm.size],fun t v x hv hx=>?_⟩,fun t v hv hne=>?_⟩
 ·by_cases hne:v=.any
  ·subst hne;exact .kD (.any x)
  ·rcases key t v hv hne with⟨⟨-,hn⟩,g⟩|⟨k,o',hk,hkd,hlk,rfl⟩
   ·exact .kD (hm.base t v x hn g hx)
   ·exact hm.done k o' t x hk hlk hkd hx
 ·rcases key t v hv hne with⟨⟨hn,-⟩,-⟩|⟨k,o',hk,hkd,hlk,-⟩
  ·exact .inl hn
  ·exact .inr ⟨k,o',hk,hkd,hlk⟩
theorem Mid.put{cx:Cx K}{L:List Oper}{bY fh:List (AV K)}{vals:Nat->AV K}{bs:List Nat}{listed:Array Bool}{a:Act}(hm:Mid cx L bY vals H ρ S listed a w)(hd:Nl cx L bs H bY fh vals){j:Nat}{o:Oper}(ho:L[j]?=some o)
 (hj:listed[j]?=some false) (lV:∀e∈o.after,listed[e.on]?=some true) {u:Value} (hs':aU cx.D ρ' S' w' H) (hst:Step cx.D H.length ρ S H w ρ' S' H w') (hv:eK cx.D ρ' S' w' a.tmps (vals j) u)
 (mr:∀g b y,vals j=.opt g b y->∃(k':Nat)(o':Oper),L[k']?=some o'/\o'.dst=some g/\listed[k']?=some true):Mid cx L bY vals H ρ' S' (listed.setIfInBounds j true) (a.put o.dst u) w':=by
 have hjs:j<listed.size:=(ic.1 hj).1;have hget:∀(k:Nat),(listed.setIfInBounds j true)[k]?=some true↔(k=j\/listed[k]?=some true):=fun k=>by
  rw[mj];by_cases hk:j=k
  ·subst hk;simp[hjs]
  ·rw[aw hk];simp[By hk]
 have hmono:∀{v:AV K}{x:Value},Rep cx.D ρ S w v x->Rep cx.D ρ' S' w' v x:=fun h=>h.mono hst.s1 (hst.Ge hm.heap) (hst.Sv hm.heap)
 have am7:∀{v:AV K}{x:Value}{tmps:Array Value},eK cx.D ρ S w tmps v x->eK cx.D ρ' S' w' tmps v x:=fun h=>h.mono hst.s1 (hst.Ge hm.heap) (hst.Sv hm.heap)
 have hclosed:∀(k:Nat) o1,L[k]?=some o1->(listed.setIfInBounds j true)[k]?=some true->∀e∈o1.after,(listed.setIfInBounds j true)[e.on]?=some true:=fun k o1 hk hlk e he=>by
  rw[hget]at hlk⊢;rcases hlk with rfl|hlk
  ·rw[ho]at hk;simp at hk;subst hk;exact .inr (lV e he)
  ·exact .inr (hm.closed k o1 hk hlk e he)
 have Gx:∀(k g:Nat) b y,(listed.setIfInBounds j true)[k]?=some true->vals k=.opt g b y->∃(k':Nat)(o':Oper),L[k']?=some o'/\o'.dst=some g/\(listed.setIfInBounds j true)[k']?=some true:=fun k g b y hlk hvk=>by
  rw[hget]at hlk;rcases hlk with rfl|hlk
  ·obtain⟨k',o',h1,h2,h3⟩:=mr g b y hvk;exact⟨k',o',h1,h2,(hget k').2 (.inr h3)⟩
  ·obtain⟨k',o',h1,h2,h3⟩:=hm.opts k g b y hlk hvk;exact⟨k',o',h1,h2,(hget k').2 (.inr h3)⟩
 cases hdst:o.dst with
 |none=>
  refine⟨hs',hm.defers,hm.size,by simp[hm.nY],fun t v x h1 h2 h3=>hmono (hm.base t v x (fun k o1 hk hd1 hl=>h1 k o1 hk hd1 ((hget k).2 (.inr hl))) h2 h3),fun k o1 d x hk hlk hd1 hx=>?_,Gx,hclosed⟩;rw[hget]at hlk;rcases hlk with rfl|hlk
  ·rw[ho]at hk;simp at hk;subst hk;rw[hdst]at hd1;cases hd1
  ·exact am7 (hm.done k o1 d x hk hlk hd1 hx)
 |some d=>
  have hne:∀{k:Nat}{o1:Oper},L[k]?=some o1->listed[k]?=some true->o1.dst≠some d:=fun{k o1} hk hlk hd1=>by
   have:=hd.uniq k j o1 o d hk ho hd1 hdst;subst this;rw[hj]at hlk;cases hlk
  refine⟨hs',hm.defers,by simp[Act.put,hm.size],by simp[hm.nY],fun t v x h1 h2 h3=>?_,fun k o1 d1 x hk hlk hd1 hx=>?_,Gx,hclosed⟩
  ·have:d≠t:=fun e=>by subst e;exact h1 j o ho hdst ((hget j).2 (.inl rfl))
   simp only[Act.put,mj,aw this]at h3;exact hmono (hm.base t v x (fun k o1 hk hd1 hl=>h1 k o1 hk hd1 ((hget k).2 (.inr hl))) h2 h3)
  ·rw[hget]at hlk;simp only[Act.put]at hx⊢;rw[mj]at hx;rcases hlk with rfl|hlk
   ·rw[ho]at hk;simp at hk;subst hk;rw[hdst]at hd1;simp at hd1;subst hd1;rw[cz rfl]at hx;split at hx
    ·simp at hx;subst hx;refine hv.put fun g b y e he=>?_
     obtain⟨k',o',h1,h2,h3⟩:=mr g b y e;subst he;exact hne h1 h3 h2
    ·cases hx
   ·have hdd:d≠d1:=fun e=>by subst e;exact hne hk hlk hd1
    rw[aw hdd]at hx;refine(am7 (hm.done k o1 d1 x hk hlk hd1 hx)).put fun g b y e he=>?_
    obtain⟨k',o',h1,h2,h3⟩:=hm.opts k g b y hlk e;subst he;exact hne h1 h3 h2
def todo(listed:Array Bool):Nat:=(listed.toList.filter fun b=> !b).length
theorem am8{listed:Array Bool}{j:Nat}(h:listed[j]?=some false):todo (listed.setIfInBounds j true)+1=todo listed:=by
 have key:∀(l:List Bool)(j:Nat),l[j]?=some false->((l.set j true).filter fun b=> !b).length+1=(l.filter fun b=> !b).length:=fun l=>by
  induction l with
  |nil=>intro j h;simp at h
  |cons x r ih=>
   intro j h;cases j with
   |zero=>simp at h;subst h;simp
   |succ j=>
    have:=ih j (by simpa using h);simp only[List.set_cons_succ,List.filter_cons];cases x
    ·simp only[rq,fJ,aZ];omega
    ·simp only[eH,eS,gU];omega
 simp only[todo,Array.toList_setIfInBounds];exact key _ _ (by simpa using h)
theorem am9{listed:Array Bool}(h:todo listed=0){j:Nat}:listed[j]?≠some false:=fun hj=>by
 have hm:false∈listed.toList:=by
  rw[List.mem_iff_getElem?];exact⟨j,by simpa using hj⟩
 have:false∈listed.toList.filter fun b=> !b:=by simp[hm]
 rw[fD h]at this;cases this
theorem ana{L:List Oper}(he:kC L 0=true){listed:Array Bool}(hl:listed.size=L.length)(hr:Region.ready .any L.toArray listed=[]):∀(i:Nat),i<L.length->listed[i]?=some true:=by
 intro i
 induction i using Nat.strongRecOn with
 |_ i ih=>
  intro hi;have ho:=bG hi;cases hb:listed[i]? with
  |none=>rw[Array.getElem?_eq_none_iff]at hb;omega
  |some b=>
   cases b with
   |true=>rfl
   |false=>
    have:i∈Region.ready .any L.toArray listed:=mem_ready.2 ⟨Gv.2 hb,L[i],by simp[hi],fun e yl _=>by
     have:=(Gu L 0 i _ he ho e yl).1;exact SH.2 (ih e.on (by omega) (by omega))⟩
    rw[hr]at this;cases this
theorem aET{cx:Cx K}(hD:bT cx.D)(hc:aI cx){L:List Oper}(SI:∀(i:Nat) o,L[i]?=some o->nU cx o.op=true)(he:kC L 0=true){bY fh:List (AV K)}{vals:Nat->AV K}(hd:Nl cx L (iK L []) H bY fh vals)(h0:dz bY)
 {n0:Nat} (hn:n0<=H.length) {Q:Exit->Act->World->Prop}:∀(fuel:Nat)(listed:Array Bool)(ρ:List Value)(S:Nat->Prop)(a:Act)(w:World),Mid cx L bY vals H ρ S listed a w->todo listed<=fuel->
 (∀ρ' S' a' w',aU cx.D ρ' S' w' H->fg cx.D ρ' S' w' fh a'.tmps->a'.defers=[]->Step cx.D n0 ρ S H w ρ' S' H w'->Q .normal a' w')->wpAny cx.P .any L.toArray Q fuel listed a w:=by
 have hfin:∀(listed:Array Bool)(ρ:List Value)(S:Nat->Prop)(a:Act)(w:World),Mid cx L bY vals H ρ S listed a w->Region.ready .any L.toArray listed=[]->fg cx.D ρ S w fh a.tmps:=fun listed ρ S a w hm hr=>by
  have hall:=ana he hm.nY hr;refine⟨by rw[hd.len,hm.size],fun t v x hv hx=>?_⟩;rcases AS L t with hnd|⟨k,o,hk,hkd⟩
  ·rw[hd.rest t hnd]at hv;exact .kD (hm.base t v x (fun k o hk hkd=>absurd hkd (hnd k o hk)) hv hx)
  ·rw[hd.fin k o t hk hkd]at hv;simp only[aD]at hv;subst hv;exact hm.done k o t x hk (hall k (bc.1 hk).1) hkd hx
 intro fuel
 induction fuel with
 |zero=>
  intro listed ρ S a w hm ht hq;have hr:Region.ready .any L.toArray listed=[]:=by
   cases hh:Region.ready .any L.toArray listed with
   |nil=>rfl
   |cons j r=>
    have:j∈Region.ready .any L.toArray listed:=by rw[hh];simp
    exact absurd (Gv.1 (mem_ready.1 this).1) (am9 (by omega))
  exact⟨hr,hq ρ S a w hm.heap (hfin listed ρ S a w hm hr) hm.defers Step.refl⟩
 |succ fuel ih=>
  intro listed ρ S a w hm ht hq;refine⟨fun hr=>hq ρ S a w hm.heap (hfin listed ρ S a w hm hr) hm.defers Step.refl,fun j hj=>?_⟩;obtain⟨rR,o,hoj,hall⟩:=mem_ready.1 hj;have ik:=Gv.1 rR;have ho:L[j]?=some o:=by simpa using hoj
  have lV:∀e∈o.after,listed[e.on]?=some true:=fun e yl=>SH.1 (hall e yl (Gu L 0 j o he ho e yl).2)
  obtain⟨de,dU,H1,s1,s2,s3,s4,s5⟩:=hd.slot j o ho;obtain⟨hsl,hkn⟩:=hm.slots rfl he hd h0 ho ik lV s2 s3 s4;have hH1:H1=H:=by
   have hsm:=SI j o ho;unfold iY at s1;split at s1
   ·cases s1
   ·split at s1
    ·rename_i hy;split at s1
     ·cases s1
     ·simp only[aD,cw]at s1;obtain⟨-,rfl,-⟩:=s1;exact AP hy
    ·cases s1
   ·split at s1
    ·split at s1
     ·split at s1
      ·split at s1
       ·rename_i hy;split at s1
        ·cases s1
        ·simp only[aD,cw]at s1;obtain⟨-,rfl,-⟩:=s1;exact AP hy
       ·cases s1
      ·simp only[aD,cw]at s1;exact s1.2.1.symm
     ·cases s1
    split at s1
    ·cases s1
    ·split at s1
     ·split at s1
      ·simp only[aD,cw]at s1;exact s1.2.1.symm
      ·cases s1
     ·cases s1
  subst hH1;have mr:∀g b y,vals j=.opt g b y->∃(k':Nat)(o':Oper),L[k']?=some o'/\o'.dst=some g/\listed[k']?=some true:=fun g b y e=>by
   rw[e]at s1;obtain⟨v,g1,g2⟩:=am6 s1;rcases hkn g v g1 g2 with hn'|h
   ·obtain⟨k,o',hk,h2,h3⟩:=s5 g (yk s1 g b y rfl);exact absurd h3 (hn' k o' hk h2)
   ·exact h
  have hw:=Su hD hc hm.heap hsl (ops:=L) s1 rfl (k:=wpAny cx.P .any L.toArray Q fuel (listed.setIfInBounds j true)) (Q:=Q) fun u ρ1 S1 w1 q1 q2 q3=>by
   have hm1:=hm.put hd ho ik lV q1 q3 q2 mr;refine ih _ ρ1 S1 _ w1 hm1 (by have:=am8 ik;omega) fun ρ' S' a' w' g1 g2 g3 g4=>hq ρ' S' a' w' g1 g2 g3 ((q3.weaken hn).trans g4)
  unfold wpOp;rw[hoj];dsimp only;split
  ·rename_i hwt;rw[cz hwt]at hw;exact .inl hw
  ·rename_i hwt;rw[aw hwt]at hw;exact hw
theorem anb(n:Nat):todo (Array.replicate n false)<=n:=by
 simp only[todo,Array.toList_replicate];exact cq (List.length_filter_le _ _) (by simp)
end Go.V
namespace Go.V
open Go
variable {K :dc}{ρ ρ':List Value}{S S':Nat->Prop}{w w':World}{H H':List (Ob K)}{D:bL K}
theorem Gy{bits:Nat}:∀(l:List (Ob K))(i k:Nat),(iZ bits i l)[k]?=(l[k]?).map fun o=>if bits.testBit (i+k)then .dead else o
 |[],i,k=>by simp[iZ]
 |o::r,i,0=>by simp[iZ]
 |o::r,i,k+1=>by
  simp only[iZ,List.getElem?_cons_succ];rw[Gy r (i+1) k,show i+1+k=i+(k+1) by omega]
theorem Gz{bits:Nat}:∀(l:List (Ob K))(i:Nat),(iZ bits i l).length=l.length
 |[],i=>rfl
 |o::r,i=>by simp only[iZ,aZ,Gz r]
theorem Nn{bits:Nat}:∀(l l':List (Ob K))(i:Nat),l.length<=l'.length->(kY bits i l l').length=l'.length
 |[],l',i,_=>by simp[kY]
 |o::r,[],i,h=>by simp at h
 |o::r,o'::r',i,h=>by
  simp only[kY,aZ];rw[Nn r r' (i+1) (by simpa using h)]
theorem Np{bits:Nat}:∀(l l':List (Ob K))(i k:Nat),l.length<=l'.length->(kY bits i l l')[k]?=if k<l.length/\bits.testBit (i+k)=true then l[k]? else l'[k]?
 |[],l',i,k,_=>by simp[kY]
 |o::r,[],i,k,h=>by simp at h
 |o::r,o'::r',i,0,h=>by
  simp only[kY,List.getElem?_cons_zero,aZ,Nat.add_zero];by_cases hb:bits.testBit i=true<;>simp[hb]
 |o::r,o'::r',i,k+1,h=>by
  simp only[kY,List.getElem?_cons_succ,aZ,Nat.add_lt_add_iff_right];rw[Np r r' (i+1) k (by simpa using h),show i+1+k=i+(k+1) by omega]
theorem ym{n:Nat}:∀{l:List (AV K)}{i:Nat}{v:AV K},qp n l=true->l[i]?=some v->v.upto n=true
 |[],i,v,_,h=>by simp at h
 |x::r,0,v,h,hv=>by simp at hv;subst hv;simp only[qp,bD]at h;exact h.1
 |x::r,i+1,v,h,hv=>by simp only[qp,bD]at h;exact ym h.2 (by simpa using hv)
theorem Rep.take(hD:bT D){n:Nat}{v:AV K}{x:Value}(h:Rep D ρ S w v x):v.upto n=true->Rep D (ρ.take n) S w v x:=by
 have tk:∀{k:Nat}{r:Value},k<n->ρ[k]?=some r->(ρ.take n)[k]?=some r:=fun hk hr=>by rw[dW,cz hk];exact hr
 induction h with
 |any v=>exact fun _=>.any v
 |int k n=>exact fun _=>.int k n
 |bool b=>exact fun _=>.bool b
 |str s=>exact fun _=>.str s
 |dt=>exact fun _=>.dt
 |di=>exact fun _=>.di
 |mp r=>exact fun _=>.mp r
 |fn hl _ ih=>exact fun hu=>.fn hl fun i v x h1 h2=>ih i v x h1 h2 (ym (by simpa [AV.upto]using hu) h1)
 |kQ=>exact fun _=>.kQ
 |np hp=>exact fun hu=>.np (tk (by simpa [AV.upto]using hu) hp)
 |ptr hp=>exact fun hu=>.ptr (tk (by simpa [AV.upto]using hu) hp)
 |sl hp=>exact fun hu=>.sl (tk (by simpa [AV.upto]using hu) hp)
 |ep hp hi=>exact fun hu=>.ep (tk (by simpa [AV.upto]using hu) hp) hi
 |vw hp h1 h2 ha=>exact fun hu=>.vw (tk (by simpa [AV.upto]using hu) hp) h1 h2 ha
 |fe a cap=>exact fun _=>.fe a cap
 |ah val h1 h2 h3 h4 h5 ih=>exact fun _=>(Rep.ah val h1 h2 h3 h4 h5).closed hD rfl
 |rp vs h1 h2 h3 h4 ih=>exact fun _=>(Rep.rp vs h1 h2 h3 h4).closed hD rfl
 |agg hl _ ih=>exact fun hu=>.agg hl fun i v x h1 h2=>ih i v x h1 h2 (ym (by simpa [AV.upto]using hu) h1)
 |bQ hl _ ih=>exact fun hu=>.bQ hl fun i v x h1 h2=>ih i v x h1 h2 (ym (by simpa [AV.upto]using hu) h1)
theorem bB.aEU(hD:bT D){n:Nat}{l:List (AV K)}{vs:List Value}(h:bB D ρ S w l vs)(hu:qp n l=true):bB D (ρ.take n) S w l vs:=
 ⟨h.1,fun i v x h1 h2=>(h.2 i v x h1 h2).take hD (ym hu h1)⟩
def dummy:Value:=.bool false
theorem Rep.mono'(hS:∀b,S b->S' b)(hw:∀b,S b->w'.heap[b]?=w.heap[b]?)(hρ:∀(h:Nat) r,ρ[h]?=some r->r≠dummy->ρ'[h]?=some r){v:AV K}{x:Value}
 (h:Rep D ρ S w v x):Rep D ρ' S' w' v x:=by
 induction h with
 |any v=>exact .any v
 |int k n=>exact .int k n
 |bool b=>exact .bool b
 |str s=>exact .str s
 |dt=>exact .dt
 |di=>exact .di
 |mp r=>exact .mp r
 |fn hl _ ih=>exact .fn hl ih
 |kQ=>exact .kQ
 |np hp=>exact .np (hρ _ _ hp (by simp[dummy]))
 |ptr hp=>exact .ptr (hρ _ _ hp (by simp[dummy]))
 |sl hp=>exact .sl (hρ _ _ hp (by simp[dummy]))
 |ep hp hi=>exact .ep (hρ _ _ hp (by simp[dummy])) hi
 |vw hp h1 h2 ha=>exact .vw (hρ _ _ hp (by simp[dummy])) h1 h2 ha
 |fe a cap=>exact .fe a cap
 |ah val h1 h2 h3 h4 _ ih=>exact .ah val (hS _ h1) h2 h3 (fun i hi=>(h4 i hi).keep (hw _ h1)) ih
 |rp vs h1 h2 h3 _ ih=>exact .rp vs (hS _ h1) h2 (h3.keep (hw _ h1)) ih
 |agg hl _ ih=>exact .agg hl ih
 |bQ hl _ ih=>exact .bQ hl ih
theorem bB.mono'(hS:∀b,S b->S' b)(hw:∀b,S b->w'.heap[b]?=w.heap[b]?)(hρ:∀(h:Nat) r,ρ[h]?=some r->r≠dummy->ρ'[h]?=some r){l:List (AV K)}{vs:List Value}
 (h:bB D ρ S w l vs):bB D ρ' S' w' l vs:=⟨h.1,fun i v x hv hx=>(h.2 i v x hv hx).mono' hS hw hρ⟩
theorem gX.take(hD:bT D){n:Nat}{o:Ob K}{r:Value}(h:gX D ρ S w o r)(hu:o.upto n=true):gX D (ρ.take n) S w o r:=by
 cases o with
 |dead=>trivial
 |gY c l=>exact Rep.closed hD h rfl
 |box cs=>
  obtain⟨b,vs,T,h1,h2,h3,h4⟩:=h;exact⟨b,vs,T,h1,h2,h3.aEU hD hu,h4⟩
 |arr c l=>
  rcases h with h|⟨b,o,cap,vs,T,fr,h1,h2,h3,h4,h5,h6⟩
  ·exact .inl h
  ·exact .inr ⟨b,o,cap,vs,T,fr,h1,h2,h3,h4,h5,fun i x hx=>(h6 i x hx).closed hD (hD.closed _ _)⟩
 |tree c l=>exact h
 |opn c l i off cs=>exact qx.keep (fun j v u hv hr=>hr.take hD (ym hu hv)) (fun _ _=>rfl) h
theorem gX.mono'(hS:∀b,S b->S' b)(hw:∀b,S b->w'.heap[b]?=w.heap[b]?)(hρ:∀(h:Nat) r,ρ[h]?=some r->r≠dummy->ρ'[h]?=some r){o:Ob K}{r:Value}(h:gX D ρ S w o r)
 (hb:∀b,o.live=true->cD D w o r b->w'.heap[b]?=w.heap[b]?):gX D ρ' S' w' o r:=by
 cases o with
 |dead=>trivial
 |gY c l=>exact Rep.mono' hS hw hρ h
 |box cs=>
  obtain⟨b,vs,T,rfl,h2,h3,h4⟩:=h;exact⟨b,vs,T,rfl,by rw[hb b rfl rfl];exact h2,h3.mono' hS hw hρ,h4⟩
 |arr c l=>
  rcases h with h|⟨b,o,cap,vs,T,fr,rfl,h2,h3,h4,h5,h6⟩
  ·exact .inl h
  ·exact .inr ⟨b,o,cap,vs,T,fr,rfl,by rw[hb b rfl rfl];exact h2,h3,h4,h5,fun i x hx=>(h6 i x hx).mono' hS hw hρ⟩
 |tree c l=>exact Tree.mono h fun k hk=>hb k rfl hk
 |opn c l i off cs=>exact qx.keep (fun _ _ _ _ hr=>hr.mono' hS hw hρ) (fun k hk=>hb k rfl hk) h
structure View (n:Nat) (H Hv:List (Ob K)):Prop where
 len:Hv.length=n
 le:n<=H.length
 ob:∀(h:Nat) o,Hv[h]?=some o->o=.dead\/H[h]?=some o
 up:∀(h:Nat) o,Hv[h]?=some o->o.upto n=true
theorem View.lt{n:Nat}{H Hv:List (Ob K)}(v:View n H Hv){h:Nat}{o:Ob K}(ho:Hv[h]?=some o):h<n:=by
 have:=(bc.1 ho).1;rw[v.len]at this;exact this
theorem View.live{n:Nat}{H Hv:List (Ob K)}(v:View n H Hv){h:Nat}{o:Ob K}(ho:Hv[h]?=some o)(hl:o.live=true):H[h]?=some o:=by
 rcases v.ob h o ho with rfl|h
 ·cases hl
 ·exact h
theorem View.own{n:Nat}{H Hv:List (Ob K)}(v:View n H Hv){b:Nat}(h:Own D w (ρ.take n) Hv b):Own D w ρ H b:=by
 obtain⟨h,o,r,h1,h2,h3,h4⟩:=h;rw[dW,cz (v.lt h1)]at h3;exact⟨h,o,r,v.live h1 h2,h2,h3,h4⟩
theorem aU.view(hD:bT D){n:Nat}{H Hv:List (Ob K)}(hs:aU D ρ S w H)(v:View n H Hv):aU D (ρ.take n) S w Hv:={
 len:=by rw[gZ,hs.len,v.len];have:=v.le;omega
 ob:=fun h o r ho hr=>by
  rw[dW,cz (v.lt ho)]at hr;rcases v.ob h o ho with rfl|h1
  ·trivial
  ·exact(hs.ob h o r h1 hr).take hD (v.up h o ho)
 eY:=fun h h' o o' r r' b h1 h2 h3 h4 h5 h6 h7 h8=>by
  rw[dW,cz (v.lt h1)]at h3;rw[dW,cz (v.lt h5)]at h7;exact hs.eY h h' o o' r r' b (v.live h1 h2) h2 h3 h4 (v.live h5 h6) h6 h7 h8
 lt:=fun b hb=>hs.lt b (v.own hb)
 slt:=hs.slt
 base:=hs.base}
structure Joined (n m:Nat) (H Hv H1 Hf:List (Ob K)):Prop where
 le:n<=m
 len1:H1.length=m
 len:Hf.length=H.length
 leN:m<=H.length
 ob:∀(h:Nat) o,Hf[h]?=some o->(h<m/\H1[h]?=some o)\/(H[h]?=some o/\((h<n/\Hv[h]?=some .dead)\/m<=h))
theorem ane{n m:Nat}{ρ ρ1:List Value}(hl:ρ1.length=m)(hm:m<=ρ.length)(k:Nat):(ρ1++ρ.drop m)[k]?=if k<m then ρ1[k]? else ρ[k]?:=by
 by_cases h:k<m
 ·rw[cz h,dL (by omega)]
 ·rw[aw h,eA (by omega),gK];congr 1;omega
theorem aU.join{n m n0:Nat}{H Hv H1 Hf:List (Ob K)}{ρ1:List Value}{S1:Nat->Prop}{w1:World}(hs:aU D ρ S w H)(v:View n H Hv)(hs1:aU D ρ1 S1 w1 H1)(st:Step D n (ρ.take n) S Hv w ρ1 S1 H1 w1)(j:Joined n m H Hv H1 Hf)
 (hd:∀h,n<=h->h<m->ρ[h]?=some dummy) (hn0:n0<=n):aU D (ρ1++ρ.drop m) S1 w1 Hf/\Step D n0 ρ S H w (ρ1++ρ.drop m) S1 Hf w1/\∀(h:Nat) r,ρ[h]?=some r->r≠dummy->(ρ1++ρ.drop m)[h]?=some r:=by
 have hl1:ρ1.length=m:=by rw[hs1.len,j.len1]
 have aEV:m<=ρ.length:=by rw[hs.len];exact j.leN
 have hρ:∀k,(ρ1++ρ.drop m)[k]?=if k<m then ρ1[k]? else ρ[k]?:=ane (n:=n) hl1 aEV
 have hpre:∀h,h<n->ρ1[h]?=ρ[h]?:=fun h hh=>by rw[st.pre h hh,dW,cz hh]
 have hmono:∀(h:Nat) r,ρ[h]?=some r->r≠dummy->(ρ1++ρ.drop m)[h]?=some r:=fun h r hr hne=>by
  rw[hρ];by_cases h1:h<m
  ·rw[cz h1];by_cases h2:h<n
   ·rw[hpre h h2];exact hr
   ·rw[hd h (by omega) h1]at hr;exact absurd (jl hr).symm hne
  ·rw[aw h1];exact hr
 have hun:∀{h:Nat}{o:Ob K}{r:Value}{b:Nat},H[h]?=some o->o.live=true->ρ[h]?=some r->cD D w o r b->((h<n/\Hv[h]?=some .dead)\/m<=h)->¬Own D w (ρ.take n) Hv b:=fun{h o r b} h1 h2 h3 h4 h5 ho=>by
  obtain⟨h',o',r',g1,g2,g3,g4⟩:=ho;have g3':ρ[h']?=some r':=by rw[dW,cz (v.lt g1)]at g3;exact g3
  have e:=hs.eY h h' o o' r r' b h1 h2 h3 h4 (v.live g1 g2) g2 g3' g4;subst e;rcases h5 with⟨-,h5⟩|h5
  ·rw[g1]at h5;simp at h5;subst h5;cases g2
  ·have:=v.lt g1;have:=j.le;omega
 have hblk:∀{h:Nat}{o:Ob K}{r:Value}{b:Nat},H[h]?=some o->o.live=true->ρ[h]?=some r->cD D w o r b->b<w.heap.size/\¬S b:=fun{h o r b} h1 h2 h3 h4=>hs.lt b ⟨h,o,r,h1,h2,h3,h4⟩
 have hkp:∀{h:Nat}{o:Ob K}{r:Value},H[h]?=some o->o.live=true->ρ[h]?=some r->((h<n/\Hv[h]?=some .dead)\/m<=h)->∀b,cD D w o r b->w1.heap[b]?=w.heap[b]?:=fun{h o r} h1 h2 h3 h5 b h4=>st.old b (hblk h1 h2 h3 h4).1 (hun h1 h2 h3 h4 h5)
 have hrr:∀{h:Nat}{o:Ob K}{r:Value},H[h]?=some o->((h<n/\Hv[h]?=some .dead)\/m<=h)->(ρ1++ρ.drop m)[h]?=some r->ρ[h]?=some r:=fun{h o r} _ h5 hr=>by
  rw[hρ]at hr;rcases h5 with⟨h5,-⟩|h5
  ·rw[cz (by have:=j.le;omega),hpre h h5]at hr;exact hr
  ·rw[aw (by omega)]at hr;exact hr
 have hown:∀b,Own D w1 (ρ1++ρ.drop m) Hf b->Own D w1 ρ1 H1 b\/∃(h:Nat)(o:Ob K)(r:Value),H[h]?=some o/\o.live=true/\ρ[h]?=some r/\cD D w o r b/\((h<n/\Hv[h]?=some .dead)\/m<=h):=fun b hb=>by
  obtain⟨h,o,r,g1,g2,g3,g4⟩:=hb;rcases j.ob h o g1 with⟨k1,k2⟩|⟨k1,k2⟩
  ·rw[hρ,cz k1]at g3;exact .inl ⟨h,o,r,k2,g2,g3,g4⟩
  ·exact .inr ⟨h,o,r,k1,g2,hrr k1 k2 g3,g4.old (hkp k1 g2 (hrr k1 k2 g3) k2),k2⟩
 have hnew:∀b,Own D w1 ρ1 H1 b->Own D w (ρ.take n) Hv b\/w.heap.size<=b:=st.own;refine⟨⟨?_,?_,?_,?_,hs1.slt,hs1.base⟩,⟨st.os,st.tape,st.output,st.size,fun b hb ho=>st.old b hb fun h=>ho (v.own h),fun b hb=>?_,st.s1,fun b hb=>?_,fun h hh=>?_⟩,hmono⟩
 ·rw[bq,List.length_drop,hl1,hs.len,j.len];have:=j.leN;omega
 ·intro h o r g1 g2;rcases j.ob h o g1 with⟨k1,k2⟩|⟨k1,k2⟩
  ·rw[hρ,cz k1]at g2;refine(hs1.ob h o r k2 g2).mono' (fun _ h=>h) (fun _ _=>rfl) (fun h' r' hr' _=>?_) (fun _ _ _=>rfl);have:h'<m:=by have:=(bc.1 hr').1;omega
   rw[hρ,cz this];exact hr'
  ·have g2':=hrr k1 k2 g2;exact(hs.ob h o r k1 g2').mono' st.s1 (fun b hb=>st.old b (hs.slt b hb) fun ho=>(hs.lt b (v.own ho)).2 hb) hmono fun b hl hbk=>st.old b (hblk k1 hl g2' hbk).1 (hun k1 hl g2' hbk k2)
 ·intro h h' o o' r r' b g1 g2 g3 g4 g5 g6 g7 g8;rcases j.ob h o g1 with⟨k1,k2⟩|⟨k1,k2⟩<;>rcases j.ob h' o' g5 with⟨l1,l2⟩|⟨l1,l2⟩
  ·rw[hρ,cz k1]at g3;rw[hρ,cz l1]at g7;exact hs1.eY h h' o o' r r' b k2 g2 g3 g4 l2 g6 g7 g8
  ·rw[hρ,cz k1]at g3;have SJ:=hrr l1 l2 g7;have g8:=g8.old (hkp l1 g6 SJ l2);rcases hnew b ⟨h,o,r,k2,g2,g3,g4⟩with ho|ho
   ·exact absurd ho (hun l1 g6 SJ g8 l2)
   ·have:=(hblk l1 g6 SJ g8).1;omega
  ·rw[hρ,cz l1]at g7;have g3':=hrr k1 k2 g3;have g4:=g4.old (hkp k1 g2 g3' k2);rcases hnew b ⟨h',o',r',l2,g6,g7,g8⟩with ho|ho
   ·exact absurd ho (hun k1 g2 g3' g4 k2)
   ·have:=(hblk k1 g2 g3' g4).1;omega
  ·exact hs.eY h h' o o' r r' b k1 g2 (hrr k1 k2 g3) (g4.old (hkp k1 g2 (hrr k1 k2 g3) k2)) l1 g6 (hrr l1 l2 g7) (g8.old (hkp l1 g6 (hrr l1 l2 g7) l2))
 ·intro b hb;rcases hown b hb with ho|⟨h,o,r,k1,k2,k3,k4,k5⟩
  ·exact hs1.lt b ho
  ·obtain⟨a1,a2⟩:=hblk k1 k2 k3 k4;refine⟨ml a1 st.size,fun hS=>?_⟩;rcases st.s2 b hS with h1|h1|h1
   ·exact a2 h1
   ·exact hun k1 k2 k3 k4 k5 h1
   ·omega
 ·rcases hown b hb with ho|⟨h,o,r,k1,k2,k3,k4,-⟩
  ·rcases hnew b ho with h1|h1
   ·exact .inl (v.own h1)
   ·exact .inr h1
  ·exact .inl ⟨h,o,r,k1,k2,k3,k4⟩
 ·rcases st.s2 b hb with h1|h1|h1
  ·exact .inl h1
  ·exact .inr (.inl (v.own h1))
  ·exact .inr (.inr h1)
 ·rw[hρ,cz (by have:=j.le;omega),hpre h (by omega)]
end Go.V
namespace Go.V
open Go
variable {K :dc}{H H':List (Ob K)}
def cA(T:List Nat)(H H':List (Ob K)):Prop:=H.length<=H'.length/\∀h,h<H.length->h∉T->H'[h]?=H[h]?
theorem cA.refl(T:List Nat)(H:List (Ob K)):cA T H H:=⟨eL _,fun _ _ _=>rfl⟩
theorem cA.app(T:List Nat)(H N:List (Ob K)):cA T H (H++N):=⟨by simp,fun h hh _=>dL hh⟩
theorem cA.trans{T:List Nat}{H H1 H2:List (Ob K)}(a:cA T H H1)(b:cA T H1 H2):cA T H H2:=
 ⟨cq a.1 b.1,fun h hh hn=>(b.2 h (ml hh a.1) hn).trans (a.2 h hh hn)⟩
theorem cA.set{T:List Nat}{H:List (Ob K)}{h:Nat}(o:Ob K)(hT:h∈T):cA T H (H.set h o):=
 ⟨by simp,fun k _ hn=>List.getElem?_set_ne (fun e=>hn (by rw[<-e];exact hT))⟩
theorem cA.more{T T':List Nat}{H H1:List (Ob K)}(a:cA T H H1)(h:∀x∈T,x∈T'):cA T' H H1:=⟨a.1,fun k hk hn=>a.2 k hk fun hm=>hn (h k hm)⟩
theorem SK(dp:K.U->Bool):∀(cs:List (Option K.U))(l:List (AV K))(H:List (Ob K)),∃N,(thaw dp H cs l).2=H++N
 |[],l,H=>⟨[],by simp[thaw]⟩
 |some c::cs,[],H=>⟨[],by simp[thaw]⟩
 |none::cs,[],H=>⟨[],by simp[thaw]⟩
 |oc::cs,v::r,H=>by
  have keep:thaw dp H (oc::cs) (v::r)=(v::(thaw dp H cs r).1,(thaw dp H cs r).2)->∃N,(thaw dp H (oc::cs) (v::r)).2=H++N:=fun e=>by
   rw[e];exact SK dp cs r H
  cases oc with
  |none=>exact keep (by cases v<;>rfl)
  |some c=>
   cases v with
   |di=>
    have e:thaw dp H (some c::cs) (.di::r)=(.sl H.length::(thaw dp (H++[nV (dp c) c]) cs r).1,(thaw dp (H++[nV (dp c) c]) cs r).2):=rfl;rw[e];obtain⟨N,hN⟩:=SK dp cs r (H++[nV (dp c) c]);exact⟨nV (dp c) c::N,by simp only;rw[hN];simp⟩
   |_=>exact keep rfl
theorem SL(T:List Nat)(dp:K.U->Bool)(cs:List (Option K.U))(l:List (AV K))(H:List (Ob K)):cA T H (thaw dp H cs l).2:=by
 obtain⟨N,hN⟩:=SK dp cs l H;rw[hN];exact cA.app _ _ _
theorem aEW{T:List Nat}{h:Nat}(hT:h∈T)(H:List (Ob K)):cA T H (xN H h):=by
 unfold xN;split
 ·exact cA.set _ hT
 ·exact cA.set _ hT
 ·exact cA.refl _ _
theorem Nq{T:List Nat}:∀(l:List Nat)(H:List (Ob K)),(∀x∈l,x∈T)->cA T H (jn H l)
 |[],H,_=>cA.refl _ _
 |h::r,H,hT=>(aEW (hT h (by simp)) H).trans (Nq r _ fun x hx=>hT x (by simp[hx]))
def rV(ev:Operand->AV K)(op:Op):List Nat:=(match op with
    |.store _ p _=>hands (ev p)
    |.convert _ _ x=>hands (ev x)
    |.call {callee:=.builtin .append,args, ..}=>(match args.toList with
      |s::x::_=>hands (ev s)++hands (ev x)
      |[s]=>hands (ev s)
      |[]=>[])
    |.call {callee:=.builtin .clear,args, ..}=>(match args.toList with
      |s::_=>hands (ev s)
      |[]=>[])
    |.call {callee:=.builtin .copy,args, ..}=>(match args.toList with
      |s::_=>hands (ev s)
      |[]=>[])
    |_=>[])
theorem aEX{cx:Cx K}{sT:TypeId}{s x v:AV K}{c:Bool}{t:List Nat}(h:FY cx H sT s x=some (v,H',c,t)):cA (hands s) H H':=by unfold FY at h;cases h
theorem aEY{cx:Cx K}{sT:TypeId}{s x v:AV K}{c:Bool}{t:List Nat}(h:ME cx H sT s x=some (v,H',c,t)):cA (hands s) H H':=by
 unfold ME at h;split at h
 ·cases h
 ·split at h
  ·cases h
  ·split at h
   ·split at h
    ·cases h
    ·split at h
     ·simp only[aD,cw]at h;rw[<-h.2.1];exact cA.app _ _ _
     ·split at h
      ·split at h
       ·cases h
       ·split at h
        ·simp only[aD,cw]at h;rw[<-h.2.1];exact(cA.set _ (by simp[hands])).trans (cA.app _ _ _)
        ·cases h
      ·split at h
       ·simp only[aD,cw]at h;rw[<-h.2.1];exact(cA.set _ (by simp[hands])).trans (cA.app _ _ _)
       ·cases h
     ·cases h
   ·cases h
theorem anf{cx:Cx K}{ev:Operand->AV K}{op:Op}{v:AV K}{c:Bool}{t:List Nat}(h:xP cx ev H op=some (v,H',c,t)):cA (rV ev op) H H':=by
 unfold xP at h;split at h
 ·split at h
  ·dsimp only at h;split at h
   ·cases h
   ·simp only[aD,cw]at h;rw[<-h.2.1];exact(SL _ _ _ _ _).trans (cA.app _ _ _)
  ·cases h
 ·split at h
  ·split at h
   ·dsimp only at h;split at h
    ·cases h
    ·simp only[aD,cw]at h;rw[<-h.2.1];exact(SL _ _ _ _ _).trans (cA.app _ _ _)
   ·cases h
  ·split at h
   ·simp only[aD,cw]at h;rw[<-h.2.1];exact cA.app _ _ _
   ·cases h
 ·split at h
  ·split at h
   ·simp only[fw,cw]at h;obtain⟨cs,-,-,rfl,-⟩:=h;exact cA.refl _ _
   ·cases h
  ·cases h
 ·split at h
  ·split at h
   ·split at h
    ·rename_i hh off hp;split at h
     ·split at h
      ·dsimp only at h;split at h
       ·cases h
       ·simp only[aD,cw]at h;rw[<-h.2.1];refine(SL _ _ _ _ _).trans (cA.set _ ?_);simp only[rV,hp,hands,zN]
      ·cases h
     ·cases h
    ·rename_i hh st i off hp;split at h
     ·split at h
      ·split at h
       ·simp only[aD,cw]at h;rw[<-h.2.1];refine cA.set _ ?_;simp only[rV,hp,hands,zN]
       ·cases h
      ·cases h
     ·cases h
    ·cases h
   ·cases h
  ·cases h
 ·split at h
  ·cases h
  ·split at h
   ·split at h
    ·split at h
     ·simp only[aD,cw]at h;rw[<-h.2.1];exact cA.app _ _ _
     ·cases h
    ·cases h
   ·cases h
 ·split at h
  ·cases h
  ·split at h
   ·split at h
    ·split at h
     ·simp only[aD,cw]at h;rw[<-h.2.1];exact cA.app _ _ _
     ·cases h
    ·cases h
   ·cases h
 ·split at h
  ·split at h
   ·split at h
    ·split at h
     ·simp only[aD,cw]at h;rw[<-h.2.1];exact cA.app _ _ _
     ·cases h
    ·cases h
   ·cases h
  ·split at h
   ·split at h
    ·simp only[aD,cw]at h;rw[<-h.2.1];exact cA.refl _ _
    ·cases h
   ·cases h
  ·cases h
 ·simp only[aD,cw]at h;rw[<-h.2.1];exact cA.app _ _ _
 ·split at h
  ·rename_i s x sT xT ha ht;split at h
   ·cases h
   split at h
   ·refine(aEX h).more fun y hy=>?_
    simp only[rV,ha];exact dB.2 (.inl hy)
   ·refine(aEY h).more fun y hy=>?_
    simp only[rV,ha];exact dB.2 (.inl hy)
  ·cases h
 ·cases h
mutual
theorem mw:∀(v:AV K){y:Nat},y∈hands (eC H v)->y∈hands v
 |.sl k,y,h=>by
   simp only[eC]at h;split at h
   ·simp[hands]at h
   ·exact h
 |.vw k a b c,y,h=>by
   simp only[eC]at h;split at h
   ·split at h
    ·simp[hands]at h
    ·exact h
   ·exact h
 |.agg l,y,h=>by simp only[eC,hands]at h⊢;exact SN l h
 |.bQ l,y,h=>by simp only[eC,hands]at h⊢;exact SN l h
 |.any,y,h|.int _ _,y,h|.bool _,y,h|.str _,y,h|.dt,y,h|.di,y,h|.mp,y,h|.fn _ _,y,h|.ptr _ _,y,h|.ep _ _ _ _,y,h|.ah _ _,y,h|.rp _ _ _,y,h|.np _,y,h|.opt _ _ _,y,h=>by simpa only[eC]using h
theorem SN:∀(l:List (AV K)){y:Nat},y∈ct (qn H l)->y∈ct l
 |[],y,h=>by simpa [qn]using h
 |v::r,y,h=>by
  simp only[qn,ct,dB]at h⊢;exact h.imp (mw v) (SN r)
end
theorem ang{ev:Operand->AV K}{op:Op}{y:Nat}(h:y∈rV (fun x=>eC H (ev x)) op):y∈rV ev op:=by
 unfold rV at h⊢;split at h
 ·exact mw _ h
 ·exact mw _ h
 ·split at h
  ·rename_i hs;rcases dB.1 h with h|h
   ·exact dB.2 (.inl (mw _ h))
   ·exact dB.2 (.inr (mw _ h))
  ·exact mw _ h
  ·simp at h
 ·split at h
  ·exact mw _ h
  ·simp at h
 ·split at h
  ·exact mw _ h
  ·simp at h
 ·simp at h
theorem Nr{T:List Nat}:∀(l:List Nat)(H:List (Ob K)),(∀x∈l,x∈T)->cA T H (gu H l)
 |[],H,_=>cA.refl _ _
 |h::r,H,hT=>(cA.set _ (hT h (by simp))).trans (Nr r _ fun x hx=>hT x (by simp[hx]))
theorem anh{c:K.U}{v:AV K}{l:List (K.El c)}{ks:List Nat}(h:rI H c v=some (l,ks)):∀x∈ks,x∈hands v:=fun x hx=>by
 unfold rI at h;split at h
 ·simp only[aD,cw]at h;obtain⟨rfl,rfl⟩:=h;cases hx
 ·split at h
  ·split at h
   ·simp only[aD,cw]at h;obtain⟨-,rfl⟩:=h;simpa [hands]using hx
   ·cases h
  ·cases h
 ·cases h
theorem ani{ev:Operand->AV K}{x:Nat}:∀(l:List (Nat×Operand)),x∈ct (l.map fun p=>eC H (ev p.2))->x∈ct (l.map fun p=>ev p.2)
 |[],h=>h
 |y::r,h=>by
  simp only[fB,ct,dB]at h⊢;exact h.imp (mw _) (ani r)
theorem aE0{cx:Cx K}{ev:Operand->AV K}{op:Op}{v:AV K}{c:Bool}{t:List Nat}(h:Aq cx (fun x=>eC H (ev x)) H op=some (v,H',c,t)):cA (mQ ev op) H H':=by
 unfold Aq at h;split at h
 ·rename_i T len parts;split at h
  ·cases h
  ·split at h
   ·rename_i hty hl;split at h
    ·split at h
     ·split at h
      ·simp only[aD,cw]at h;rw[<-h.2.1];refine cA.trans (Nr _ _ fun x hx=>?_) (cA.app _ _ _);rw[(M6 _ _ _ hl).1]at hx;simp only[mQ,rF,FD];exact ani _ hx
      ·cases h
     ·cases h
    ·cases h
   ·cases h
 ·rename_i args argTypes;split at h
  ·rename_i s x sT xT hargs hat;split at h
   ·cases h
   ·split at h
    ·cases h
    ·split at h
     ·cases h
     ·split at h
      ·split at h
       ·rename_i l ks m ks' hl hm;split at h
        ·simp only[aD,cw]at h;rw[<-h.2.1];refine cA.trans (Nr _ _ fun y hy=>?_) (cA.app _ _ _);simp only[mQ,rF,hargs,jb,dB];rcases dB.1 hy with hy|hy
         ·exact .inl (mw _ (anh hl y hy))
         ·exact .inr (mw _ (anh hm y hy))
        ·cases h
       ·cases h
      ·cases h
  ·cases h
 ·cases h
theorem aE1{cx:Cx K}{ev:Operand->AV K}{op:Op}{v:AV K}{c:Bool}{t:List Nat}(h:Au cx ev H op=some (v,H',c,t)):cA (mQ ev op) H H':=by
 have e:mQ ev op=rF ev op++rV ev op:=rfl;unfold Au at h;split at h
 ·rename_i r hd;simp only[aD]at h;subst h;exact aE0 hd
 split at h
 ·refine(anf h).more fun y hy=>?_
  rw[e,dB];exact .inr (ang hy)
 ·have hz:cA (mQ ev op) H (jn H (rF ev op)):=Nq _ _ fun x hx=>by rw[e,dB];exact .inl hx
  split at h
  ·simp only[aD,cw]at h;rw[<-h.2.1];exact hz
  ·refine hz.trans ((anf h).more fun y hy=>?_);rw[e,dB];exact .inr (ang hy)
theorem aE2{cx:Cx K}{ev:Operand->AV K}{op:Op}{v:AV K}{c:Bool}{t:List Nat}(h:cutV cx ev H op=some (v,H',c,t)):cA (mQ ev op) H H':=by
 unfold cutV at h;split at h
 ·split at h
  ·split at h
   ·rename_i hx hy he;split at h
    ·split at h
     ·simp only[aD,cw]at h;rw[<-h.2.1];refine cA.trans (cA.set _ ?_) (cA.app _ _ _);simp[mQ,rF,hx]
     ·cases h
    ·cases h
   ·cases h
  ·cases h
 ·cases h
theorem SO{cx:Cx K}{m:Mode}(hm:m=.iV\/m=.fresh){T:List Nat}{f:FuncId}{args:List (AV K)}{v:AV K}{c:Bool}{t:List Nat}(h:lR cx m H f args=some (v,H',c,t)):cA T H H':=by
 unfold lR at h;rcases hm with rfl|rfl
 ·simp only at h;split at h
  ·split at h
   ·split at h
    ·simp only[aD,cw]at h;rw[<-h.2.1];exact cA.app _ _ _
    ·cases h
   ·cases h
  ·cases h
 ·simp only at h;split at h
  ·split at h
   ·split at h
    ·split at h
     ·simp only[aD,cw]at h;rw[<-h.2.1];exact cA.app _ _ _
     ·cases h
    ·cases h
   ·cases h
  ·cases h
theorem anj:∀(m:List Nat)(H os:List (Ob K)){T:List Nat},(∀x∈m,x∈T)->cA T H (jH H m os)
 |[],H,os,T,_=>by cases os<;>exact cA.refl _ _
 |h::m,H,[],T,_=>cA.refl _ _
 |h::m,H,o::r,T,hm=>by
  simp only[jH];exact cA.trans (cA.set _ (hm h (by simp))) (anj m _ r fun x hx=>hm x (by simp[hx]))
theorem ank{cx:Cx K}{T:List Nat}{f:FuncId}{args:List (AV K)}{v:AV K}{c:Bool}{t:List Nat}(h:lR cx .pass H f args=some (v,H',c,t))(hT:∀x∈reach H 64 (ct args) [],x∈T):cA T H H':=by
 unfold lR at h;simp only at h;split at h
 ·cases h
 ·split at h
  ·split at h
   ·split at h
    ·split at h
     ·simp only[aD,cw]at h;rw[<-h.2.1];exact cA.trans (anj _ _ _ hT) (cA.app _ _ _)
     ·cases h
    ·cases h
   ·cases h
  ·cases h
theorem aE3{cx:Cx K}{ev:Operand->AV K}{t:TypeId}{p:Operand}{v:AV K}{c:Bool}{ts:List Nat}(h:Ar cx ev H (.load t p)=some (v,H',c,ts)):cA (hands (ev p)) H H':=by unfold Ar at h;cases h
theorem aE4{cx:Cx K}{tm:List (AV K)}{T t:TypeId}{p:Operand}{v:AV K}{c:Bool}{ts:List Nat}(hn:jo cx (.load t p)=false)(h:lS false cx tm [] H T (.load t p)=some (v,H',c,ts)):
 cA (match xO cx (fun x=>eC H (dM tm [] x)) H (.load t p)with
  |some _=>[]
  |none=>hands (dM tm [] p)) H H':=by
 unfold lS at h;simp only at h;split at h
 ·rename_i v1 c1 hp;rw[hp];simp only[aD,cw]at h;rw[<-h.2.1];exact cA.refl _ _
 ·rename_i hp;rw[hp];simp only[eS,gU,hn]at h;split at h
  ·rename_i hov;simp only[aD]at h;rw[h]at hov;exact aE3 hov
  ·split at h
   ·rename_i hct;simp[cutV]at hct
   ·simp[Au,Aq,rF,xP]at h
theorem aE5{cx:Cx K}{tm:List (AV K)}{gs:List (Nat×Bool)}{T:TypeId}{op:Op}{v:AV K}{c:Bool}{t:List Nat}(he:uF cx op=true)(hnl:∀a b,op≠.load a b)(h:lS false cx tm gs H T op=some (v,H',c,t)):cA ((mQ (dM tm gs) op++Q4 (dM tm gs) op)++Av cx H (dM tm gs) op) H H':=by
 unfold lS at h;split at h
 ·simp[uF]at he
 ·rename_i fo args _;cases fo with
  |func f=>
   have hf:(cx.mode f=.fresh\/(cx.mode f=.pass\/cx.mode f=.eV))/\(cx.opn=false\/cx.lz=true):=by simpa [uF]using he
   have Ss:(cx.opn&& !cx.lz&& !false)=false:=by rcases hf.2 with e|e<;>simp[e]
   have e:dM tm gs (.func f)=(.fn f []:AV K):=rfl;rw[e]at h;simp only[As,Ss,eS,gU,FD]at h
   replace hf:=hf.1
   rcases hf with hf|hf|hf
   rotate_left
   ·simp only[rH,hf,eS,gU]at h;refine ank h fun x hx=>dB.2 (.inr ?_)
    simp only[Av,hf];exact hx
   ·simp only[rH,hf,eS,gU,xX]at h;refine cA.trans (Nq _ _ fun x hx=>dB.2 (.inr ?_)) (ank h fun x hx=>dB.2 (.inr ?_))
    ·simp only[Av,hf];exact dB.2 (.inl hx)
    ·simp only[Av,hf];exact dB.2 (.inr hx)
   simp only[rH,hf,eS,gU]at h;split at h
   ·rename_i hc;simp only[aD]at h;rw[h]at hc;exact SO (.inl rfl) hc
   ·split at h
    ·rename_i hc;simp only[aD]at h;rw[h]at hc;exact SO (.inr rfl) hc
    ·unfold xX at h;refine cA.trans (Nq _ _ fun x hx=>?_) (SO (.inl rfl) h);refine dB.2 (.inl (dB.2 (.inr ?_)));have key:∀l:List Operand,x∈ct (l.map fun y=>eC H (dM tm gs y))->x∈ct (l.map (dM tm gs)):=fun l=>by
      induction l with
      |nil=>exact fun h=>h
      |cons y r ih=>
       simp only[fB,ct,dB];exact fun h=>h.imp (mw _) ih
     exact key _ hx
  |_=>simp[uF]at he
 ·simp[uF]at he
 ·split at h
  ·simp only[aD,cw]at h;rw[<-h.2.1];exact cA.refl _ _
  ·rw[aw (by simp)]at h;split at h
   ·cases h
   ·split at h
    ·rename_i hov;exfalso;unfold Ar at hov;cases hov
    split at h
    ·rename_i hct;simp only[aD]at h;rw[h]at hct;exact(aE2 hct).more fun x hx=>dB.2 (.inl (dB.2 (.inl hx)))
    ·exact(aE1 h).more fun x hx=>dB.2 (.inl (dB.2 (.inl hx)))
theorem anl:∀(l:List Nat)(h:Nat),(bitsOf l).testBit h=true↔h∈l
 |[],h=>by simp[bitsOf]
 |k::r,h=>by
  simp only[bitsOf,Ab,gq,anl r,Nat.testBit_two_pow,bw,gz];exact⟨fun h=>h.imp Eq.symm id,fun h=>h.imp Eq.symm id⟩
theorem anm{A:Nat}:∀(ws:List Nat)(i h:Nat),(Ax A i ws).testBit h=true↔∃(k:Nat)(b:Nat),ws[k]?=some b/\A.testBit (i+k)=false/\b.testBit h=true
 |[],i,h=>by simp[Ax]
 |b::r,i,h=>by
  simp only[Ax,Ab,gq,anm r];constructor
  ·rintro (h1|⟨k,b',h1,h2,h3⟩)
   ·split at h1
    ·simp at h1
    ·rename_i hA;exact⟨0,b,rfl,by simpa using hA,h1⟩
   ·exact⟨k+1,b',by simpa using h1,by rw[show i+(k+1)=i+1+k by omega];exact h2,h3⟩
  ·rintro ⟨k,b',h1,h2,h3⟩
   cases k with
   |zero=>simp at h1;subst h1;left;rw[aw (by simpa using h2)];exact h3
   |succ k=>exact .inr ⟨k,b',by simpa using h1,by rw[show i+1+k=i+(k+1) by omega];exact h2,h3⟩
theorem ann{A:Nat}{T:List Nat}:∀(ms:List (Nat×Nat))(i:Nat),MH A T i ms=true->∀(k m n:Nat),ms[k]?=some (m,n)->A.testBit (i+k)=false->∀h∈T,h<n->m.testBit h=true
 |[],i,_,k,m,n,h,_=>by simp at h
 |(m0,n0)::r,i,hr,k,m,n,hk,hA=>by
  simp only[MH,bD,gq,dr,bw]at hr;cases k with
  |zero=>
   simp at hk;obtain⟨rfl,rfl⟩:=hk;intro h hT hn;rcases hr.1 with h1|h1
   ·rw[Nat.add_zero]at hA;rw[hA]at h1;cases h1
   ·rcases h1 h hT with h2|h2
    ·omega
    ·exact h2
  |succ k=>exact ann r (i+1) hr.2 k m n (by simpa using hk) (by rw[show i+1+k=i+(k+1) by omega];exact hA)
end Go.V
namespace Go.V
open Go
variable {K :dc}{H H':List (Ob K)}
theorem ano{cx:Cx K}{tm:List (AV K)}{T:TypeId}{op:Op}{v:AV K}{c:Bool}{t:List Nat}(he:uF cx op=true)(hq:nU cx op=false)(h:lS false cx tm [] H T op=some (v,H',c,t)):cA (qq cx tm H op) H H':=by
 by_cases hl:∃a b,op=.load a b
 ·obtain⟨a,b,rfl⟩:=hl;have:qq cx tm H (.load a b)=(match xO cx (fun x=>eC H (dM tm [] x)) H (.load a b)with
   |some _=>[]
   |none=>hands (dM tm [] b)):=by unfold qq;rw[hq];rfl
  rw[this];exact aE4 hq h
 ·have:qq cx tm H op=(mQ (dM tm []) op++Q4 (dM tm []) op)++Av cx H (dM tm []) op:=by
   unfold qq;rw[hq];simp only[eS,gU];split
   ·rename_i a b;exact absurd ⟨a,b,rfl⟩ hl
   ·rfl
  rw[this];exact aE5 he (fun a b e=>hl ⟨a,b,e⟩) h
theorem aE6{cx:Cx K}{ops:List Oper}{tm:List (AV K)}{wr:List Nat}{o:Oper}{v:AV K}{c:Bool}(h:Aw cx ops tm H wr o=some (v,H',c)):cA (qq cx tm H o.op) H H':=by
 unfold Aw at h;split at h
 ·rename_i hq;have:H'=H:=by
   unfold iY at h;split at h
   ·cases h
   ·split at h
    ·rename_i hy;split at h
     ·cases h
     ·simp only[aD,cw]at h;obtain⟨-,rfl,-⟩:=h;exact AP hy
    ·cases h
   ·split at h
    ·split at h
     ·split at h
      ·split at h
       ·rename_i hy;split at h
        ·cases h
        ·simp only[aD,cw]at h;obtain⟨-,rfl,-⟩:=h;exact AP hy
       ·cases h
      ·simp only[aD,cw]at h;exact h.2.1.symm
     ·cases h
    split at h
    ·cases h
    ·split at h
     ·split at h
      ·simp only[aD,cw]at h;exact h.2.1.symm
      ·cases h
     ·cases h
  subst this;exact cA.refl _ _
 ·rename_i hq;split at h
  ·rename_i he;have hq':nU cx o.op=false:=by simpa using hq
   unfold iY at h;split at h
   ·cases h
   ·split at h
    ·rename_i hy;split at h
     ·cases h
     ·simp only[aD,cw]at h;obtain⟨-,rfl,-⟩:=h;exact ano he hq' hy
    ·cases h
   ·split at h
    ·split at h
     ·split at h
      ·split at h
       ·rename_i hy;split at h
        ·cases h
        ·simp only[aD,cw]at h;obtain⟨-,rfl,-⟩:=h;exact ano he hq' hy
       ·cases h
      ·simp only[aD,cw]at h;rw[<-h.2.1];exact cA.refl _ _
     ·cases h
    split at h
    ·cases h
    ·split at h
     ·split at h
      ·simp only[aD,cw]at h;rw[<-h.2.1];exact cA.refl _ _
      ·cases h
     ·cases h
  ·cases h
structure lg (K:dc) where
 vals:Nat->AV K
 hin:Nat->List (Ob K)
 hout:Nat->List (Ob K)
 mask:Nat->Nat
 T:Nat->List Nat
def lg.W(F:lg K)(k h:Nat):Prop:=h∈F.T k\/((F.hin k).length<=h/\h<(F.hout k).length)
structure AT (cx:Cx K) (L:List Oper) (bs:List Nat) (bY:List (AV K)) (F:lg K) (i:Nat) (o:Oper) (de:List (AV K)) (dU:List Nat):Prop where
 slot:Aw cx L (eJ (ajF bs i) L 0 de) (iZ (F.mask i) 0 (F.hin i)) dU o=some (F.vals i,F.hout i,true)
 up:qp (F.hin i).length (eJ (ajF bs i) L 0 de)=true
 Ns:(iZ (F.mask i) 0 (F.hin i)).all (Ob.upto (F.hin i).length)=true
 turns:cA (F.T i) (iZ (F.mask i) 0 (F.hin i)) (F.hout i)
 len:de.length=bY.length
 fin:∀(k:Nat) o' d,L[k]?=some o'->o'.dst=some d->k<i->de[d]?=some (F.vals k)
 rest:∀t,(∀(k:Nat) o,k<i->L[k]?=some o->o.dst≠some t)->de[t]?=bY[t]?
 dU:∀d∈dU,∃(k:Nat)(o':Oper),k<i/\L[k]?=some o'/\o'.dst=some d
structure gJ (cx:Cx K) (L:List Oper) (bs:List Nat) (H0:List (Ob K)) (bY:List (AV K)) (F:lg K) (n:Nat) (tm:List (AV K)) (H:List (Ob K)) (wr:List Nat) (ms:List (Nat×Nat)) (ws:List Nat):Prop where
 len:tm.length=bY.length
 uniq:∀(i j:Nat) o o' d,i<n->j<n->L[i]?=some o->L[j]?=some o'->o.dst=some d->o'.dst=some d->i=j
 inb:∀(i:Nat) o d,i<n->L[i]?=some o->o.dst=some d->d<bY.length
 fin:∀(i:Nat) o d,i<n->L[i]?=some o->o.dst=some d->tm[d]?=some (F.vals i)
 rest:∀t,(∀(k:Nat) o,k<n->L[k]?=some o->o.dst≠some t)->tm[t]?=bY[t]?
 mS:∀d,d∈wr↔∃(k:Nat)(o':Oper),k<n/\L[k]?=some o'/\o'.dst=some d
 slot:∀(i:Nat) o,i<n->L[i]?=some o->∃de dU,AT cx L bs bY F i o de dU
 h0:F.hin 0=H0
 hn:F.hin n=H
 hs:∀i,i<n->F.hin (i+1)=kY (F.mask i) 0 (F.hin i) (F.hout i)/\(F.hin i).length<=(F.hout i).length
 GF:ms.length=n
 GG:ws.length=n
 ms:∀i,i<n->ms[i]?=some (F.mask i,(F.hin i).length)
 ws:∀i,i<n->∃b,ws[i]?=some b/\∀h,b.testBit h=true↔F.W i h
 masks:∀i,i<n->∀h,(∃k,k<i/\(bs.getD i 0).testBit k=false/\F.W k h)->(F.mask i).testBit h=true
 clear:∀k,k<n->∀h∈F.T k,(F.mask k).testBit h=false/\h<(F.hin k).length
 readers:∀k,k<n->∀i,i<k->(bs.getD k 0).testBit i=false->∀h∈F.T k,h<(F.hin i).length->(F.mask i).testBit h=true
theorem SQ{cx:Cx K}{L:List Oper}{bs:List Nat}:∀(l:List Oper)(i:Nat)(st st':St K)(wr wr':List Nat)(ms:List (Nat×Nat))(ws:List Nat),rK cx L bs l i st wr ms ws=some (st',wr')->st'.ok=true->st.ok=true
 |[],i,st,st',wr,wr',ms,ws,h,hok=>by simp only[rK,aD,cw]at h;rw[h.1];exact hok
 |o::r,i,st,st',wr,wr',ms,ws,h,hok=>by
  simp only[rK]at h;split at h
  ·split at h
   ·cases h
   ·split at h
    ·split at h
     ·rename_i st1 iM hp;obtain⟨p1,p2,-⟩:=rU hp;have q1:=SQ r (i+1) st1 st' iM wr' _ _ h hok;rw[p2]at q1;simp only[bD]at q1;exact q1.2
     ·cases h
    ·cases h
  ·cases h
theorem anp{cx:Cx K}{L:List Oper}{bs:List Nat}{H0:List (Ob K)}{bY:List (AV K)}:∀(l:List Oper)(n:Nat)(st st':St K)(wr wr':List Nat)(ms:List (Nat×Nat))(ws:List Nat)(F:lg K),rK cx L bs l n st wr ms ws=some (st',wr')->st'.ok=true->
 (∀j,l[j]?=L[n+j]?)->n+l.length=L.length->gJ cx L bs H0 bY F n st.tm st.H wr ms ws->∃F' ms' ws',gJ cx L bs H0 bY F' L.length st'.tm st'.H wr' ms' ws'
 |[],n,st,st',wr,wr',ms,ws,F,h,hok,hl,hn,hp=>by
   simp only[rK,aD,cw]at h;obtain⟨rfl,rfl⟩:=h;simp at hn;subst hn;exact⟨F,ms,ws,hp⟩
 |o::r,n,st,st',wr,wr',ms,ws,F,h,hok,hl,hn,hp=>by
  have hLn:L[n]?=some o:=by have:=hl 0;simpa using this.symm
  simp only[rK]at h;split at h
  ·rename_i hup;simp only[bD]at hup;split at h
   ·cases h
   ·rename_i v H1 c hsv;split at h
    ·rename_i hrd;simp only[bD,bw]at hrd;split at h
     ·rename_i st1 iM hput;obtain⟨p1,p2,p3⟩:=rU hput;have hok1:=SQ r (n+1) st1 st' iM wr' _ _ h hok;rw[p2]at hok1;simp only[bD]at hok1;obtain⟨rfl,-⟩:=hok1;have aE7:=hp.hn
      let mk:=rJ bs ws n (eJ (ajF bs n) L 0 st.tm) st.H.length o.op
      let TT:=qq cx (eJ (ajF bs n) L 0 st.tm) (iZ mk 0 st.H) o.op
      let F':lg K:={vals:=fun i=>if i=n then v else F.vals i,hin:=fun i=>if i=n+1 then kY mk 0 st.H H1 else F.hin i,hout:=fun i=>if i=n then H1 else F.hout i,mask:=fun i=>if i=n then mk else F.mask i,T:=fun i=>if i=n then TT else F.T i}
      have ev:∀i,i<n->F'.vals i=F.vals i:=fun i hi=>by simp[F',show i≠n by omega]
      have eh:∀i,i<=n->F'.hin i=F.hin i:=fun i hi=>by simp[F',show i≠n+1 by omega]
      have eo:∀i,i<n->F'.hout i=F.hout i:=fun i hi=>by simp[F',show i≠n by omega]
      have em:∀i,i<n->F'.mask i=F.mask i:=fun i hi=>by simp[F',show i≠n by omega]
      have eT:∀i,i<n->F'.T i=F.T i:=fun i hi=>by simp[F',show i≠n by omega]
      have nv:F'.vals n=v:=by simp[F']
      have nh:F'.hin n=st.H:=by rw[eh n (eL _)];exact aE7
      have nh1:F'.hin (n+1)=kY mk 0 st.H H1:=by simp[F']
      have no:F'.hout n=H1:=by simp[F']
      have nm:F'.mask n=mk:=by simp[F']
      have nT:F'.T n=TT:=by simp[F']
      have eW:∀i,i<n->∀h,F'.W i h↔F.W i h:=fun i hi h=>by unfold lg.W;rw[eT i hi,eh i (by omega),eo i hi]
      have SG:AT cx L bs bY F' n o st.tm wr:=
       {slot:=by rw[nv,no,nm,nh];exact hsv
        up:=by rw[nh];exact hup.1
        Ns:=by rw[nm,nh];exact hup.2
        turns:=by rw[nT,nm,nh,no];exact aE6 hsv
        len:=hp.len
        fin:=fun k o' d h1 h2 h3=>by rw[ev k h3];exact hp.fin k o' d h3 h1 h2
        rest:=fun t ht=>hp.rest t fun k o' hk h1=>ht k o' hk h1
        dU:=fun d hd=>(hp.mS d).1 hd}
      have uT:∀(i:Nat) o1,i<n+1->L[i]?=some o1->∃de dU,AT cx L bs bY F' i o1 de dU:=fun i o1 hi ho1=>by
       by_cases hin:i=n
       ·subst hin;rw[hLn]at ho1;simp at ho1;subst ho1;exact⟨_,_,SG⟩
       ·have hlt:i<n:=by omega
        obtain⟨de,dU,a⟩:=hp.slot i o1 hlt ho1;exact⟨de,dU,{slot:=by rw[ev i hlt,eo i hlt,em i hlt,eh i (by omega)];exact a.slot,up:=by rw[eh i (by omega)];exact a.up,Ns:=by rw[em i hlt,eh i (by omega)];exact a.Ns,turns:=by rw[eT i hlt,em i hlt,eh i (by omega),eo i hlt];exact a.turns,len:=a.len,fin:=fun k o' d h1 h2 h3=>by rw[ev k (by omega)];exact a.fin k o' d h1 h2 h3,rest:=a.rest,dU:=a.dU}⟩
      have hmk:∀h,(∃k,k<n/\(bs.getD n 0).testBit k=false/\F'.W k h)->mk.testBit h=true:=fun h=>by
       rintro ⟨k,hk,h2,h3⟩
       rw[show mk=Ax (bs.getD n 0) 0 ws|||alN (eJ (ajF bs n) L 0 st.tm) st.H.length o.op from rfl,Ab,gq];refine .inl ?_;rw[anm];obtain⟨b',g1,g2⟩:=hp.ws k hk;exact⟨k,b',g1,by simpa using h2,(g2 h).2 ((eW k hk h).1 h3)⟩
      have base:gJ cx L bs H0 bY F' (n+1) st1.tm st1.H iM (ms++[(mk,st.H.length)]) (ws++[bitsOf (TT++List.range' st.H.length (H1.length-st.H.length))]):=by
       have c1:F'.hin 0=H0:=by rw[eh 0 (by omega)];exact hp.h0
       have c2:F'.hin (n+1)=st1.H:=by rw[nh1,p1]
       have c3:∀i,i<n+1->F'.hin (i+1)=kY (F'.mask i) 0 (F'.hin i) (F'.hout i)/\(F'.hin i).length<=(F'.hout i).length:=fun i hi=>by
        by_cases hin:i=n
        ·subst hin;rw[nh1,nm,nh,no];exact⟨rfl,hrd.2⟩
        ·have hlt:i<n:=by omega
         rw[eh (i+1) (by omega),em i hlt,eh i (by omega),eo i hlt];exact hp.hs i hlt
       have c4:∀i,i<n+1->(ms++[(mk,st.H.length)])[i]?=some (F'.mask i,(F'.hin i).length):=fun i hi=>by
        by_cases hin:i=n
        ·subst hin;rw[nm,nh,eA (by rw[hp.GF];exact eL _),hp.GF];simp
        ·have hlt:i<n:=by omega
         rw[em i hlt,eh i (by omega),dL (by rw[hp.GF];exact hlt)];exact hp.ms i hlt
       have c5:∀i,i<n+1->∃b,(ws++[bitsOf (TT++List.range' st.H.length (H1.length-st.H.length))])[i]?=some b/\∀h,b.testBit h=true↔F'.W i h:=fun i hi=>by
        by_cases hin:i=n
        ·subst hin;refine⟨bitsOf (TT++List.range' st.H.length (H1.length-st.H.length)),by rw[eA (by rw[hp.GG];exact eL _),hp.GG];simp,fun h=>?_⟩;rw[anl,dB];unfold lg.W;rw[nT,nh,no,List.mem_range'];constructor
         ·rintro (h1|⟨j,h1,h2⟩)
          ·exact .inl h1
          ·exact .inr (by omega)
         ·rintro (h1|⟨h1,h2⟩)
          ·exact .inl h1
          ·exact .inr ⟨h-st.H.length,by omega,by omega⟩
        ·have hlt:i<n:=by omega
         obtain⟨b,g1,g2⟩:=hp.ws i hlt;exact⟨b,by rw[dL (by rw[hp.GG];exact hlt)];exact g1,fun h=>(g2 h).trans (eW i hlt h).symm⟩
       have c6:∀i,i<n+1->∀h,(∃k,k<i/\(bs.getD i 0).testBit k=false/\F'.W k h)->(F'.mask i).testBit h=true:=fun i hi hh=>by
        by_cases hin:i=n
        ·subst hin;rw[nm];exact hmk hh
        ·have hlt:i<n:=by omega
         rw[em i hlt];exact fun⟨k,h1,h2,h3⟩=>hp.masks i hlt hh ⟨k,h1,h2,(eW k (by omega) hh).1 h3⟩
       have c7:∀k,k<n+1->∀i,i<k->(bs.getD k 0).testBit i=false->∀h∈F'.T k,h<(F'.hin i).length->(F'.mask i).testBit h=true:=fun k hk i hik hA hh hT hlt=>by
        rw[eh i (by omega)]at hlt;rw[em i (by omega)];by_cases hkn:k=n
        ·subst hkn;rw[nT]at hT;exact ann ms 0 hrd.1.1 i _ _ (hp.ms i hik) (by simpa using hA) hh hT hlt
        ·rw[eT k (by omega)]at hT;exact hp.readers k (by omega) i hik hA hh hT hlt
       have c8:∀k,k<n+1->∀h∈F'.T k,(F'.mask k).testBit h=false/\h<(F'.hin k).length:=fun k hk hh hT=>by
        by_cases hkn:k=n
        ·subst hkn;rw[nT]at hT;rw[nm,nh];have:=hrd.1.2;rw[dr]at this;have h2:=this hh hT;rw[bD,fj,bw]at h2;exact h2
        ·rw[eT k (by omega)]at hT;rw[em k (by omega),eh k (by omega)];exact hp.clear k (by omega) hh hT
       rcases p3 with⟨e1,e2,e3⟩|⟨d,e1,e2,e3,e4,e5⟩
       ·refine⟨by rw[e2];exact hp.len,fun i j o1 o2 d hi hj h1 h2 h3 h4=>?_,fun i o1 d hi h1 h2=>?_,fun i o1 d hi h1 h2=>?_,fun t ht=>by rw[e2];exact hp.rest t fun k o' hk=>ht k o' (by omega),fun d=>?_,uT,c1,c2,c3,by simp[hp.GF],by simp[hp.GG],c4,c5,c6,c8,c7⟩
        ·have hin:i≠n:=fun e=>by subst e;rw[hLn]at h1;simp at h1;subst h1;rw[e1]at h3;cases h3
         have hjn:j≠n:=fun e=>by subst e;rw[hLn]at h2;simp at h2;subst h2;rw[e1]at h4;cases h4
         exact hp.uniq i j o1 o2 d (by omega) (by omega) h1 h2 h3 h4
        ·have hin:i≠n:=fun e=>by subst e;rw[hLn]at h1;simp at h1;subst h1;rw[e1]at h2;cases h2
         exact hp.inb i o1 d (by omega) h1 h2
        ·have hin:i≠n:=fun e=>by subst e;rw[hLn]at h1;simp at h1;subst h1;rw[e1]at h2;cases h2
         rw[e2,ev i (by omega)];exact hp.fin i o1 d (by omega) h1 h2
        ·rw[e3,hp.mS d];constructor
         ·rintro ⟨k,o',hk,h1,h2⟩;exact⟨k,o',by omega,h1,h2⟩
         ·rintro ⟨k,o',hk,h1,h2⟩
          have hkn:k≠n:=fun e=>by subst e;rw[hLn]at h1;simp at h1;subst h1;rw[e1]at h2;cases h2
          exact⟨k,o',by omega,h1,h2⟩
       ·have hnew:∀(k:Nat) o',k<n->L[k]?=some o'->o'.dst≠some d:=fun k o' hk h1 h2=>e2 ((hp.mS d).2 ⟨k,o',hk,h1,h2⟩)
        have hdn:∀{o1:Oper}{d1:Nat},L[n]?=some o1->o1.dst=some d1->d1=d:=fun{o1 d1} h1 h2=>by rw[hLn]at h1;simp at h1;subst h1;rw[e1]at h2;simpa using h2.symm
        refine⟨by rw[e4];simp[hp.len],fun i j o1 o2 d1 hi hj h1 h2 h3 h4=>?_,fun i o1 d1 hi h1 h2=>?_,fun i o1 d1 hi h1 h2=>?_,fun t ht=>?_,fun d1=>?_,uT,c1,c2,c3,by simp[hp.GF],by simp[hp.GG],c4,c5,c6,c8,c7⟩
        ·by_cases hin:i=n<;>by_cases hjn:j=n
         ·omega
         ·subst hin;have:=hdn h1 h3;subst this;exact absurd h4 (hnew j o2 (by omega) h2)
         ·subst hjn;have:=hdn h2 h4;subst this;exact absurd h3 (hnew i o1 (by omega) h1)
         ·exact hp.uniq i j o1 o2 d1 (by omega) (by omega) h1 h2 h3 h4
        ·by_cases hin:i=n
         ·subst hin;have:=hdn h1 h2;subst this;rw[<-hp.len];exact e3
         ·exact hp.inb i o1 d1 (by omega) h1 h2
        ·rw[e4];by_cases hin:i=n
         ·subst hin;have:=hdn h1 h2;subst this;rw[km,cz rfl,cz e3,nv]
         ·have hne:d1≠d:=fun e=>by subst e;exact hnew i o1 (by omega) h1 h2
          rw[km,aw (By hne),ev i (by omega)];exact hp.fin i o1 d1 (by omega) h1 h2
        ·have hne:d≠t:=fun e=>by subst e;exact ht n o (by omega) hLn e1
         rw[e4,km,aw hne];exact hp.rest t fun k o' hk=>ht k o' (by omega)
        ·rw[e5,gz,hp.mS d1];constructor
         ·rintro (rfl|⟨k,o',hk,h1,h2⟩)
          ·exact⟨n,o,by omega,hLn,e1⟩
          ·exact⟨k,o',by omega,h1,h2⟩
         ·rintro ⟨k,o',hk,h1,h2⟩
          by_cases hkn:k=n
          ·subst hkn;exact .inl (hdn h1 h2)
          ·exact .inr ⟨k,o',by omega,h1,h2⟩
      exact anp r (n+1) st1 st' iM wr' _ _ F' h hok (fun j=>by have:=hl (j+1);simp only[List.getElem?_cons_succ]at this;rw[this];congr 1;omega) (by simp at hn;omega) base
     ·cases h
    ·cases h
  ·cases h
theorem aE8{cx:Cx K}{L:List Oper}{bs:List Nat}{st st':St K}{wr':List Nat}(h:rK cx L bs L 0 st [] [] []=some (st',wr'))(hok:st'.ok=true):
 ∃F ms ws,gJ cx L bs st.H st.tm F L.length st'.tm st'.H wr' ms ws:=
 anp (bY:=st.tm) (H0:=st.H) L 0 st st' [] wr' [] [] {vals:=fun _=>.any,hin:=fun _=>st.H,hout:=fun _=>[],mask:=fun _=>0,T:=fun _=>[]} h hok (fun j=>by simp) (by simp)
  ⟨rfl,fun i j _ _ _ hi=>by omega,fun i _ _ hi=>by omega,fun i _ _ hi=>by omega,fun t _=>rfl,fun d=>by simp,fun i _ hi=>by omega,rfl,rfl,fun i hi=>by omega,rfl,rfl,fun i hi=>by omega,fun i hi=>by omega,fun i hi=>by omega,fun i hi=>by omega,fun i hi=>by omega⟩
end Go.V
namespace Go.V
open Go
variable {K :dc}{ρ ρ':List Value}{S S':Nat->Prop}{w w':World}{H H':List (Ob K)}{D:bL K}
section
variable {cx :Cx K}{L:List Oper}{bs:List Nat}{H0:List (Ob K)}{bY fh:List (AV K)}{F:lg K}{HF:List (Ob K)}{wr:List Nat}{ms:List (Nat×Nat)}{ws:List Nat}
theorem gJ.uU(hp:gJ cx L bs H0 bY F L.length fh HF wr ms ws){i:Nat}(hi:i<L.length):(F.hin (i+1)).length=(F.hout i).length:=by
 obtain⟨h1,h2⟩:=hp.hs i hi;rw[h1,Nn _ _ _ h2]
theorem gJ.mono(hp:gJ cx L bs H0 bY F L.length fh HF wr ms ws):∀{i j:Nat},i<=j->j<=L.length->(F.hin i).length<=(F.hin j).length:=by
 intro i j hij hj
 induction j with
 |zero=>have:i=0:=by omega
        subst this;exact eL _
 |succ j ih=>
  rcases cG i (j+1)with h|h
  ·have h1:=ih (by omega) (by omega);rw[hp.uU (show j<L.length by omega)];exact cq h1 (hp.hs j (by omega)).2
  ·have:i=j+1:=by omega
   subst this;exact eL _
theorem gJ.aE9(hp:gJ cx L bs H0 bY F L.length fh HF wr ms ws){i h:Nat}(hi:i<L.length)(hn:¬F.W i h)(hh:h<(F.hin i).length):(F.hin (i+1))[h]?=(F.hin i)[h]?:=by
 obtain⟨h1,h2⟩:=hp.hs i hi;obtain⟨de,dU,a⟩:=hp.slot i L[i] hi (bG hi);rw[h1,Np _ _ _ _ h2];by_cases hm:h<(F.hin i).length/\(F.mask i).testBit (0+h)=true
 ·rw[cz hm]
 ·rw[aw hm];have hm':(F.mask i).testBit h=false:=by
   cases hb:(F.mask i).testBit h with
   |false=>rfl
   |true=>exact absurd ⟨hh,by rw[gV];exact hb⟩ hm
  have:=a.turns.2 h (by rw[Gz];exact hh) (fun hT=>hn (.inl hT));rw[this,Gy,gV,hm'];cases (F.hin i)[h]?<;>simp
theorem gJ.stay(hp:gJ cx L bs H0 bY F L.length fh HF wr ms ws){i h:Nat}:∀{j:Nat},i<=j->j<=L.length->(∀k,i<=k->k<j->¬F.W k h)->h<(F.hin i).length->(F.hin j)[h]?=(F.hin i)[h]?:=by
 intro j hij hj hn hh
 induction j with
 |zero=>have:i=0:=by omega
        subst this;rfl
 |succ j ih=>
  rcases cG i (j+1)with h1|h1
  ·have h2:=ih (by omega) (by omega) fun k a b=>hn k a (by omega)
   rw[hp.aE9 (by omega) (hn j (by omega) (by omega)) (ml hh (hp.mono (by omega) (by omega))),h2]
  ·have:i=j+1:=by omega
   subst this;rfl
theorem gJ.maker(hp:gJ cx L bs H0 bY F L.length fh HF wr ms ws){j k h:Nat}(hj:j<L.length)(hk:k<L.length)(h1:(F.hin j).length<=h)(h2:h<(F.hout j).length)(h3:(F.hin k).length<=h)(h4:h<(F.hout k).length):j=k:=by
 rcases Nat.lt_trichotomy j k with h|h|h
 ·have:=hp.mono (show j+1<=k by omega) (by omega);rw[hp.uU hj]at this;omega
 ·exact h
 ·have:=hp.mono (show k+1<=j by omega) (by omega);rw[hp.uU hk]at this;omega
theorem gJ.made(hp:gJ cx L bs H0 bY F L.length fh HF wr ms ws){h:Nat}:∀{j:Nat},j<=L.length->h<(F.hin j).length->H0.length<=h->∃k,k<j/\(F.hin k).length<=h/\h<(F.hout k).length:=by
 intro j hj hh h0
 induction j with
 |zero=>rw[hp.h0]at hh;omega
 |succ j ih=>
  rw[hp.uU (show j<L.length by omega)]at hh;rcases cG h (F.hin j).length with h1|h1
  ·obtain⟨k,a,b⟩:=ih (by omega) h1;exact⟨k,by omega,b⟩
  ·exact⟨j,by omega,h1,hh⟩
end
theorem anr{p:Nat->Prop}{n:Nat}(hb:∀k,p k->k<n)(h:∃k,p k):∃k,p k/\∀k',p k'->k'<=k:=by
 induction n with
 |zero=>obtain⟨k,hk⟩:=h;exact absurd (hb k hk) (hC _)
 |succ n ih=>
  by_cases hn:p n
  ·exact⟨n,hn,fun k' hk'=>by have:=hb k' hk';omega⟩
  ·exact ih fun k hk=>by
    have:=hb k hk;rcases cG k n with h1|h1
    ·exact h1
    ·have:k=n:=by omega
     subst this;exact absurd hk hn
structure kE (cx:Cx K) (L:List Oper) (bs:List Nat) (bY:List (AV K)) (F:lg K) (H0 HF H:List (Ob K)) (ρ:List Value) (S:Nat->Prop) (listed:Array Bool) (a:Act) (w:World):Prop where
 heap:aU cx.D ρ S w H
 hlen:H.length=HF.length
 defers:a.defers=[]
 size:a.tmps.size=bY.length
 nY:listed.size=L.length
 base:∀(t:Nat) v x,(∀(k:Nat) o,L[k]?=some o->o.dst=some t->listed[k]?≠some true)->bY[t]?=some v->a.tmps[t]?=some x->Rep cx.D ρ S w v x
 done:∀(k:Nat) o d x,L[k]?=some o->listed[k]?=some true->o.dst=some d->a.tmps[d]?=some x->eK cx.D ρ S w a.tmps (F.vals k) x
 opts:∀(k g:Nat) b y,listed[k]?=some true->F.vals k=.opt g b y->∃(k':Nat)(o':Oper),L[k']?=some o'/\o'.dst=some g/\listed[k']?=some true
 closed:∀(k:Nat) o,L[k]?=some o->listed[k]?=some true->∀e∈o.after,listed[e.on]?=some true
 SR:∀h,(∀k,listed[k]?=some true->¬F.W k h)->h<HF.length->(h<H0.length->H[h]?=H0[h]?)/\(H0.length<=h->H[h]?=some .dead)
 SS:∀h k,listed[k]?=some true->F.W k h->(∀k',listed[k']?=some true->F.W k' h->k'<=k)->H[h]?=(F.hin (k+1))[h]?
 dum:∀h,H0.length<=h->h<HF.length->(∀k,listed[k]?=some true->¬((F.hin k).length<=h/\h<(F.hout k).length))->ρ[h]?=some dummy
section
variable {cx :Cx K}{L:List Oper}{bs:List Nat}{H0:List (Ob K)}{bY fh:List (AV K)}{F:lg K}{HF:List (Ob K)}{wr:List Nat}{ms:List (Nat×Nat)}{ws:List Nat}{listed:Array Bool}{a:Act}
theorem kE.sees(hp:gJ cx L bs H0 bY F L.length fh HF wr ms ws)(hm:kE cx L bs bY F H0 HF H ρ S listed a w){j:Nat}(hj:j<L.length)(ik:listed[j]?=some false)
 (hA:∀k,(bs.getD j 0).testBit k=true->listed[k]?=some true) (hcl:∀i k,listed[i]?=some true->(bs.getD i 0).testBit k=true->listed[k]?=some true) {h:Nat} (hh:h<(F.hin j).length) (hun:(F.mask j).testBit h=false):H[h]?=(F.hin j)[h]?:=by
 have hlt:∀k,listed[k]?=some true->k<L.length:=fun k hk=>by have:=(ic.1 hk).1;rw[hm.nY]at this;exact this
 have hne:∀k,listed[k]?=some true->k≠j:=fun k hk e=>by subst e;rw[ik]at hk;cases hk
 have hbef:∀k,k<j->F.W k h->listed[k]?=some true:=fun k hk hw=>by
  cases hb:(bs.getD j 0).testBit k with
  |true=>exact hA k hb
  |false=>have:=hp.masks j hj h ⟨k,hk,hb,hw⟩;rw[hun]at this;cases this
 have haft:∀k,listed[k]?=some true->F.W k h->k<j:=fun k hk hw=>by
  rcases Nat.lt_trichotomy k j with h1|h1|h1
  ·exact h1
  ·exact absurd h1 (hne k hk)
  ·have mT:=hlt k hk;have hlen:=hp.mono (show j<=k by omega) (by omega);rcases hw with hT|⟨h2,-⟩
   ·cases hb:(bs.getD k 0).testBit j with
    |true=>have:=hcl k j hk hb;rw[ik]at this;cases this
    |false=>have:=hp.readers k mT j h1 hb h hT hh;rw[hun]at this;cases this
   ·omega
 by_cases hex:∃k,listed[k]?=some true/\F.W k h
 ·obtain⟨k,⟨hk1,hk2⟩,hk3⟩:=anr (p:=fun k=>listed[k]?=some true/\F.W k h) (n:=L.length) (fun k hk=>hlt k hk.1) hex;rw[hm.SS h k hk1 hk2 fun k' a b=>hk3 k' ⟨a,b⟩];have hkj:=haft k hk1 hk2;have hno:∀k',k+1<=k'->k'<j->¬F.W k' h:=fun k' h1 h2 hw=>by have:=hk3 k' ⟨hbef k' h2 hw,hw⟩;omega
  by_cases hl:h<(F.hin (k+1)).length
  ·exact(hp.stay (show k+1<=j by omega) (by omega) hno hl).symm
  ·
   exfalso;have:H0.length<=h:=by have:=hp.mono (show 0<=k+1 by omega) (show k+1<=L.length by omega);rw[hp.h0]at this;omega
   obtain⟨k',g1,g2,g3⟩:=hp.made (show j<=L.length by omega) hh this;by_cases hkk:k+1<=k'
   ·exact hno k' hkk g1 (.inr ⟨g2,g3⟩)
   ·have:=hp.mono (show k'+1<=k+1 by omega) (show k+1<=L.length by omega);rw[hp.uU (show k'<L.length by omega)]at this;omega
 ·have hno:∀k,listed[k]?=some true->¬F.W k h:=fun k a b=>hex ⟨k,a,b⟩
  have yn:∀k,0<=k->k<j->¬F.W k h:=fun k _ hk hw=>hno k (hbef k hk hw) hw
  have hHF:h<HF.length:=by have:=hp.mono (show j<=L.length by omega) (eL _);rw[hp.hn]at this;omega
  obtain⟨g1,g2⟩:=hm.SR h hno hHF;by_cases h0:h<H0.length
  ·rw[g1 h0,hp.stay (cZ j) (by omega) yn (by rw[hp.h0];exact h0),hp.h0]
  ·obtain⟨k',a1,a2,a3⟩:=hp.made (show j<=L.length by omega) hh (by omega);exact absurd (.inr ⟨a2,a3⟩) (yn k' (cZ _) a1)
end
end Go.V
namespace Go.V
open Go
variable {K :dc}{ρ ρ':List Value}{S S':Nat->Prop}{w w':World}{H H':List (Ob K)}{D:bL K}
theorem eK.take(hD:bT D){n:Nat}{tmps:Array Value}{v:AV K}{x:Value}(h:eK D ρ S w tmps v x)(hu:v.upto n=true):eK D (ρ.take n) S w tmps v x:=by
 cases v with
 |opt g b v=>
  simp only[eK]at h⊢;rcases h with⟨h1,h2⟩|h
  ·exact .inl ⟨h1,h2.take hD (by simpa [AV.upto]using hu)⟩
  ·exact .inr h
 |_=>exact Rep.take hD h hu
theorem eK.mono'{tmps:Array Value}(hS:∀b,S b->S' b)(hw:∀b,S b->w'.heap[b]?=w.heap[b]?)(hρ:∀(h:Nat) r,ρ[h]?=some r->r≠dummy->ρ'[h]?=some r){v:AV K}{x:Value}(h:eK D ρ S w tmps v x):eK D ρ' S' w' tmps v x:=by
 cases v with
 |opt g b v=>
  simp only[eK]at h⊢;rcases h with⟨h1,h2⟩|h
  ·exact .inl ⟨h1,h2.mono' hS hw hρ⟩
  ·exact .inr h
 |_=>exact Rep.mono' hS hw hρ h
section
variable {cx :Cx K}{L:List Oper}{bs:List Nat}{H0:List (Ob K)}{bY fh:List (AV K)}{F:lg K}{HF:List (Ob K)}{wr:List Nat}{ms:List (Nat×Nat)}{ws:List Nat}{listed:Array Bool}{a:Act}
theorem kE.slots(hD:bT cx.D)(hbs:bs=iK L [])(he:kC L 0=true)(hp:gJ cx L bs H0 bY F L.length fh HF wr ms ws)(hm:kE cx L bs bY F H0 HF H ρ S listed a w){j:Nat}{o:Oper}(ho:L[j]?=some o)(ik:listed[j]?=some false)(lV:∀e∈o.after,listed[e.on]?=some true){de:List (AV K)}{dU:List Nat}
 (fs:AT cx L bs bY F j o de dU):fg cx.D (ρ.take (F.hin j).length) S w (eJ (ajF bs j) L 0 de) a.tmps/\
   ∀(t:Nat) v,(eJ (ajF bs j) L 0 de)[t]?=some v->v≠.any->(∀(k:Nat) o',k<j->L[k]?=some o'->o'.dst≠some t)\/∃(k:Nat)(o':Oper),L[k]?=some o'/\o'.dst=some t/\listed[k]?=some true:=by
 have key:∀(t:Nat) v,(eJ (ajF bs j) L 0 de)[t]?=some v->v≠.any->(((∀(k:Nat) o',k<j->L[k]?=some o'->o'.dst≠some t)/\(∀(k:Nat) o,L[k]?=some o->o.dst=some t->listed[k]?≠some true))/\bY[t]?=some v)\/∃(k:Nat)(o':Oper),L[k]?=some o'/\o'.dst=some t/\listed[k]?=some true/\v=F.vals k:=fun t v hv hne=>by
  obtain⟨g1,g2⟩:=SB L 0 de t v hv hne;rcases AS L t with hn|⟨k,o',hk,hkd⟩
  ·exact .inl ⟨⟨fun k o' _ h=>hn k o' h,fun k o' h h'=>absurd h' (hn k o' h)⟩,by rw[<-fs.rest t fun k o' _ h=>hn k o' h];exact g1⟩
  ·have hb:=g2 k o' hk hkd;rw[gV,hbs]at hb;rcases am1 hb with hb|hb
   ·obtain⟨c1,c2⟩:=uS he (T:=fun i=>listed[i]?=some true) (fun i o hi nZ=>hm.closed i o hi nZ) j o ho lV k hb;have:=fs.fin k o' t hk hkd c2;rw[g1]at this;exact .inr ⟨k,o',hk,hkd,c1,by simpa using this⟩
   ·have c0:=(uS he (T:=fun _=>True) (fun _ _ _ _ _ _=>trivial) k o' hk (fun _ _=>trivial) j hb).2;have hun:listed[k]?≠some true:=fun hlk=>by
     have:=(uS he (T:=fun i=>listed[i]?=some true) (fun i o hi nZ=>hm.closed i o hi nZ) k o' hk (hm.closed k o' hk hlk) j hb).1;rw[ik]at this;cases this
    have Gw:∀(k':Nat) o1,L[k']?=some o1->o1.dst=some t->k'=k:=fun k' o1 h1 h2=>hp.uniq k' k o1 o' t (bc.1 h1).1 (bc.1 hk).1 h1 hk h2 hkd
    have hlt:∀(k':Nat) o1,k'<j->L[k']?=some o1->o1.dst≠some t:=fun k' o1 hk' h1 h2=>by have:=Gw k' o1 h1 h2;omega
    exact .inl ⟨⟨hlt,fun k' o1 h1 h2=>by rw[Gw k' o1 h1 h2];exact hun⟩,by rw[<-fs.rest t hlt];exact g1⟩
 refine⟨⟨by rw[SC,fs.len,hm.size],fun t v x hv hx=>?_⟩,fun t v hv hne=>?_⟩
 ·by_cases hne:v=.any
  ·subst hne;exact .kD (.any x)
  ·have hu:=ym fs.up hv;rcases key t v hv hne with⟨⟨-,hn⟩,g⟩|⟨k,o',hk,hkd,hlk,rfl⟩
   ·exact(eK.kD (hm.base t v x hn g hx)).take hD hu
   ·exact(hm.done k o' t x hk hlk hkd hx).take hD hu
 ·rcases key t v hv hne with⟨⟨hn,-⟩,-⟩|⟨k,o',hk,hkd,hlk,-⟩
  ·exact .inl hn
  ·exact .inr ⟨k,o',hk,hkd,hlk⟩
theorem kE.view(hp:gJ cx L bs H0 bY F L.length fh HF wr ms ws)(hm:kE cx L bs bY F H0 HF H ρ S listed a w){j:Nat}{o:Oper}(hj:j<L.length)(ik:listed[j]?=some false)
 (hA:∀k,(bs.getD j 0).testBit k=true->listed[k]?=some true) (hcl:∀i k,listed[i]?=some true->(bs.getD i 0).testBit k=true->listed[k]?=some true) {de:List (AV K)} {dU:List Nat} (fs:AT cx L bs bY F j o de dU):
 View (F.hin j).length H (iZ (F.mask j) 0 (F.hin j)):={
 len:=Gz _ _
 le:=by rw[hm.hlen];have:=hp.mono (show j<=L.length by omega) (eL _);rw[hp.hn]at this;exact this
 ob:=fun h o ho=>by
  rw[Gy,gV]at ho;cases hb:(F.mask j).testBit h with
  |true=>
   rw[hb]at ho;cases hx:(F.hin j)[h]? with
   |none=>rw[hx]at ho;cases ho
   |some y=>rw[hx]at ho;simp at ho;exact .inl ho.symm
  |false=>
   rw[hb]at ho;cases hx:(F.hin j)[h]? with
   |none=>rw[hx]at ho;cases ho
   |some y=>
    rw[hx]at ho;simp at ho;subst ho;exact .inr (by rw[hm.sees hp hj ik hA hcl (bc.1 hx).1 hb];exact hx)
 up:=fun h o ho=>by
  have:=fs.Ns;rw[dr]at this;exact this o (jS ho)}
def after(F:lg K)(j:Nat)(H:List (Ob K)):List (Ob K):=kY (F.mask j) 0 (H.take (F.hin j).length) (F.hout j)++H.drop (F.hout j).length
theorem aFb{j:Nat}(h1:(F.hin j).length<=(F.hout j).length)(h2:(F.hout j).length<=H.length)(h:Nat):
 (after F j H)[h]?=if h<(F.hout j).length then(if h<(F.hin j).length/\(F.mask j).testBit h=true then H[h]? else(F.hout j)[h]?)else H[h]?:=by
 have hl:(H.take (F.hin j).length).length=(F.hin j).length:=by rw[gZ];omega
 have hml:(kY (F.mask j) 0 (H.take (F.hin j).length) (F.hout j)).length=(F.hout j).length:=Nn _ _ _ (by omega);unfold after;by_cases hh:h<(F.hout j).length
 ·rw[dL (by omega),cz hh,Np _ _ _ _ (by omega),hl,gV];by_cases hc:h<(F.hin j).length/\(F.mask j).testBit h=true
  ·rw[cz hc,cz hc,dW,cz hc.1]
  ·rw[aw hc,aw hc]
 ·rw[eA (by omega),aw hh,hml,gK];congr 1;omega
theorem after_length{j:Nat}(h1:(F.hin j).length<=(F.hout j).length)(h2:(F.hout j).length<=H.length):(after F j H).length=H.length:=by
 have hl:(H.take (F.hin j).length).length=(F.hin j).length:=by rw[gZ];omega
 unfold after;rw[bq,Nn _ _ _ (by omega),List.length_drop];omega
end
end Go.V
namespace Go.V
open Go
variable {K :dc}{ρ ρ':List Value}{S S':Nat->Prop}{w w':World}{H H':List (Ob K)}{D:bL K}
section
variable {cx :Cx K}{L:List Oper}{bs:List Nat}{H0:List (Ob K)}{bY fh:List (AV K)}{F:lg K}{HF:List (Ob K)}{wr:List Nat}{ms:List (Nat×Nat)}{ws:List Nat}{listed:Array Bool}{a:Act}
theorem kE.put(hD:bT cx.D)(hp:gJ cx L bs H0 bY F L.length fh HF wr ms ws)(hm:kE cx L bs bY F H0 HF H ρ S listed a w){j:Nat}{o:Oper}(ho:L[j]?=some o)(ik:listed[j]?=some false)(lV:∀e∈o.after,listed[e.on]?=some true)
 (hA:∀k,(bs.getD j 0).testBit k=true->listed[k]?=some true) (hcl:∀i k,listed[i]?=some true->(bs.getD i 0).testBit k=true->listed[k]?=some true) {de:List (AV K)} {dU:List Nat} (fs:AT cx L bs bY F j o de dU)
 {ρ1:List Value} {S1:Nat->Prop} {w1:World} {u:Value} (hs1:aU cx.D ρ1 S1 w1 (F.hout j)) (hst:Step cx.D (F.hin j).length (ρ.take (F.hin j).length) S (iZ (F.mask j) 0 (F.hin j)) w ρ1 S1 (F.hout j) w1) (hv:eK cx.D ρ1 S1 w1 a.tmps (F.vals j) u)
 (mr:∀g b y,F.vals j=.opt g b y->∃(k':Nat)(o':Oper),L[k']?=some o'/\o'.dst=some g/\listed[k']?=some true) {n0:Nat} (hn0:n0<=H0.length):
 kE cx L bs bY F H0 HF (after F j H) (ρ1++ρ.drop (F.hout j).length) S1 (listed.setIfInBounds j true) (a.put o.dst u) w1/\Step cx.D n0 ρ S H w (ρ1++ρ.drop (F.hout j).length) S1 (after F j H) w1:=by
 have hj:j<L.length:=(bc.1 ho).1;have hjs:j<listed.size:=(ic.1 ik).1;have hnm:=(hp.hs j hj).2;have hmN:(F.hout j).length<=H.length:=by
  have:=hp.mono (show j+1<=L.length by omega) (eL _);rw[hp.uU hj,hp.hn]at this;rw[hm.hlen];exact this
 have h0n:H0.length<=(F.hin j).length:=by have:=hp.mono (cZ j) (by omega);rw[hp.h0]at this;exact this
 have hlt:∀k,listed[k]?=some true->k<L.length:=fun k hk=>by have:=(ic.1 hk).1;rw[hm.nY]at this;exact this
 have hne:∀k,listed[k]?=some true->k≠j:=fun k hk e=>by subst e;rw[ik]at hk;cases hk
 have view:=hm.view hp hj ik hA hcl fs;have hd:∀h,(F.hin j).length<=h->h<(F.hout j).length->ρ[h]?=some dummy:=fun h h1 h2=>
  hm.dum h (by omega) (by rw[<-hm.hlen];omega) fun k hk ⟨h3,h4⟩=>hne k hk (hp.maker hj (hlt k hk) h1 h2 h3 h4).symm
 have ag:=aFb (F:=F) (H:=H) hnm hmN;have joined:Joined (F.hin j).length (F.hout j).length H (iZ (F.mask j) 0 (F.hin j)) (F.hout j) (after F j H):=⟨hnm,rfl,after_length hnm hmN,hmN,fun h o1 h1=>by
  rw[ag]at h1;by_cases hh:h<(F.hout j).length
  ·rw[cz hh]at h1;by_cases hc:h<(F.hin j).length/\(F.mask j).testBit h=true
   ·rw[cz hc]at h1;refine .inr ⟨h1,.inl ⟨hc.1,?_⟩⟩;rw[Gy,gV,hc.2,bG hc.1];rfl
   ·rw[aw hc]at h1;exact .inl ⟨hh,h1⟩
  ·rw[aw hh]at h1;exact .inr ⟨h1,.inr (by omega)⟩⟩
 obtain⟨hsF,stF,hmono⟩:=hm.heap.join (n0:=n0) view hs1 hst joined hd (by omega);have hl1:ρ1.length=(F.hout j).length:=hs1.len;have hρ:=ane (n:=0) (ρ:=ρ) (ρ1:=ρ1) hl1 (by rw[hm.heap.len];exact hmN);have hread:∀b,S b->w1.heap[b]?=w.heap[b]?:=fun b hb=>hst.old b (hm.heap.slt b hb) fun h=>(hm.heap.lt b (view.own h)).2 hb
 have hrep:∀{v:AV K}{x:Value},Rep cx.D ρ S w v x->Rep cx.D (ρ1++ρ.drop (F.hout j).length) S1 w1 v x:=fun h=>h.mono' hst.s1 hread hmono
 have uT:∀{v:AV K}{x:Value}{tmps:Array Value},eK cx.D ρ S w tmps v x->eK cx.D (ρ1++ρ.drop (F.hout j).length) S1 w1 tmps v x:=fun h=>h.mono' hst.s1 hread hmono
 have hvF:eK cx.D (ρ1++ρ.drop (F.hout j).length) S1 w1 a.tmps (F.vals j) u:=hv.mono' (fun _ h=>h) (fun _ _=>rfl) fun h r hr _=>by
  have:h<(F.hout j).length:=by have:=(bc.1 hr).1;omega
  rw[hρ,cz this];exact hr
 have hget:∀(k:Nat),(listed.setIfInBounds j true)[k]?=some true↔(k=j\/listed[k]?=some true):=fun k=>by
  rw[mj];by_cases hk:j=k
  ·subst hk;simp[hjs]
  ·rw[aw hk];simp[By hk]
 have hclosed:∀(k:Nat) o1,L[k]?=some o1->(listed.setIfInBounds j true)[k]?=some true->∀e∈o1.after,(listed.setIfInBounds j true)[e.on]?=some true:=fun k o1 hk hlk e he=>by
  rw[hget]at hlk⊢;rcases hlk with rfl|hlk
  ·rw[ho]at hk;simp at hk;subst hk;exact .inr (lV e he)
  ·exact .inr (hm.closed k o1 hk hlk e he)
 have Gx:∀(k g:Nat) b y,(listed.setIfInBounds j true)[k]?=some true->F.vals k=.opt g b y->∃(k':Nat)(o':Oper),L[k']?=some o'/\o'.dst=some g/\(listed.setIfInBounds j true)[k']?=some true:=fun k g b y hlk hvk=>by
  rw[hget]at hlk;rcases hlk with rfl|hlk
  ·obtain⟨k',o',h1,h2,h3⟩:=mr g b y hvk;exact⟨k',o',h1,h2,(hget k').2 (.inr h3)⟩
  ·obtain⟨k',o',h1,h2,h3⟩:=hm.opts k g b y hlk hvk;exact⟨k',o',h1,h2,(hget k').2 (.inr h3)⟩
 have hsame:∀h,¬F.W j h->(after F j H)[h]?=H[h]?:=fun h hn=>by
  rw[ag];by_cases hh:h<(F.hout j).length
  ·rw[cz hh];by_cases hc:h<(F.hin j).length/\(F.mask j).testBit h=true
   ·rw[cz hc]
   ·rw[aw hc];have hln:h<(F.hin j).length:=by
     rcases cG h (F.hin j).length with h1|h1
     ·exact h1
     ·exact absurd (.inr ⟨h1,hh⟩) hn
    have hun:(F.mask j).testBit h=false:=by
     cases hb:(F.mask j).testBit h with
     |false=>rfl
     |true=>exact absurd ⟨hln,hb⟩ hc
    rw[fs.turns.2 h (by rw[Gz];exact hln) (fun hT=>hn (.inl hT)),Gy,gV,hun,hm.sees hp hj ik hA hcl hln hun];cases (F.hin j)[h]?<;>simp
  ·rw[aw hh]
 have hnew:∀h,F.W j h->(after F j H)[h]?=(F.hin (j+1))[h]?:=fun h hw=>by
  have hc:¬(h<(F.hin j).length/\(F.mask j).testBit h=true):=fun⟨h1,h2⟩=>by
   rcases hw with hT|hT
   ·have:=(hp.clear j hj h hT).1;rw[h2]at this;cases this
   ·omega
  have hh:h<(F.hout j).length:=by
   rcases hw with hT|hT
   ·have:=(hp.clear j hj h hT).2;omega
   ·exact hT.2
  rw[ag,cz hh,aw hc,(hp.hs j hj).1,Np _ _ _ _ hnm,gV,aw hc]
 have c0:∀h,(∀k,(listed.setIfInBounds j true)[k]?=some true->¬F.W k h)->h<HF.length->(h<H0.length->(after F j H)[h]?=H0[h]?)/\(H0.length<=h->(after F j H)[h]?=some .dead):=fun h hno hh=>by
  rw[hsame h (hno j ((hget j).2 (.inl rfl)))];exact hm.SR h (fun k hk=>hno k ((hget k).2 (.inr hk))) hh
 have ck:∀h k,(listed.setIfInBounds j true)[k]?=some true->F.W k h->(∀k',(listed.setIfInBounds j true)[k']?=some true->F.W k' h->k'<=k)->(after F j H)[h]?=(F.hin (k+1))[h]?:=fun h k hk hw hmax=>by
  by_cases hkj:k=j
  ·subst hkj;exact hnew h hw
  ·have hk':listed[k]?=some true:=((hget k).1 hk).resolve_left hkj;have yn:¬F.W j h:=fun SU=>by
    have hjk:j<k:=by have:=hmax j ((hget j).2 (.inl rfl)) SU;omega
    have mT:=hlt k hk';have hlen:=hp.mono (show j+1<=k by omega) (by omega);rw[hp.uU hj]at hlen;have hb:(bs.getD k 0).testBit j=false:=by
     cases hb:(bs.getD k 0).testBit j with
     |false=>rfl
     |true=>have:=hcl k j hk' hb;rw[ik]at this;cases this
    have hmk:=hp.masks k mT h ⟨j,hjk,hb,SU⟩;rcases hw with hT|hT
    ·have:=(hp.clear k mT h hT).1;rw[hmk]at this;cases this
    ·have:h<(F.hout j).length:=by
      rcases SU with h1|h1
      ·have:=(hp.clear j hj h h1).2;omega
      ·exact h1.2
     omega
   rw[hsame h yn];exact hm.SS h k hk' hw fun k' a b=>hmax k' ((hget k').2 (.inr a)) b
 have cd:∀h,H0.length<=h->h<HF.length->(∀k,(listed.setIfInBounds j true)[k]?=some true->¬((F.hin k).length<=h/\h<(F.hout k).length))->(ρ1++ρ.drop (F.hout j).length)[h]?=some dummy:=fun h h1 h2 hno=>by
  have h3:=hm.dum h h1 h2 fun k hk=>hno k ((hget k).2 (.inr hk))
  have h4:=hno j ((hget j).2 (.inl rfl));rw[hρ];by_cases hh:h<(F.hout j).length
  ·have hl:h<(F.hin j).length:=by
    rcases cG h (F.hin j).length with h5|h5
    ·exact h5
    ·exact absurd ⟨h5,hh⟩ h4
   rw[cz hh,hst.pre h hl,dW,cz hl];exact h3
  ·rw[aw hh];exact h3
 have hlen2:(after F j H).length=HF.length:=by rw[after_length hnm hmN,hm.hlen]
 refine⟨?_,stF⟩;cases hdst:o.dst with
 |none=>
  refine⟨hsF,hlen2,hm.defers,hm.size,by simp[hm.nY],fun t v x h1 h2 h3=>hrep (hm.base t v x (fun k o1 hk hd1 hl=>h1 k o1 hk hd1 ((hget k).2 (.inr hl))) h2 h3),fun k o1 d x hk hlk hd1 hx=>?_,Gx,hclosed,c0,ck,cd⟩;rw[hget]at hlk;rcases hlk with rfl|hlk
  ·rw[ho]at hk;simp at hk;subst hk;rw[hdst]at hd1;cases hd1
  ·exact uT (hm.done k o1 d x hk hlk hd1 hx)
 |some d=>
  have SV:∀{k:Nat}{o1:Oper},L[k]?=some o1->listed[k]?=some true->o1.dst≠some d:=fun{k o1} hk hlk hd1=>by
   have:=hp.uniq k j o1 o d (hlt k hlk) hj hk ho hd1 hdst;exact hne k hlk this
  refine⟨hsF,hlen2,hm.defers,by simp[Act.put,hm.size],by simp[hm.nY],fun t v x h1 h2 h3=>?_,fun k o1 d1 x hk hlk hd1 hx=>?_,Gx,hclosed,c0,ck,cd⟩
  ·have:d≠t:=fun e=>by subst e;exact h1 j o ho hdst ((hget j).2 (.inl rfl))
   simp only[Act.put,mj,aw this]at h3;exact hrep (hm.base t v x (fun k o1 hk hd1 hl=>h1 k o1 hk hd1 ((hget k).2 (.inr hl))) h2 h3)
  ·rw[hget]at hlk;simp only[Act.put]at hx⊢;rw[mj]at hx;rcases hlk with rfl|hlk
   ·rw[ho]at hk;simp at hk;subst hk;rw[hdst]at hd1;simp at hd1;subst hd1;rw[cz rfl]at hx;split at hx
    ·simp at hx;subst hx;refine hvF.put fun g b y e he=>?_
     obtain⟨k',o',h1,h2,h3⟩:=mr g b y e;subst he;exact SV h1 h3 h2
    ·cases hx
   ·have hdd:d≠d1:=fun e=>by subst e;exact SV hk hlk hd1
    rw[aw hdd]at hx;refine(uT (hm.done k o1 d1 x hk hlk hd1 hx)).put fun g b y e he=>?_
    obtain⟨k',o',h1,h2,h3⟩:=hm.opts k g b y hlk e;subst he;exact SV h1 h3 h2
end
end Go.V
namespace Go.V
open Go
variable {K :dc}{ρ ρ':List Value}{S S':Nat->Prop}{w w':World}{H H':List (Ob K)}{D:bL K}
def od(H0:List (Ob K))(n:Nat):List (Ob K):=H0++List.replicate (n-H0.length) .dead
def mU(ρ:List Value)(n:Nat):List Value:=ρ++List.replicate (n-ρ.length) dummy
theorem anv{H0:List (Ob K)}{n:Nat}(h:H0.length<=n):(od H0 n).length=n:=by simp[od];omega
theorem anw{n h:Nat}{r:Value}(hr:ρ[h]?=some r):(mU ρ n)[h]?=some r:=by
 unfold mU;rw[dL (bc.1 hr).1];exact hr
theorem anx{H0:List (Ob K)}{n h:Nat}{o:Ob K}(ho:(od H0 n)[h]?=some o):H0[h]?=some o\/(H0.length<=h/\o=.dead):=by
 unfold od at ho;rcases cG h H0.length with h1|h1
 ·rw[dL h1]at ho;exact .inl ho
 ·rw[eA h1,ql]at ho;split at ho
  ·simp at ho;exact .inr ⟨h1,ho.symm⟩
  ·cases ho
theorem Nu{H0:List (Ob K)}{n h:Nat}{o:Ob K}{r:Value}(hl:ρ.length=H0.length)(ho:(od H0 n)[h]?=some o)(hlv:o.live=true)(hr:(mU ρ n)[h]?=some r):H0[h]?=some o/\ρ[h]?=some r:=by
 rcases anx ho with h1|⟨-,rfl⟩
 ·have:h<ρ.length:=by rw[hl];exact(bc.1 h1).1
  unfold mU at hr;rw[dL this]at hr;exact⟨h1,hr⟩
 ·cases hlv
theorem aU.pad{H0:List (Ob K)}(hs:aU D ρ S w H0){n:Nat}(hn:H0.length<=n):aU D (mU ρ n) S w (od H0 n):=by
 have own:∀b,Own D w (mU ρ n) (od H0 n) b->Own D w ρ H0 b:=fun b ⟨h,o,r,h1,h2,h3,h4⟩=>by
  obtain⟨g1,g2⟩:=Nu hs.len h1 h2 h3;exact⟨h,o,r,g1,h2,g2,h4⟩
 refine⟨by rw[anv hn];simp[mU];have:=hs.len;omega,fun h o r h1 h2=>?_,fun h h' o o' r r' b h1 h2 h3 h4 h5 h6 h7 h8=>?_,fun b hb=>hs.lt b (own b hb),hs.slt,hs.base⟩
 ·rcases anx h1 with h3|⟨-,rfl⟩
  ·have:h<ρ.length:=by rw[hs.len];exact(bc.1 h3).1
   have h4:ρ[h]?=some r:=by unfold mU at h2;rwa [dL this]at h2
   refine(hs.ob h o r h3 h4).mono' (fun _ h=>h) (fun _ _=>rfl) (fun h' r' hr' _=>anw hr') fun _ _ _=>rfl
  ·trivial
 ·obtain⟨g1,g2⟩:=Nu hs.len h1 h2 h3;obtain⟨k1,k2⟩:=Nu hs.len h5 h6 h7;exact hs.eY h h' o o' r r' b g1 h2 g2 h4 k1 h6 k2 h8
theorem Step.pad{H0:List (Ob K)}(hs:aU D ρ S w H0){n n0:Nat}(hn:n0<=H0.length):Step D n0 ρ S H0 w (mU ρ n) S (od H0 n) w:=
 ⟨rfl,rfl,rfl,eL _,fun _ _ _=>rfl,fun b ⟨h,o,r,h1,h2,h3,h4⟩=>by
   obtain⟨g1,g2⟩:=Nu hs.len h1 h2 h3;exact .inl ⟨h,o,r,g1,h2,g2,h4⟩,fun _ h=>h,fun _ h=>.inl h,fun h hh=>by
   have:h<ρ.length:=by rw[hs.len];omega
   unfold mU;rw[dL this]⟩
section
variable {cx :Cx K}{L:List Oper}{bs:List Nat}{H0:List (Ob K)}{bY fh:List (AV K)}{F:lg K}{HF:List (Ob K)}{wr:List Nat}{ms:List (Nat×Nat)}{ws:List Nat}{listed:Array Bool}{a:Act}
theorem gJ.len0(hp:gJ cx L bs H0 bY F L.length fh HF wr ms ws):H0.length<=HF.length:=by
 have:=hp.mono (cZ L.length) (eL _);rw[hp.h0,hp.hn]at this;exact this
theorem kE.final(hp:gJ cx L bs H0 bY F L.length fh HF wr ms ws)(hm:kE cx L bs bY F H0 HF H ρ S listed a w)(hall:∀i,i<L.length->listed[i]?=some true):H=HF:=by
 have hlt:∀k,listed[k]?=some true->k<L.length:=fun k hk=>by have:=(ic.1 hk).1;rw[hm.nY]at this;exact this
 apply qL;intro h;rcases cG h HF.length with hh|hh
 ·have hhF:h<(F.hin L.length).length:=by rw[hp.hn];exact hh
  by_cases hex:∃k,listed[k]?=some true/\F.W k h
  ·obtain⟨k,⟨hk1,hk2⟩,hk3⟩:=anr (p:=fun k=>listed[k]?=some true/\F.W k h) (n:=L.length) (fun k hk=>hlt k hk.1) hex;rw[hm.SS h k hk1 hk2 fun k' a b=>hk3 k' ⟨a,b⟩];have mT:=hlt k hk1;have hno:∀k',k+1<=k'->k'<L.length->¬F.W k' h:=fun k' h1 h2 hw=>by have:=hk3 k' ⟨hall k' h2,hw⟩;omega
   by_cases hl:h<(F.hin (k+1)).length
   ·rw[<-hp.stay (show k+1<=L.length by omega) (eL _) hno hl,hp.hn]
   ·exfalso;have:H0.length<=h:=by have:=hp.mono (show 0<=k+1 by omega) (show k+1<=L.length by omega);rw[hp.h0]at this;omega
    obtain⟨k',g1,g2,g3⟩:=hp.made (eL _) hhF this;by_cases hkk:k+1<=k'
    ·exact hno k' hkk g1 (.inr ⟨g2,g3⟩)
    ·have:=hp.mono (show k'+1<=k+1 by omega) (show k+1<=L.length by omega);rw[hp.uU g1]at this;omega
  ·have hno:∀k,listed[k]?=some true->¬F.W k h:=fun k a b=>hex ⟨k,a,b⟩
   have yn:∀k,0<=k->k<L.length->¬F.W k h:=fun k _ hk hw=>hno k (hall k hk) hw
   obtain⟨g1,g2⟩:=hm.SR h hno hh;by_cases h0:h<H0.length
   ·rw[g1 h0,<-hp.hn,hp.stay (cZ _) (eL _) yn (by rw[hp.h0];exact h0),hp.h0]
   ·obtain⟨k',a1,a2,a3⟩:=hp.made (eL _) hhF (by omega);exact absurd (.inr ⟨a2,a3⟩) (yn k' (cZ _) a1)
 ·rw[ve (by rw[hm.hlen];exact hh),ve hh]
theorem aFe(hD:bT cx.D)(hc:aI cx)(he:kC L 0=true)(hp:gJ cx L (iK L []) H0 bY F L.length fh HF wr ms ws){n0:Nat}(hn:n0<=H0.length){Q:Exit->Act->World->Prop}:
 ∀(fuel:Nat)(listed:Array Bool)(H:List (Ob K))(ρ:List Value)(S:Nat->Prop)(a:Act)(w:World),kE cx L (iK L []) bY F H0 HF H ρ S listed a w->todo listed<=fuel->
 (∀ρ' S' a' w',aU cx.D ρ' S' w' HF->fg cx.D ρ' S' w' fh a'.tmps->a'.defers=[]->Step cx.D n0 ρ S H w ρ' S' HF w'->Q .normal a' w')->wpAny cx.P .any L.toArray Q fuel listed a w:=by
 have hfin:∀(listed:Array Bool)(H:List (Ob K))(ρ:List Value)(S:Nat->Prop)(a:Act)(w:World),kE cx L (iK L []) bY F H0 HF H ρ S listed a w->Region.ready .any L.toArray listed=[]->H=HF/\fg cx.D ρ S w fh a.tmps:=fun listed H ρ S a w hm hr=>by
  have hall:=ana he hm.nY hr;refine⟨hm.final hp hall,by rw[hp.len,hm.size],fun t v x hv hx=>?_⟩;rcases AS L t with hnd|⟨k,o,hk,hkd⟩
  ·rw[hp.rest t fun k o _ h=>hnd k o h]at hv;exact .kD (hm.base t v x (fun k o hk hkd=>absurd hkd (hnd k o hk)) hv hx)
  ·have mT:=(bc.1 hk).1;rw[hp.fin k o t mT hk hkd]at hv;simp only[aD]at hv;subst hv;exact hm.done k o t x hk (hall k mT) hkd hx
 intro fuel
 induction fuel with
 |zero=>
  intro listed H ρ S a w hm ht hq;have hr:Region.ready .any L.toArray listed=[]:=by
   cases hh:Region.ready .any L.toArray listed with
   |nil=>rfl
   |cons j r=>
    have:j∈Region.ready .any L.toArray listed:=by rw[hh];simp
    exact absurd (Gv.1 (mem_ready.1 this).1) (am9 (by omega))
  obtain⟨e,hs⟩:=hfin listed H ρ S a w hm hr;subst e;exact⟨hr,hq ρ S a w hm.heap hs hm.defers Step.refl⟩
 |succ fuel ih=>
  intro listed H ρ S a w hm ht hq;refine⟨fun hr=>by
   obtain⟨e,hs⟩:=hfin listed H ρ S a w hm hr;subst e;exact hq ρ S a w hm.heap hs hm.defers Step.refl,fun j hj=>?_⟩
  obtain⟨rR,o,hoj,hall⟩:=mem_ready.1 hj;have ik:=Gv.1 rR;have ho:L[j]?=some o:=by simpa using hoj
  have hjL:=(bc.1 ho).1;have lV:∀e∈o.after,listed[e.on]?=some true:=fun e yl=>SH.1 (hall e yl (Gu L 0 j o he ho e yl).2)
  have hA:∀k,((iK L []).getD j 0).testBit k=true->listed[k]?=some true:=fun k hk=>
   (uS he (T:=fun i=>listed[i]?=some true) (fun i o hi nZ=>hm.closed i o hi nZ) j o ho lV k hk).1
  have hcl:∀i k,listed[i]?=some true->((iK L []).getD i 0).testBit k=true->listed[k]?=some true:=fun i k hi hk=>by
   have hiL:i<L.length:=by have:=(ic.1 hi).1;rw[hm.nY]at this;exact this
   exact(uS he (T:=fun i=>listed[i]?=some true) (fun i o hi nZ=>hm.closed i o hi nZ) i _ (bG hiL) (hm.closed i _ (bG hiL) hi) k hk).1
  obtain⟨de,dU,fs⟩:=hp.slot j o hjL ho;obtain⟨hsl,hkn⟩:=hm.slots hD rfl he hp ho ik lV fs;have view:=hm.view hp hjL ik hA hcl fs;have hsv:=hm.heap.view hD view;have main:∀q,iY q cx L (eJ (ajF (iK L []) j) L 0 de) (iZ (F.mask j) 0 (F.hin j)) dU o=some (F.vals j,F.hout j,true)->wpOp cx.P L.toArray Q j (wpAny cx.P .any L.toArray Q fuel (listed.setIfInBounds j true)) a w:=fun q s1=>by
   have mr:∀g b y,F.vals j=.opt g b y->∃(k':Nat)(o':Oper),L[k']?=some o'/\o'.dst=some g/\listed[k']?=some true:=fun g b y e=>by
    rw[e]at s1;obtain⟨v,g1,g2⟩:=am6 s1;rcases hkn g v g1 g2 with hn'|h
    ·obtain⟨k,o',hk,h2,h3⟩:=fs.dU g (yk s1 g b y rfl);exact absurd h3 (hn' k o' hk h2)
    ·exact h
   have hw:=Su hD hc hsv hsl (ops:=L) s1 rfl (k:=wpAny cx.P .any L.toArray Q fuel (listed.setIfInBounds j true)) (Q:=Q) fun u ρ1 S1 w1 q1 q2 q3=>by
    rw[Gz]at q3;obtain⟨hm1,st1⟩:=hm.put hD hp ho ik lV hA hcl fs q1 q3 q2 mr hn;exact ih _ _ _ S1 _ w1 hm1 (by have:=am8 ik;omega) fun ρ' S' a' w' g1 g2 g3 g4=>hq ρ' S' a' w' g1 g2 g3 (st1.trans g4)
   unfold wpOp;rw[hoj];dsimp only;split
   ·rename_i hwt;rw[cz hwt]at hw;exact .inl hw
   ·rename_i hwt;rw[aw hwt]at hw;exact hw
  have s1:=fs.slot;unfold Aw at s1;split at s1
  ·exact main true s1
  ·split at s1
   ·exact main false s1
   ·cases s1
theorem kE.start(hp:gJ cx L bs H0 bY F L.length fh HF wr ms ws)(hs:aU cx.D ρ S w H0)(hd:a.defers=[])(hsl:fg cx.D ρ S w bY a.tmps)(h0:dz bY):
 kE cx L bs bY F H0 HF (od H0 HF.length) (mU ρ HF.length) S (Array.replicate L.length false) a w:=by
 have hf:∀(k:Nat),(Array.replicate L.length false)[k]?≠some true:=fun k e=>by
  rw[L9]at e;split at e<;>simp at e
 have hl:=hp.len0;refine⟨hs.pad hl,anv hl,hd,hsl.len.symm,by simp,fun t v x hn1 h1 h2=>?_,fun k o d x h1 h2=>absurd h2 (hf k),fun k g b y h1=>absurd h1 (hf k),fun k o h1 h2=>absurd h2 (hf k),fun h _ hh=>⟨fun h1=>?_,fun h1=>?_⟩,fun h k hk=>absurd hk (hf k),fun h h1 h2 _=>?_⟩
 ·have h3:=hsl.ok t v x h1 h2;have h4:Rep cx.D ρ S w v x:=by
   cases v with
   |opt g b y=>exact absurd h1 (h0 t g b y)
   |_=>exact h3
  exact h4.mono' (fun _ h=>h) (fun _ _=>rfl) fun h r hr _=>anw hr
 ·unfold od;rw[dL h1]
 ·unfold od;rw[eA h1,ql,cz (by omega)]
 ·unfold mU;rw[eA (by rw[hs.len];exact h1),ql,cz (by rw[hs.len];omega)]
end
end Go.V
namespace Go.V
open Go
theorem anB:∀(π:List Nat),mO π=true->∀(i j k:Nat),π[i]?=some k->π[j]?=some k->i=j
 |[],_,i,j,k,h,_=>by simp at h
 |x::r,hn,i,j,k,hi,hj=>by
  simp only[mO,bD,fj,mi,cm]at hn;cases i with
  |zero=>
   cases j with
   |zero=>rfl
   |succ j=>simp at hi hj;subst hi;exact absurd (jS hj) hn.1
  |succ i=>
   cases j with
   |zero=>simp at hi hj;subst hj;exact absurd (jS hi) hn.1
   |succ j=>rw[anB r hn.2 i j k (by simpa using hi) (by simpa using hj)]
structure rW (π:List Nat) (ops ops':Array Oper):Prop where
 len:π.length=ops.size
 len':ops'.size=ops.size
 Nv:∀i,i<ops.size->∃j:Nat,π[j]?=some i
 inj:∀(i j k:Nat),π[i]?=some k->π[j]?=some k->i=j
 ops:∀(j i:Nat),π[j]?=some i->∃o,ops[i]?=some o/\ops'[j]?=some (ya π ops.size o)
theorem anC{π:List Nat}{ops:List Oper}(h:F4 π ops.length=true):rW π ops.toArray (permuted π ops).toArray:=by
 simp only[F4,bD,bw,dr,FA,mi]at h;obtain⟨h1,h2,h3,h4⟩:=h;refine⟨by simpa using h1,by simp[permuted,h1],fun i hi=>?_,anB π h4,fun j i hj=>?_⟩
 ·have:=h3 i (by simpa using hi);obtain⟨j,hj,e⟩:=iy this;exact⟨j,by rw[bG hj,e]⟩
 ·have hi:i<ops.length:=h2 i (jS hj);refine⟨ops[i],by simp[hi],?_⟩;simp only[List.getElem?_toArray,permuted,fL,hj,Md,bG hi,lY]
section
variable {P :Program}{π:List Nat}{ops ops':Array Oper}{Q:Exit->Act->World->Prop}
theorem anD{π:List Nat}{i j:Nat}(h:π.idxOf? i=some j):π[j]?=some i:=by
 rw[List.idxOf?_eq_some_iff]at h;obtain⟨hlt,he,-⟩:=h;rw[bG hlt];simpa using he
theorem anE{π:List Nat}{i:Nat}(h:π.idxOf? i=none):i∉π:=by
 rw[List.idxOf?_eq_none_iff]at h;exact h
structure Listed (π:List Nat) (n:Nat) (l l':Array Bool):Prop where
 sz:l.size=n
 sz':l'.size=n
 eq:∀(j i:Nat),π[j]?=some i->l'[j]?=l[i]?
theorem Listed.getD(hp:rW π ops ops'){l l':Array Bool}(h:Listed π ops.size l l')(i:Nat):l'.getD ((π.idxOf? i).getD ops.size) false=l.getD i false:=by
 cases hx:π.idxOf? i with
 |some j=>
  have:=h.eq j i (anD hx);simp only[aR,jc,this]
 |none=>
  have hi:ops.size<=i:=by
   rcases cG i ops.size with hlt|hge
   ·obtain⟨j,hj⟩:=hp.Nv i hlt;exact absurd (jS hj) (anE hx)
   ·exact hge
  simp only[Option.getD_none,jc];rw[uv (by rw[h.sz'];exact eL _),uv (by rw[h.sz];exact hi)]
theorem mem_ready{ops:Array Oper}{l:Array Bool}{i:Nat}:i∈Region.ready .any ops l↔i<ops.size/\l.getD i true=false/\∃o,ops[i]?=some o/\(o.after.all fun e=> !Region.binds .any e||l.getD e.on false)=true:=by
 unfold Region.ready;rw[List.mem_filter,FA];constructor
 ·rintro ⟨h1,h2⟩
  rw[bD,fj]at h2;refine⟨h1,h2.1,ops[i],by simp[h1],?_⟩;have:=h2.2;rw[Ah h1]at this;simpa using this
 ·rintro ⟨h1,h2,o,h3,h4⟩
  refine⟨h1,?_⟩;rw[bD,fj];refine⟨h2,?_⟩;rw[h3];simpa using h4
theorem anF(hp:rW π ops ops'){l l':Array Bool}(h:Listed π ops.size l l')(o:Oper):
 ((ya π ops.size o).after.all fun e=> !Region.binds .any e||l'.getD e.on false)=(o.after.all fun e=> !Region.binds .any e||l.getD e.on false):=by
 have key:∀(L:List Edge),(((L.filter (Region.binds .any)).map fun e=>({e with on:=(π.idxOf? e.on).getD ops.size}:Edge)).all fun e=> !Region.binds .any e||l'.getD e.on false)=L.all fun e=> !Region.binds .any e||l.getD e.on false:=by
  intro L
  induction L with
  |nil=>rfl
  |cons e r ih=>
   rw[List.filter_cons,xC,<-ih];cases hb:Region.binds .any e with
   |false=>simp
   |true=>
    have hb':Region.binds .any {e with on:=(π.idxOf? e.on).getD ops.size}=true:=hb;simp only[fJ,fB,xC,hb',h.getD hp]
 have:=key o.after.toList;simp only[ya];rw[<-Array.all_toList,<-Array.all_toList,Array.toList_map,Array.toList_filter];exact this
theorem SX(hp:rW π ops ops'){l l':Array Bool}(h:Listed π ops.size l l'){i j:Nat}(hj:π[j]?=some i):j∈Region.ready .any ops' l'↔i∈Region.ready .any ops l:=by
 obtain⟨o,ho,ho'⟩:=hp.ops j i hj;have hi:i<ops.size:=(ic.1 ho).1;have hj':j<ops'.size:=(ic.1 ho').1;have hl:l'.getD j true=l.getD i true:=by simp only[jc,h.eq j i hj]
 rw[mem_ready,mem_ready,hl];constructor
 ·rintro ⟨-,h2,o1,h3,h4⟩
  rw[ho']at h3;simp only[aD]at h3;subst h3;rw[anF hp h]at h4;exact⟨hi,h2,o,ho,h4⟩
 ·rintro ⟨-,h2,o1,h3,h4⟩
  rw[ho]at h3;simp only[aD]at h3;subst h3;exact⟨hj',h2,_,ho',by rw[anF hp h];exact h4⟩
theorem aFf(hp:rW π ops ops')(tm:Array Value)(i:Nat):yielded ops' tm ((π.idxOf? i).getD ops.size)=yielded ops tm i:=by
 unfold yielded;have:(ops'[(π.idxOf? i).getD ops.size]?).bind (·.dst)=(ops[i]?).bind (·.dst):=by
  cases hx:π.idxOf? i with
  |some j=>
   obtain⟨o,ho,ho'⟩:=hp.ops j i (anD hx);simp only[aR];rw[ho,ho'];rfl
  |none=>
   have hi:ops.size<=i:=by
    rcases cG i ops.size with hlt|hge
    ·obtain⟨j,hj⟩:=hp.Nv i hlt;exact absurd (jS hj) (anE hx)
    ·exact hge
   simp only[Option.getD_none];rw[uv (by rw[hp.len'];exact eL _),uv hi]
 rw[this]
theorem aFg(hp:rW π ops ops')(tm:Array Value)(o:Oper):Region.wanted (ya π ops.size o) (yielded ops' tm)=Region.wanted o (yielded ops tm):=by
 unfold Region.wanted ya;cases hg:o.guard with
 |none=>rfl
 |some g=>simp only[Md,aFf hp]
theorem aFh(hp:rW π ops ops'){i j:Nat}(hj:π[j]?=some i){K:Act->World->Prop}{a:Act}{w:World}(h:wpOp P ops' Q j K a w):wpOp P ops Q i K a w:=by
 obtain⟨o,ho,ho'⟩:=hp.ops j i hj;unfold wpOp at h⊢;rw[ho']at h;rw[ho];dsimp only at h⊢;rw[aFg hp]at h;exact h
theorem Listed.set(hp:rW π ops ops'){l l':Array Bool}(h:Listed π ops.size l l'){i j:Nat}(hj:π[j]?=some i):Listed π ops.size (l.setIfInBounds i true) (l'.setIfInBounds j true):=by
 refine⟨by simp[h.sz],by simp[h.sz'],fun j' i' hj'=>?_⟩;rw[mj,mj];have hb:j<l'.size↔i<l.size:=by
  have:=h.eq j i hj;constructor
  ·intro hlt;rcases cG i l.size with h1|h1
   ·exact h1
   ·rw[uv h1,Ah hlt]at this;cases this
  ·intro hlt;rcases cG j l'.size with h1|h1
   ·exact h1
   ·rw[uv h1,Ah hlt]at this;cases this
 by_cases e:j=j'
 ·subst e;rw[hj]at hj';simp only[aD]at hj';subst hj';simp only[fJ];by_cases h1:j<l'.size
  ·rw[cz h1,cz (hb.1 h1)]
  ·rw[aw h1,aw (fun h2=>h1 (hb.2 h2))]
 ·have e':i≠i':=fun e2=>by subst e2;exact e (hp.inj j j' i hj hj')
  rw[aw e,aw e'];exact h.eq j' i' hj'
theorem aFi(hp:rW π ops ops'):∀(fuel:Nat)(l l':Array Bool)(a:Act)(w:World),Listed π ops.size l l'->wpAny P .any ops' Q fuel l' a w->wpAny P .any ops Q fuel l a w:=by
 have nil:∀{l l':Array Bool},Listed π ops.size l l'->Region.ready .any ops l=[]->Region.ready .any ops' l'=[]:=fun{l l'} h he=>by
  apply List.eq_nil_iff_forall_not_mem.2;intro j hj;have hjn:j<π.length:=by rw[hp.len,<-hp.len'];exact(mem_ready.1 hj).1
  have:=(SX hp h (bG hjn)).1 hj;rw[he]at this;cases this
 have nil':∀{l l':Array Bool},Listed π ops.size l l'->Region.ready .any ops' l'=[]->Region.ready .any ops l=[]:=fun{l l'} h he=>by
  apply List.eq_nil_iff_forall_not_mem.2;intro i hi;obtain⟨j,hj⟩:=hp.Nv i (mem_ready.1 hi).1;have:=(SX hp h hj).2 hi;rw[he]at this;cases this
 intro fuel
 induction fuel with
 |zero=>
  intro l l' a w h hw;exact⟨nil' h hw.1,hw.2⟩
 |succ fuel ih=>
  intro l l' a w h hw;refine⟨fun he=>hw.1 (nil h he),fun i hi=>?_⟩;obtain⟨j,hj⟩:=hp.Nv i (mem_ready.1 hi).1;refine aFh hp hj (wpOp_mono (fun a w=>ih _ _ a w (h.set hp hj)) (hw.2 j ((SX hp h hj).2 hi)))
end
end Go.V
namespace Go.V
open Go
variable {K :dc}{ρ ρ':List Value}{S S':Nat->Prop}{w w':World}{H H':List (Ob K)}
def Tr(cx:Cx K)(n0:Nat)(c:Code)(st:St K)(e:Ex)(st':St K):Prop:=
 ∀(ρ:List Value)(S:Nat->Prop)(a:Act)(w:World),n0<=st.H.length->Sat cx ρ S a w st->
  c.wp cx.P (fun e' a' w'=>e'=e.nO/\n0<=st'.H.length/\∃ρ' S',Sat cx ρ' S' a' w' st'/\Step cx.D n0 ρ S st.H w ρ' S' st'.H w') a w
theorem Step.drew{D:bL K}{n0 n:Nat}{ρ ρ':List Value}{S S':Nat->Prop}{w w':World}{H H':List (Ob K)}(h:Step D n0 ρ S H {w with drawn:=n} ρ' S' H' w'):Step D n0 ρ S H w ρ' S' H' w':=
 have g:∀b,Own D {w with drawn:=n} ρ H b->Own D w ρ H b:=fun b h=>h.old fun _ _=>rfl
 ⟨h.os,h.tape,h.output,h.size,fun b hb hn=>h.old b hb fun hO=>hn (g b hO),fun b hb=>(h.own b hb).imp (g b) id,h.s1,fun b hb=>(h.s2 b hb).imp id (Or.imp (g b) id),h.pre⟩
theorem Sat.drawn{cx:Cx K}{a:Act}{st:St K}(h:Sat cx ρ S a w st)(n:Nat):Sat cx ρ S a {w with drawn:=n} st:=
 ⟨h.heap.world (eL _) (fun _ _=>rfl) (fun _ _=>rfl),fg.mono (w:=w) (w':={w with drawn:=n}) (fun _ h=>h) (fun _ _=>rfl) (fun _ _ h=>h) h.slots,h.defers⟩
theorem anG{cx:Cx K}{ops:List Oper}:∀(l:List Oper)(st st':St K)(wr wr':List Nat),lT cx ops l st wr=some (st',wr')->lU st.tm wr->lU st'.tm wr'
 |[],st,st',wr,wr',h,ho=>by simp only[lT,aD,cw]at h;obtain⟨rfl,rfl⟩:=h;exact ho
 |o::r,st,st',wr,wr',h,ho=>by
  simp only[lT]at h;split at h
  ·rename_i st1 iM h1;refine anG r st1 st' iM wr' h ?_;unfold xZ at h1;split at h1
   ·rename_i v H1 c hsv;obtain⟨-,-,p3⟩:=rU h1;rcases p3 with⟨e1,e2,e3⟩|⟨d,e1,e2,e3,e4,e5⟩
    ·rw[e2,e3];exact ho
    ·rw[e4,e5];exact ho.put (yk hsv)
   ·cases h1
  ·cases h
theorem aFj{cx:Cx K}{op:Op}(h:jo cx op=true):nU cx op=true:=by
 unfold nU;split
 ·rfl
 ·simp only[jo]at h;simp[h]
 ·simp only[jo,bD]at h;simp[h.1]
 ·exact h
theorem SY{cx:Cx K}{ops:List Oper}{π:List Nat}{st st':St K}(h:F5 cx ops π st=some st'):F4 π ops.length=true/\qs cx (permuted π ops) st=some st':=by
 unfold F5 at h;split at h
 ·rename_i hp;exact⟨hp,h⟩
 ·cases h
theorem anH{cx:Cx K}{ops:List Oper}{st st':St K}(h:Q5 cx ops st=some st'):qs cx ops st=some st'\/∃π,F4 π ops.length=true/\qs cx (permuted π ops) st=some st':=by
 unfold Q5 at h;split at h
 ·split at h
  ·rename_i r hr;simp only[aD]at h;subst h;exact .inl hr
  ·exact .inr ⟨_,SY h⟩
 ·split at h
  ·rename_i r hr;simp only[aD]at h;subst h;exact .inr ⟨_,SY hr⟩
  ·exact .inr ⟨_,SY h⟩
theorem anI{cx:Cx K}(hD:bT cx.D)(hc:aI cx){n0:Nat}{ops:Array Oper}{st st':St K}(h:qs cx ops.toList st=some st'):
 (st'.ok=true->st.ok=true)/\(st'.ok=true->dz st.tm->dz st'.tm/\∀(ρ:List Value)(S:Nat->Prop)(a:Act)(w:World),n0<=st.H.length->Sat cx ρ S a w st->
   wpAny cx.P .any ops (fun e' a' w'=>e'=Ex.normal.nO/\n0<=st'.H.length/\∃ρ' S',Sat cx ρ' S' a' w' st'/\Step cx.D n0 ρ S st.H w ρ' S' st'.H w') ops.size (Array.replicate ops.size false) a {w with drawn:=w.drawn+1}):=by
 unfold qs at h;split at h
 ·rename_i hsm;simp only[bD]at hsm;split at h
  ·rename_i s1 wr hr;simp only[aD]at h;subst h;have hk:=SE _ _ _ _ _ _ hr;refine⟨fun hok=>(hk hok).1,fun hok h0=>?_⟩;obtain⟨vals,hd,hwr⟩:=aES hr hok;have hH:=(hk hok).2;have SI:∀(i:Nat) o,ops.toList[i]?=some o->nU cx o.op=true:=fun i o ho=>
    dr.1 hsm.1 o (jS ho)
   have mr:lU s1.tm wr:=fun t g b v e=>by
    rcases AS ops.toList t with hn|⟨k,o,hk1,hk2⟩
    ·rw[hd.rest t hn]at e;exact absurd e (h0 t g b v)
    ·rw[hd.fin k o t hk1 hk2]at e;refine⟨(hwr t).2 ⟨k,o,hk1,hk2⟩,?_⟩;obtain⟨de,dU,H1,q1,q2,q3,q4,q5⟩:=hd.slot k o hk1;simp only[aD]at e;rw[e]at q1;obtain⟨k',o',-,c2,c3⟩:=q5 g (yk q1 g b v rfl);exact(hwr g).2 ⟨k',o',c2,c3⟩
   refine⟨dz.wipe mr,fun ρ S a w hn bN=>?_⟩;have rX:=bN.drawn (w.drawn+1);have hall:ops=ops.toList.toArray:=by simp
   have hmid:Mid cx ops.toList st.tm vals st.H ρ S (Array.replicate ops.size false) a {w with drawn:=w.drawn+1}:=by
    have hf:∀(k:Nat),(Array.replicate ops.size false)[k]?≠some true:=fun k e=>by
     rw[L9]at e;split at e<;>simp at e
    refine⟨rX.heap,rX.defers,rX.slots.len.symm,by simp,fun t v x hn1 h1 h2=>?_,fun k o d x h1 h2=>absurd h2 (hf k),fun k g b y h1=>absurd h1 (hf k),fun k o h1 h2=>absurd h2 (hf k)⟩;have:=rX.slots.ok t v x h1 h2;cases v with
    |opt g b y=>exact absurd h1 (h0 t g b y)
    |_=>exact this
   rw[hH];have key:=aET hD hc SI hsm.2 hd h0 (n0:=n0) hn (Q:=fun e' a' w'=>e'=Ex.normal.nO/\n0<=st.H.length/\∃ρ' S',Sat cx ρ' S' a' w' ⟨jI s1.tm wr,st.H,s1.ok⟩/\Step cx.D n0 ρ S st.H w ρ' S' st.H w') ops.size (Array.replicate ops.size false) ρ S a {w with drawn:=w.drawn+1} hmid (anb _) fun ρ' S' a' w' g1 g2 g3 g4=>by
    exact⟨rfl,hn,ρ',S',⟨g1,g2.wipe _ _,g3⟩,g4.drew⟩
   rw[<-hall]at key;exact key
  ·cases h
 ·split at h
  ·rename_i SZ;split at h
   ·rename_i s1 wr hr;simp only[aD]at h;subst h;refine⟨fun hok=>SQ _ _ _ _ _ _ _ _ hr hok,fun hok h0=>?_⟩;obtain⟨F,ms,ws,hp⟩:=aE8 hr hok;have mr:lU s1.tm wr:=fun t g b v e=>by
     rcases AS ops.toList t with hn|⟨k,o,hk1,hk2⟩
     ·rw[hp.rest t fun k o _ h=>hn k o h]at e;exact absurd e (h0 t g b v)
     ·have mT:=(bc.1 hk1).1;rw[hp.fin k o t mT hk1 hk2]at e;refine⟨(hp.mS t).2 ⟨k,o,mT,hk1,hk2⟩,?_⟩;obtain⟨de,dU,fs⟩:=hp.slot k o mT hk1;simp only[aD]at e;have q1:=fs.slot;rw[e]at q1;have hg:g∈dU:=by
       unfold Aw at q1;split at q1
       ·exact yk q1 g b v rfl
       ·split at q1
        ·exact yk q1 g b v rfl
        ·cases q1
      obtain⟨k',o',c1,c2,c3⟩:=fs.dU g hg;exact(hp.mS g).2 ⟨k',o',by omega,c2,c3⟩
    refine⟨dz.wipe mr,fun ρ S a w hn bN=>?_⟩;have rX:=bN.drawn (w.drawn+1);have hall:ops=ops.toList.toArray:=by simp
    have hmid:=kE.start hp rX.heap rX.defers rX.slots h0;have aFk:=Step.pad (n:=s1.H.length) (n0:=n0) rX.heap hn;have key:=aFe hD hc SZ hp (n0:=n0) hn (Q:=fun e' a' w'=>e'=Ex.normal.nO/\n0<=s1.H.length/\∃ρ' S',Sat cx ρ' S' a' w' ⟨jI s1.tm wr,s1.H,s1.ok⟩/\Step cx.D n0 ρ S st.H w ρ' S' s1.H w') ops.size (Array.replicate ops.toList.length false) _ _ S a {w with drawn:=w.drawn+1} hmid (by have:=anb ops.toList.length;simpa using this) fun ρ' S' a' w' g1 g2 g3 g4=>by
     have g5:=aFk.trans g4;exact⟨rfl,cq hn hp.len0,ρ',S',⟨g1,g2.wipe _ _,g3⟩,g5.drew⟩
    rw[<-hall]at key;simpa using key
   ·cases h
  ·cases h
theorem AU{cx:Cx K}(hD:bT cx.D)(hc:aI cx)(hm:cx.P.follows .mixedOrders=true){n0:Nat}{id:Nat}{ops:Array Oper}{draw:Bool}{st st':St K}(h:i6 cx ops.toList draw st=some st'):
 (st'.ok=true->st.ok=true)/\(st'.ok=true->dz st.tm->dz st'.tm/\Tr cx n0 (.region id ops draw) st .normal st'):=by
 unfold i6 at h;split at h
 ·rename_i hdr;subst hdr;rcases anH h with h|⟨π,hp,h⟩
  ·obtain⟨h1,h2⟩:=anI (n0:=n0) hD hc h;refine⟨h1,fun hok h0=>⟨(h2 hok h0).1,fun ρ S a w hn bN=>wp_region_any hm ((h2 hok h0).2 ρ S a w hn bN)⟩⟩
  ·have hp':=anC hp;have e:ops.toList.toArray=ops:=by simp
   rw[e]at hp';have h':qs cx ((permuted π ops.toList).toArray).toList st=some st':=h;obtain⟨h1,h2⟩:=anI (n0:=n0) hD hc h';refine⟨h1,fun hok h0=>⟨(h2 hok h0).1,fun ρ S a w hn bN=>wp_region_any hm ?_⟩⟩;have:=(h2 hok h0).2 ρ S a w hn bN;rw[hp'.len']at this;exact aFi hp' _ _ _ _ _ ⟨by simp,by simp,fun j i hj=>by
    obtain⟨o,ho,ho'⟩:=hp'.ops j i hj;have hi:=(ic.1 ho).1;have hj':=(ic.1 ho').1;rw[hp'.len']at hj';rw[L9,L9,cz hi,cz hj']⟩ this
 ·rename_i hdr;split at h
  ·rename_i s1 wr hr;simp only[aD]at h;subst h;refine⟨fun hok=>Sz _ _ _ _ _ hr hok,fun hok h0=>?_⟩;refine⟨dz.wipe (anG _ _ _ _ _ hr h0.in),fun ρ S a w hn bN=>?_⟩;have hdr':draw=false:=by simpa using hdr
   subst hdr';refine wp_region_list ?_;have key:=amY (n0:=n0) hD hc ops.toList st s1 [] wr ρ S a w hr hok bN h0.in hn (Q:=fun e' a' w'=>e'=Ex.normal.nO/\n0<=s1.H.length/\∃ρ' S',Sat cx ρ' S' a' w' ⟨jI s1.tm wr,s1.H,s1.ok⟩/\Step cx.D n0 ρ S st.H w ρ' S' s1.H w') fun ρ' S' a' w' g1 g2 g3=>
    ⟨rfl,g3.grow bN.heap g1.heap hn,ρ',S',⟨g1.heap,g1.slots.wipe _ _,g1.defers⟩,g3⟩
   exact key
  ·cases h
theorem S3:∀(wr:List Nat)(tm:List (AV K))(t:Nat),t∉wr->(jI tm wr)[t]?=tm[t]?
 |[],tm,t,h=>rfl
 |d::r,tm,t,h=>by
  simp only[gz,not_or]at h;simp only[jI];split
  ·rw[S3 r _ t h.2,List.getElem?_set_ne (By h.1)]
  ·exact S3 r tm t h.2
theorem S4:∀(wr:List Nat)(tm:List (AV K)),(jI tm wr).length=tm.length
 |[],tm=>rfl
 |d::r,tm=>by
  simp only[jI];split
  ·rw[S4 r];simp
  ·exact S4 r tm
theorem aFl{q:Bool}{cx:Cx K}{ops:List Oper}{tm:List (AV K)}{wr:List Nat}{o:Oper}{v:AV K}{c:Bool}(hs:jo cx o.op=true)(h:iY q cx ops tm H wr o=some (v,H',c)):H'=H:=by
 unfold iY at h;split at h
 ·cases h
 ·split at h
  ·rename_i hy;split at h
   ·cases h
   ·simp only[aD,cw]at h;obtain⟨-,rfl,-⟩:=h;exact amW hs hy
  ·cases h
 ·split at h
  ·split at h
   ·split at h
    ·split at h
     ·rename_i hy;split at h
      ·cases h
      ·simp only[aD,cw]at h;obtain⟨-,rfl,-⟩:=h;exact amW hs hy
     ·cases h
    ·simp only[aD,cw]at h;exact h.2.1.symm
   ·cases h
  split at h
  ·cases h
  ·split at h
   ·split at h
    ·simp only[aD,cw]at h;exact h.2.1.symm
    ·cases h
   ·cases h
structure Quiet (st st':St K) (wr:List Nat):Prop where
 H:st'.H=st.H
 len:st'.tm.length=st.tm.length
 rest:∀t,t∉wr->st'.tm[t]?=st.tm[t]?
theorem anJ{st st':St K}{wr wr' ds:List Nat}{dst:Option Nat}{v:AV K}{ok:Bool}(h:xY st wr dst v st.H ok=some (st',wr'))(hd:∀d,dst=some d->d∈ds)(hw:∀d∈wr,d∈ds):Quiet st st' ds/\∀d∈wr',d∈ds:=by
 obtain⟨p1,p2,p3⟩:=rU h;rcases p3 with⟨e1,e2,e3⟩|⟨d,e1,e2,e3,e4,e5⟩
 ·exact⟨⟨p1,by rw[e2],fun t _=>by rw[e2]⟩,by rw[e3];exact hw⟩
 ·refine⟨⟨p1,by rw[e4];simp,fun t ht=>?_⟩,fun d' hd'=>?_⟩
  ·rw[e4,List.getElem?_set_ne fun e=>ht (by rw[<-e];exact hd d e1)]
  ·rw[e5]at hd';rcases gz.1 hd' with rfl|h'
   ·exact hd _ e1
   ·exact hw _ h'
theorem Quiet.trans{st st1 st2:St K}{wr:List Nat}(a:Quiet st st1 wr)(b:Quiet st1 st2 wr):Quiet st st2 wr:=
 ⟨b.H.trans a.H,b.len.trans a.len,fun t ht=>(b.rest t ht).trans (a.rest t ht)⟩
theorem Quiet.more{st st1:St K}{wr wr':List Nat}(a:Quiet st st1 wr)(h:∀d∈wr,d∈wr'):Quiet st st1 wr':=⟨a.H,a.len,fun t ht=>a.rest t fun h'=>ht (h t h')⟩
theorem anK{cx:Cx K}{ops:List Oper}{ds:List Nat}:∀(l:List Oper)(st st':St K)(wr wr':List Nat),lT cx ops l st wr=some (st',wr')->(∀o∈l,jo cx o.op=true)->(∀o∈l,∀d,o.dst=some d->d∈ds)->(∀d∈wr,d∈ds)->Quiet st st' ds/\∀d∈wr',d∈ds
 |[],st,st',wr,wr',h,_,_,hw=>by simp only[lT,aD,cw]at h;obtain⟨rfl,rfl⟩:=h;exact⟨⟨rfl,rfl,fun _ _=>rfl⟩,hw⟩
 |o::r,st,st',wr,wr',h,hs,hd,hw=>by
  simp only[lT]at h;split at h
  ·rename_i st1 iM h1;unfold xZ at h1;split at h1
   ·rename_i v H1 c hsv;have hH:=aFl (hs o (by simp)) hsv;subst hH;obtain⟨q1,q2⟩:=anJ h1 (fun d e=>hd o (by simp) d e) hw;obtain⟨q3,q4⟩:=anK r st1 st' iM wr' h (fun o ho=>hs o (by simp[ho])) (fun o ho=>hd o (by simp[ho])) q2;exact⟨q1.trans q3,q4⟩
   ·cases h1
  ·cases h
theorem anL{cx:Cx K}{L:List Oper}{bs ds:List Nat}:∀(l:List Oper)(i:Nat)(st st':St K)(wr wr':List Nat),mP cx L bs l i st wr=some (st',wr')->(∀o∈l,∀d,o.dst=some d->d∈ds)->(∀d∈wr,d∈ds)->Quiet st st' ds/\∀d∈wr',d∈ds
 |[],i,st,st',wr,wr',h,_,hw=>by simp only[mP,aD,cw]at h;obtain⟨rfl,rfl⟩:=h;exact⟨⟨rfl,rfl,fun _ _=>rfl⟩,hw⟩
 |o::r,i,st,st',wr,wr',h,hd,hw=>by
  simp only[mP]at h;split at h
  ·split at h
   ·rename_i st1 iM h1;obtain⟨q1,q2⟩:=anJ h1 (fun d e=>hd o (by simp) d e) hw;obtain⟨q3,q4⟩:=anL r _ st1 st' iM wr' h (fun o ho=>hd o (by simp[ho])) q2;exact⟨q1.trans q3,q4⟩
   ·cases h
  ·cases h
theorem Quiet.wipe{st st1:St K}{wr ds:List Nat}(a:Quiet st st1 ds)(h:∀d∈wr,d∈ds):Quiet st ⟨jI st1.tm wr,st1.H,st1.ok⟩ ds:=
 ⟨a.H,by simp[S4,a.len],fun t ht=>by dsimp only;rw[S3 wr _ t fun h'=>ht (h t h')];exact a.rest t ht⟩
theorem Nw{cx:Cx K}{ops:List Oper}{draw:Bool}{st:St K}{b:Bool}{s1 s2:St K}:∀(l:List Nat),F6 cx ops draw st l=some (b,s1,s2)->
 ∃t,i6 {cx with gs:=[(t,true)]} ops draw st=some s1/\i6 {cx with gs:=[(t,false)]} ops draw st=some s2
 |[],h=>by cases h
 |t::r,h=>by
  unfold F6 at h;split at h
  ·rename_i a1 a2 h1 h2;split at h
   ·simp only[aD,cw]at h;obtain⟨-,rfl,rfl⟩:=h;exact⟨t,h1,h2⟩
   ·exact Nw r h
  ·exact Nw r h
theorem Sat.gs{cx:Cx K}{g:List (Nat×Bool)}{a:Act}{st:St K}(h:Sat cx ρ S a w st):Sat {cx with gs:=g} ρ S a w st:=⟨h.heap,h.slots,h.defers⟩
theorem Sat.aFm{cx:Cx K}{g:List (Nat×Bool)}{a:Act}{st:St K}(h:Sat {cx with gs:=g} ρ S a w st):Sat cx ρ S a w st:=⟨h.heap,h.slots,h.defers⟩
theorem Tr.gs{cx:Cx K}{g:List (Nat×Bool)}{n0:Nat}{c:Code}{st st':St K}{e:Ex}(h:Tr {cx with gs:=g} n0 c st e st'):Tr cx n0 c st e st':=fun ρ S a w hn hs=>
 wp_mono (h ρ S a w hn hs.gs) fun e' a' w' ⟨h1,h2,ρ',S',h3,h4⟩=>⟨h1,h2,ρ',S',h3.aFm,h4⟩
def iC.All(Q:St K->Prop):iC K->Prop
 |.no=>True
 |.leaf s=>Q s
 |.node _ x y=>x.All Q/\y.All Q
 |.two x y=>Q x/\Q y
theorem iC.S5{cx:Cx K}{Q:St K->Prop}(hor:∀{R:Type}(a b:Option R)(r:R),cx.FT a b=some r->a=some r\/b=some r):∀(T:iC K),T.All Q->∀{R:Type}{k:St K->Option R}{r:R},T.go cx k=some r->∃s,Q s/\k s=some r
 |.no,_,R,k,r,h=>by cases h
 |.leaf s,hq,R,k,r,h=>⟨s,hq,h⟩
 |.node b x y,hq,R,k,r,h=>by
   cases b with
   |true=>exact iC.S5 hor x hq.1 h
   |false=>exact iC.S5 hor y hq.2 h
 |.two x y,hq,R,k,r,h=>by
   rcases hor _ _ _ h with h|h
   ·exact⟨x,hq.1,h⟩
   ·exact⟨y,hq.2,h⟩
theorem S7{cx:Cx K}{ops:List Oper}{draw:Bool}{st:St K}{Q:St K->Prop}(h0:∀gs s,i6 {cx with gs:=gs} ops draw st=some s->Q s)
 (h1:∀x gs s,i6 {cx with call:=cx.alt x,mode:=cx.rD x,gs:=gs} ops draw st=some s->Q s):∀(n:Nat)(gs:List (Nat×Bool))(T:iC K),F7 cx ops draw st n gs=some T->T.All Q
 |0,gs,T,h=>by cases h
 |n+1,gs,T,h=>by
  unfold F7 at h;split at h
  ·rename_i s hs;cases h;exact h0 gs s hs
  ·split at h
   ·rename_i s1 s2 e1 e2;cases h;exact⟨h1 true gs s1 e1,h1 false gs s2 e2⟩
   ·split at h
    ·split at h
     ·rename_i x y ex ey;cases h;exact⟨S7 h0 h1 n _ x ex,S7 h0 h1 n _ y ey⟩
     ·cases h
    ·split at h
     ·cases h;trivial
     ·cases h
theorem iC.Nx{Q:St K->Prop}:∀(T:iC K),T.All Q->∀{R:Type}{k:St K->Option R}{r:R},T.MK k=some r->∃s,Q s/\k s=some r
 |.no,_,R,k,r,h=>by cases h
 |.leaf s,hq,R,k,r,h=>⟨s,hq,h⟩
 |.node b x y,hq,R,k,r,h=>by
   cases b with
   |true=>exact iC.Nx x hq.1 h
   |false=>exact iC.Nx y hq.2 h
 |.two x y,hq,R,k,r,h=>by cases h
theorem Ny{cx:Cx K}{ops:List Oper}{draw:Bool}{st:St K}{Q:St K->Prop}(h0:∀gs s,i6 {cx with gs:=gs} ops draw st=some s->Q s):
 ∀(n:Nat)(gs:List (Nat×Bool))(T:iC K),F8 cx ops draw st n gs=some T->T.All Q
 |0,gs,T,h=>by cases h
 |n+1,gs,T,h=>by
  unfold F8 at h;split at h
  ·rename_i s hs;cases h;exact h0 gs s hs
  ·split at h
   ·split at h
    ·rename_i x y ex ey;cases h;exact⟨Ny h0 n _ x ex,Ny h0 n _ y ey⟩
    ·cases h
   ·split at h
    ·cases h;trivial
    ·cases h
theorem Sat.call{cx:Cx K}{g:FuncId->List (AV K)->List (Ob K)->Option (AV K×List (Ob K)×Bool)}{m:FuncId->Mode}{a:Act}{st:St K}(h:Sat cx ρ S a w st):Sat {cx with call:=g,mode:=m} ρ S a w st:=⟨h.heap,h.slots,h.defers⟩
theorem Sat.aFn{cx:Cx K}{g:FuncId->List (AV K)->List (Ob K)->Option (AV K×List (Ob K)×Bool)}{m:FuncId->Mode}{a:Act}{st:St K}(h:Sat {cx with call:=g,mode:=m} ρ S a w st):Sat cx ρ S a w st:=⟨h.heap,h.slots,h.defers⟩
theorem Tr.call{cx:Cx K}{g:FuncId->List (AV K)->List (Ob K)->Option (AV K×List (Ob K)×Bool)}{m:FuncId->Mode}{n0:Nat}{c:Code}{st st':St K}{e:Ex}(h:Tr {cx with call:=g,mode:=m} n0 c st e st'):Tr cx n0 c st e st':=fun ρ S a w hn hs=>
 wp_mono (h ρ S a w hn hs.call) fun e' a' w' ⟨h1,h2,ρ',S',h3,h4⟩=>⟨h1,h2,ρ',S',h3.aFn,h4⟩
theorem S8{cx:Cx K}{g:List (Nat×Bool)}:∀(o:Op),jo {cx with gs:=g} o=jo cx o:=fun o=>by
 unfold jo;rfl
theorem Nz{cx:Cx K}{id:Nat}{ops:Array Oper}{draw:Bool}{st st':St K}(hs:∀o∈ops.toList,jo cx o.op=true)(hr:i6 cx ops.toList draw st=some st'):Quiet st st' (writes (.region id ops draw)):=by
 have hd:∀o∈ops.toList,∀d,o.dst=some d->d∈writes (.region id ops draw):=fun o ho d hd=>by
  simp only[writes,List.mem_filterMap];exact⟨o,ho,hd⟩
 have dq:∀(L:List Oper),(∀o∈L,jo cx o.op=true)->(∀o∈L,∀d,o.dst=some d->d∈writes (.region id ops draw))->qs cx L st=some st'->Quiet st st' (writes (.region id ops draw)):=fun L hs hd hr=>by
  unfold qs at hr;split at hr
  ·split at hr
   ·rename_i s1 wr h1;simp only[aD]at hr;subst hr;obtain⟨q1,q2⟩:=anL _ _ _ _ _ _ h1 hd (by simp);exact q1.wipe q2
   ·cases hr
  ·rename_i hnq;split at hr
   ·rename_i SZ;exact absurd (by rw[bD];exact⟨dr.2 fun o ho=>aFj (hs o ho),SZ⟩) hnq
   ·cases hr
 unfold i6 at hr;split at hr
 ·rcases anH hr with hr|⟨π,hp,hr⟩
  ·exact dq _ hs hd hr
  ·have hp':=anC hp;have src:∀o∈permuted π ops.toList,∃o1∈ops.toList,o=ya π ops.toList.length o1:=fun o ho=>by
    obtain⟨j,hj,e⟩:=iy ho;have hjn:j<π.length:=by simpa [permuted]using hj
    obtain⟨o1,h1,h2⟩:=hp'.ops j _ (bG hjn);have h3:(permuted π ops.toList)[j]?=some o:=by rw[bG hj,e]
    have h4:=h3.symm.trans (by simpa using h2);exact⟨o1,jS (by simpa using h1),by simpa using jl h4⟩
   refine dq _ (fun o ho=>?_) (fun o ho d hod=>?_) hr
   ·obtain⟨o1,h1,rfl⟩:=src o ho;exact hs o1 h1
   ·obtain⟨o1,h1,rfl⟩:=src o ho;exact hd o1 h1 d hod
 ·split at hr
  ·rename_i s1 wr h1;simp only[aD]at hr;subst hr;obtain⟨q1,q2⟩:=anK _ _ _ _ _ h1 hs hd (by simp);exact q1.wipe q2
  ·cases hr
theorem AW{cx:Cx K}:∀(c:Code),simple cx c=true->∀{R:Type}(st:St K)(k:Ex->St K->Option R)(r:R),fQ cx c st k=some r->∃st',k .normal st'=some r/\Quiet st st' (writes c)
 |.skip,_,R,st,k,r,h=>⟨st,h,rfl,rfl,fun _ _=>rfl⟩
 |.region id ops draw,hs,R,st,k,r,h=>by
   simp only[fQ]at h;have hs':∀o∈ops.toList,jo cx o.op=true:=by simpa only[simple,dr]using hs
   split at h
   ·rename_i st' hr;exact⟨st',h,Nz hs' hr⟩
   ·split at h
    ·rename_i b s1 s2 hsp;obtain⟨t,h1,h2⟩:=Nw _ hsp;cases b with
     |true=>exact⟨s1,h,Nz (cx:={cx with gs:=[(t,true)]}) (fun o ho=>by rw[S8];exact hs' o ho) h1⟩
     |false=>exact⟨s2,h,Nz (cx:={cx with gs:=[(t,false)]}) (fun o ho=>by rw[S8];exact hs' o ho) h2⟩
    ·rw[cz (dr.2 hs')]at h;split at h
     ·rename_i T hT;obtain⟨s,hq,hk⟩:=iC.Nx _ (Ny (Q:=fun s'=>Quiet st s' (writes (.region id ops draw))) (fun gs s' hr=>Nz (cx:={cx with gs:=gs}) (fun o ho=>by rw[S8];exact hs' o ho) hr) 4 [] T hT) h;exact⟨s,hk,hq⟩
     ·cases h
 |.seq a b,hs,R,st,k,r,h=>by
   simp only[simple,bD]at hs;simp only[fQ]at h;obtain⟨s1,h1,q1⟩:=AW a hs.1 st _ r h;obtain⟨s2,h2,q2⟩:=AW b hs.2 s1 k r h1;exact⟨s2,h2,(q1.more fun d hd=>by simp[writes,hd]).trans (q2.more fun d hd=>by simp[writes,hd])⟩
 |.cond c a b,hs,R,st,k,r,h=>by
   have hs':=hs;simp only[simple,bD]at hs;simp only[fQ]at h;split at h
   ·rename_i t ht;rw[cz (by simp[hs.1,hs.2])]at h;split at h
    ·rename_i sa sb ha hb;refine⟨_,h,?_⟩;obtain⟨s1,g1,q1⟩:=AW a hs.1 st _ sa ha;obtain⟨s2,g2,q2⟩:=AW b hs.2 st _ sb hb;simp only[Az,aD]at g1 g2;subst g1;subst g2;have hlen:∀(wr:List Nat)(l s t':List (AV K))(n:Nat),s.length=l.length->t'.length=l.length->(jJ t wr n l s t').length=l.length:=fun wr l=>by
      induction l with
      |nil=>intro s t' n h1 h2;simp at h1 h2;subst h1;subst h2;rfl
      |cons x l ih=>
       intro s t' n h1 h2;cases s with
       |nil=>simp at h1
       |cons y s=>
        cases t' with
        |nil=>simp at h2
        |cons z t'=>
         simp only[jJ,aZ];rw[ih s t' (n+1) (by simpa using h1) (by simpa using h2)]
     have hget:∀(wr:List Nat)(l s t':List (AV K))(n i:Nat),s.length=l.length->t'.length=l.length->n+i∉wr->(jJ t wr n l s t')[i]?=l[i]?:=fun wr l=>by
      induction l with
      |nil=>intro s t' n i h1 h2 _;simp at h1 h2;subst h1;subst h2;rfl
      |cons x l ih=>
       intro s t' n i h1 h2 hni;cases s with
       |nil=>simp at h1
       |cons y s=>
        cases t' with
        |nil=>simp at h2
        |cons z t'=>
         simp only[jJ];cases i with
         |zero=>simp only[Nat.add_zero]at hni;simp[hni]
         |succ i=>
          simp only[List.getElem?_cons_succ];exact ih s t' (n+1) i (by simpa using h1) (by simpa using h2) (by rw[kK,QH 1 i];exact hni)
     refine⟨rfl,hlen _ _ _ _ _ q1.len q2.len,fun i hi=>?_⟩;exact hget _ _ _ _ 0 i q1.len q2.len (by rw[gV];simpa [writes]using hi)
    ·cases h
   ·cases h
 |.block ..,hs,R,st,k,r,h=>by simp[simple]at hs
 |.loop ..,hs,R,st,k,r,h=>by simp[simple]at hs
 |.exit ..,hs,R,st,k,r,h=>by simp[simple]at hs
 |.ret,hs,R,st,k,r,h=>by simp[simple]at hs
 |.scope ..,hs,R,st,k,r,h=>by simp[simple]at hs
 |.rangeFunc ..,hs,R,st,k,r,h=>by simp[simple]at hs
 |.goto ..,hs,R,st,k,r,h=>by simp[simple]at hs
 |.label ..,hs,R,st,k,r,h=>by simp[simple]at hs
end Go.V
namespace Go.V
open Go
variable {K :dc}{ρ ρ':List Value}{S S':Nat->Prop}{w w':World}{H H':List (Ob K)}
def bg(cx:Cx K)(c:Code)(L:bf K):Prop:=
 ∀(vals:List (AV K))(Hi:List (Ob K))(R:Type)(k:Ex->List (AV K)->List (Ob K)->Option R)(r:R),L.run vals Hi k=some r->
  ∃e vs Ho,k e vs Ho=some r/\Tr cx Hi.length (.loop c) ⟨ej (List.replicate L.n .any) L.ins vals,Hi,true⟩ e ⟨ej (List.replicate L.n .any) L.outs vs,Ho,true⟩
def iu(cx:Cx K):Code->Prop
 |.loop c=>∀L,cx.loop (keyOf c)=some L->bg cx c L
 |.seq a b=>iu cx a/\iu cx b
 |.cond _ a b=>iu cx a/\iu cx b
 |.block _ c=>iu cx c
 |_=>True
theorem aFo:∀(b:Bool)(x y:AV K),(merge b x y).jF=false:=by
 intro b x y;cases x<;>cases y<;>simp only[merge]<;>(try split)<;>rfl
theorem S9{t:Bool}{wr:List Nat}:∀(l s s':List (AV K))(n i:Nat)(v:AV K),(jJ t wr n l s s')[i]?=some v->
 (n+i∉wr/\l[i]?=some v)\/∃x y,s[i]?=some x/\s'[i]?=some y/\v=merge t x y
 |[],s,s',n,i,v,h=>by simp[jJ]at h
 |x::l,[],s',n,i,v,h=>by simp[jJ]at h
 |x::l,y::s,[],n,i,v,h=>by simp[jJ]at h
 |x::l,y::s,z::s',n,0,v,h=>by
  simp only[jJ,List.getElem?_cons_zero,aD]at h;subst h;by_cases hc:n∈wr
  ·exact .inr ⟨y,z,rfl,rfl,by simp[hc]⟩
  ·exact .inl ⟨hc,by simp[hc]⟩
 |x::l,y::s,z::s',n,i+1,v,h=>by
  simp only[jJ,List.getElem?_cons_succ]at h;rcases S9 l s s' (n+1) i v h with⟨h1,h2⟩|⟨a,b,h1,h2,h3⟩
  ·exact .inl ⟨by rw[QH i 1,<-kK];exact h1,by simpa using h2⟩
  ·exact .inr ⟨a,b,by simpa using h1,by simpa using h2,h3⟩
theorem anM{t:Bool}{wr:List Nat}:∀(l s s':List (AV K))(n:Nat),s.length=l.length->s'.length=l.length->(jJ t wr n l s s').length=l.length
 |[],s,s',n,h1,h2=>by cases s<;>cases s'<;>simp[jJ]
 |x::l,[],s',n,h1,h2=>by simp at h1
 |x::l,y::s,[],n,h1,h2=>by simp at h2
 |x::l,y::s,z::s',n,h1,h2=>by
  simp only[jJ,aZ];rw[anM l s s' (n+1) (by simpa using h1) (by simpa using h2)]
theorem fg.rep{D:bL K}{tm:List (AV K)}{tmps:Array Value}(h:fg D ρ S w tm tmps)(h0:dz tm){t:Nat}{v:AV K}{x:Value}(hv:tm[t]?=some v)(hx:tmps[t]?=some x):Rep D ρ S w v x:=by
 have:=h.ok t v x hv hx;cases v with
 |opt g b y=>exact absurd hv (h0 t g b y)
 |_=>exact this
theorem aFp{D:bL K}{t:Bool}{wr:List Nat}{l sa sb:List (AV K)}{tmps:Array Value}(hab:dz (cond t sa sb))(la:sa.length=l.length)(lb:sb.length=l.length)(ra:∀t,t∉wr->sa[t]?=l[t]?)(rb:∀t,t∉wr->sb[t]?=l[t]?)
 (h:fg D ρ S w (cond t sa sb) tmps):fg D ρ S w (jJ t wr 0 l sa sb) tmps:=by
 refine⟨by rw[anM _ _ _ _ la lb,<-h.len];cases t<;>simp[la,lb],fun i v x hv hx=>?_⟩;rcases S9 l sa sb 0 i v hv with⟨h1,h2⟩|⟨a,b,h1,h2,rfl⟩
 ·rw[gV]at h1;refine .kD ?_;cases t
  ·exact h.rep hab (by rw[ef,rb i h1];exact h2) hx
  ·exact h.rep hab (by rw[cr,ra i h1];exact h2) hx
 ·refine .kD (amB (fun e=>?_) fun e=>?_)
  ·subst e;exact h.rep hab h1 hx
  ·subst e;exact h.rep hab h2 hx
theorem aFq{t:Bool}{wr:List Nat}{l sa sb:List (AV K)}(h0:dz l):dz (jJ t wr 0 l sa sb):=fun i g b v e=>by
 rcases S9 l sa sb 0 i _ e with⟨-,h2⟩|⟨x,y,-,-,h3⟩
 ·exact h0 i g b v h2
 ·have:=aFo t x y;rw[<-h3]at this;simp[AV.jF]at this
theorem yo:∀(ds:List Nat)(vs tm:List (AV K)),(ej tm ds vs).length=tm.length
 |[],vs,tm=>by simp[ej]
 |d::r,[],tm=>by simp[ej]
 |d::r,v::vs,tm=>by simp only[ej];rw[yo r vs];simp
theorem AX:∀(ds:List Nat)(vs tm:List (AV K))(t:Nat)(v:AV K),(ej tm ds vs)[t]?=some v->tm[t]?=some v\/∃i:Nat,ds[i]?=some t/\vs[i]?=some v
 |[],vs,tm,t,v,h=>.inl (by simpa [ej]using h)
 |d::r,[],tm,t,v,h=>.inl (by simpa [ej]using h)
 |d::r,x::vs,tm,t,v,h=>by
  simp only[ej]at h;rcases AX r vs _ t v h with h1|⟨i,h1,h2⟩
  ·rcases fy h1 with⟨rfl,rfl,-⟩|⟨-,h1⟩
   ·exact .inr ⟨0,rfl,rfl⟩
   ·exact .inl h1
  ·exact .inr ⟨i+1,by simpa using h1,by simpa using h2⟩
theorem anN{p:AV K->AV K->Prop}:∀(ds:List Nat)(vs vs' tm tm':List (AV K)),vs.length=vs'.length->tm.length=tm'.length->(∀(i:Nat) v v',vs[i]?=some v->vs'[i]?=some v'->p v v')->(∀(t:Nat) v v',tm[t]?=some v->tm'[t]?=some v'->p v v')->
 ∀(t:Nat) v v',(ej tm ds vs)[t]?=some v->(ej tm' ds vs')[t]?=some v'->p v v'
 |[],vs,vs',tm,tm',h1,h2,h3,h4,t,v,v',g1,g2=>h4 t v v' (by simpa [ej]using g1) (by simpa [ej]using g2)
 |d::r,[],[],tm,tm',h1,h2,h3,h4,t,v,v',g1,g2=>h4 t v v' (by simpa [ej]using g1) (by simpa [ej]using g2)
 |d::r,[],_::_,tm,tm',h1,h2,h3,h4,t,v,v',g1,g2=>by simp at h1
 |d::r,_::_,[],tm,tm',h1,h2,h3,h4,t,v,v',g1,g2=>by simp at h1
 |d::r,x::vs,x'::vs',tm,tm',h1,h2,h3,h4,t,v,v',g1,g2=>by
  simp only[ej]at g1 g2;refine anN r vs vs' _ _ (by simpa using h1) (by simpa using h2) (fun i a b ha hb=>h3 (i+1) a b (by simpa using ha) (by simpa using hb)) (fun k a b ha hb=>?_) t v v' g1 g2;rcases fy ha with⟨rfl,rfl,-⟩|⟨hne,ha⟩
  ·rcases fy hb with⟨-,rfl,-⟩|⟨hne,-⟩
   ·exact h3 0 _ _ rfl rfl
   ·exact absurd rfl hne
  ·rcases fy hb with⟨rfl,-⟩|⟨-,hb⟩
   ·exact absurd rfl hne
   ·exact h4 k a b ha hb
theorem yp{f:Nat->Option Nat}:∀(l l':List (AV K)),jG f l=some l'->l'.length=l.length/\∀(i:Nat) v',l'[i]?=some v'->∃v,l[i]?=some v/\fF f v=some v'
 |[],l',h=>by simp[jG]at h;subst h;simp
 |x::l,l',h=>by
  simp only[jG]at h;split at h
  ·rename_i y m h1 h2;simp only[aD]at h;subst h;obtain⟨g1,g2⟩:=yp l m h2;refine⟨by simp[g1],fun i v' hi=>?_⟩;cases i with
   |zero=>simp at hi;subst hi;exact⟨x,rfl,h1⟩
   |succ i=>simp at hi;obtain⟨v,q1,q2⟩:=g2 i v' hi;exact⟨v,by simpa using q1,q2⟩
  ·cases h
theorem aFr{f:Nat->Option Nat}{v v':AV K}(h:fF f v=some v'):v'.jF=false:=by
 cases v<;>simp only[fF,fw,aD]at h<;>first
  |(subst h;rfl)
  |(obtain⟨a,-,rfl⟩:=h;rfl)
  |cases h
theorem anO{n:Nat}{ds:List Nat}{l l':List (AV K)}{f:Nat->Option Nat}(h:jG f l=some l'):dz (ej (List.replicate n .any) ds l'):=fun t g b v e=>by
 rcases AX ds l' _ t _ e with h1|⟨i,-,h2⟩
 ·rw[ql]at h1;split at h1<;>cases h1
 ·obtain⟨v0,-,q⟩:=(yp l l' h).2 i _ h2;have:=aFr q;simp[AV.jF]at this
theorem Ta{D:bL K}{n:Nat}{ds:List Nat}{vs:List (AV K)}{tmps:Array Value}(hn:tmps.size=n)(h:∀(i t:Nat) v x,ds[i]?=some t->vs[i]?=some v->tmps[t]?=some x->Rep D ρ S w v x):fg D ρ S w (ej (List.replicate n .any) ds vs) tmps:=
 ⟨by rw[yo];simp[hn],fun t v x hv hx=>.kD (by
   rcases AX ds vs _ t v hv with h1|⟨i,h1,h2⟩
   ·rw[ql]at h1;split at h1
    ·simp at h1;subst h1;exact .any x
    ·cases h1
   ·exact h i t v x h1 h2 hx)⟩
theorem anP{cx:Cx K}(hD:bT cx.D){c:Code}{L:bf K}{n0:Nat}{st st':St K}{m:List Nat}{vals vs:List (AV K)}{Hi Ho:List (Ob K)}{e:Ex}(hn:st.tm.length=L.n)(h0:dz st.tm)
 (hin:inLoop st.H (L.ins.map fun t=>st.tm.getD t .any)=some (m,vals,Hi)) (hout:MI L m st vs Ho=some st')
 (htr:Tr cx Hi.length (.loop c) ⟨ej (List.replicate L.n .any) L.ins vals,Hi,true⟩ e ⟨ej (List.replicate L.n .any) L.outs vs,Ho,true⟩):dz st'.tm/\Tr cx n0 (.loop c) st e st':=by
 unfold inLoop at hin;split at hin
 ·rename_i hp;split at hin
  ·rename_i kZ Hi' hv hH;simp only[aD,cw]at hin;obtain⟨rfl,rfl,rfl⟩:=hin;unfold MI at hout;split at hout
   ·rename_i vs' iz hvs RQ;split at hout
    ·rename_i hle;simp only[aD]at hout;subst hout;refine⟨anO hvs,fun ρ S a w hn0 bN=>?_⟩;obtain⟨s1,s2,s3,s4⟩:=amF hD bN.heap hp hH;have hrs:=RN (ρ:=ρ) (m:=reach st.H 64 (ct (L.ins.map fun t=>st.tm.getD t .any)) []) (fun i h hi=>by rw[bN.heap.len];exact(Gm _ hp).1 i h hi);have hsize:a.tmps.size=L.n:=by rw[<-hn,bN.slots.len]
     have fG:Sat cx (uR ρ (reach st.H 64 (ct (L.ins.map fun t=>st.tm.getD t .any)) [])) S a w ⟨ej (List.replicate L.n .any) L.ins kZ,Hi',true⟩:=⟨s1,Ta hsize fun i t v x g1 g2 g3=>by
      obtain⟨v0,q1,q2⟩:=(yp _ _ hv).2 i v g2;simp only[fL,g1,Md,aD]at q1;subst q1;refine uP hD s4 _ v x q2 ?_;rw[aH];cases hg:st.tm[t]? with
      |none=>exact .any x
      |some v1=>exact bN.slots.rep h0 hg g3,bN.defers⟩
     refine wp_mono (htr _ S a w (eL _) fG) fun e' a' w'=>?_
     rintro ⟨he,aFt,ρo,So,hso,hst⟩
     obtain⟨j1,j2,j3⟩:=join hD bN.heap hp hrs s2 s3 s1 hso.heap hst aFt RQ;refine⟨he,?_,_,So,⟨j1,?_,hso.defers⟩,j2.weaken hn0⟩
     ·have:=j2.grow bN.heap j1 (eL _);dsimp only at this⊢;omega
     ·refine⟨by rw[yo];have:=hso.slots.len;rw[yo]at this;exact this,fun t v x hv' hx=>?_⟩;have hlt:t<(ej (List.replicate L.n .any) L.outs vs).length:=by
       have:=(bc.1 hv').1;rw[yo]at this⊢;exact this
      have hg:=bG hlt;have hrep:eK cx.D ρo So w' a'.tmps _ x:=hso.slots.ok t _ x hg hx;have hrel:=anN (p:=fun v v'=>v'=.any\/fF (fun h=>(ig (reach st.H 64 (ct (L.ins.map fun t=>st.tm.getD t .any)) []) st.H.length Ho.length)[h]?) v=some v') L.outs vs vs' (List.replicate L.n .any) (List.replicate L.n .any)
       (yp _ _ hvs).1.symm rfl (fun i v v' h1 h2=>by
         obtain⟨v0,q1,q2⟩:=(yp _ _ hvs).2 i v' h2;rw[h1]at q1;simp at q1;subst q1;exact .inr q2) (fun t v v' h1 h2=>by
         rw[ql]at h2;split at h2
         ·simp at h2;exact .inl h2.symm
         ·cases h2) t _ v hg hv'
      rcases hrel with rfl|hrel
      ·exact .kD (.any x)
      ·refine .kD (uP hD j3 _ v x hrel ?_);generalize (ej (List.replicate L.n .any) L.outs vs)[t]=y at hrep hrel;cases y with
       |opt=>simp[fF]at hrel
       |_=>exact hrep
    ·cases hout
   ·cases hout
  ·cases hin
 ·cases hin
theorem qA{cx:Cx K}(hD:bT cx.D)(hc:aI cx)(hm:cx.P.follows .mixedOrders=true):∀(c:Code),iu cx c->∀{R:Type}(st:St K)(k:Ex->St K->Option R)(r:R),fQ cx c st k=some r->
 ∃e st',k e st'=some r/\(st'.ok=true->st.ok=true)/\(st'.ok=true->dz st.tm->dz st'.tm/\∀n0,Tr cx n0 c st e st')
 |.skip,_,R,st,k,r,h=>⟨.normal,st,h,id,fun _ h0=>⟨h0,fun n0 ρ S a w hn bN=>wp_skip ⟨rfl,hn,ρ,S,bN,Step.refl⟩⟩⟩
 |.exit id,_,R,st,k,r,h=>⟨.exit id,st,h,fun h=>h,fun _ h0=>⟨h0,fun n0 ρ S a w hn bN=>wp_exit ⟨rfl,hn,ρ,S,bN,Step.refl⟩⟩⟩
 |.ret,_,R,st,k,r,h=>⟨.ret,st,h,fun h=>h,fun _ h0=>⟨h0,fun n0 ρ S a w hn bN=>wp_ret ⟨rfl,hn,ρ,S,bN,Step.refl⟩⟩⟩
 |.region id ops draw,_,R,st,k,r,h=>by
   simp only[fQ]at h;split at h
   ·rename_i st' hr;have:=fun n0=>AU (id:=id) (n0:=n0) hD hc hm hr
    exact⟨.normal,st',h,(this 0).1,fun hok h0=>⟨((this 0).2 hok h0).1,fun n0=>((this n0).2 hok h0).2⟩⟩
   ·split at h
    ·rename_i b s1 s2 hsp;obtain⟨t,h1,h2⟩:=Nw _ hsp;have key:∀(x:Bool)(s':St K),i6 {cx with gs:=[(t,x)]} ops.toList draw st=some s'->k .normal s'=some r->
      ∃e st',k e st'=some r/\(st'.ok=true->st.ok=true)/\(st'.ok=true->dz st.tm->dz st'.tm/\∀n0,Tr cx n0 (.region id ops draw) st e st'):=fun x s' hr hk=>by
      have:=fun n0=>AU (cx:={cx with gs:=[(t,x)]}) (id:=id) (n0:=n0) hD hc hm hr
      exact⟨.normal,s',hk,(this 0).1,fun hok h0=>⟨((this 0).2 hok h0).1,fun n0=>(((this n0).2 hok h0).2).gs⟩⟩
     cases b with
     |true=>exact key true s1 h1 h
     |false=>exact key false s2 h2 h
    ·split at h
     ·split at h
      ·rename_i T hT;obtain⟨s,⟨hq1,hq2⟩,hk⟩:=iC.Nx (Q:=fun s'=>(s'.ok=true->st.ok=true)/\(s'.ok=true->dz st.tm->dz s'.tm/\∀n0,Tr cx n0 (.region id ops draw) st .normal s')) _ (Ny (fun gs s' hr=>by
        have:=fun n0=>AU (cx:={cx with gs:=gs}) (id:=id) (n0:=n0) hD hc hm hr
        exact⟨(this 0).1,fun hok h0=>⟨((this 0).2 hok h0).1,fun n0=>(((this n0).2 hok h0).2).gs⟩⟩) 4 [] T hT) h
       exact⟨.normal,s,hk,hq1,hq2⟩
      ·cases h
     ·split at h
      ·rename_i s1 s2 h1 h2;have key:∀(x:Bool)(s':St K),i6 {cx with call:=cx.alt x,mode:=cx.rD x} ops.toList draw st=some s'->k .normal s'=some r->
        ∃e st',k e st'=some r/\(st'.ok=true->st.ok=true)/\(st'.ok=true->dz st.tm->dz st'.tm/\∀n0,Tr cx n0 (.region id ops draw) st e st'):=fun x s' hr hk=>by
        have:=fun n0=>AU (cx:={cx with call:=cx.alt x,mode:=cx.rD x}) (id:=id) (n0:=n0) hD ⟨hc.2.1 x,hc.2⟩ hm hr
        exact⟨.normal,s',hk,(this 0).1,fun hok h0=>⟨((this 0).2 hok h0).1,fun n0=>(((this n0).2 hok h0).2).call⟩⟩
       rcases hc.2.2 _ _ _ _ h with h|h
       ·exact key true s1 h1 h
       ·exact key false s2 h2 h
      ·split at h
       ·rename_i T hT;obtain⟨s,⟨hq1,hq2⟩,hk⟩:=iC.S5 (cx:=cx) (Q:=fun s'=>(s'.ok=true->st.ok=true)/\(s'.ok=true->dz st.tm->dz s'.tm/\∀n0,Tr cx n0 (.region id ops draw) st .normal s')) (fun a b r h=>hc.2.2 _ _ _ _ h) _ (S7 (fun gs s' hr=>by
         have:=fun n0=>AU (cx:={cx with gs:=gs}) (id:=id) (n0:=n0) hD hc hm hr
         exact⟨(this 0).1,fun hok h0=>⟨((this 0).2 hok h0).1,fun n0=>(((this n0).2 hok h0).2).gs⟩⟩) (fun x gs s' hr=>by
         have:=fun n0=>AU (cx:={cx with call:=cx.alt x,mode:=cx.rD x,gs:=gs}) (id:=id) (n0:=n0) hD ⟨hc.2.1 x,hc.2⟩ hm hr
         exact⟨(this 0).1,fun hok h0=>⟨((this 0).2 hok h0).1,fun n0=>Tr.call (Tr.gs (cx:={cx with call:=cx.alt x,mode:=cx.rD x}) (((this n0).2 hok h0).2))⟩⟩) 4 [] T hT) h
        exact⟨.normal,s,hk,hq1,hq2⟩
       ·cases h
 |.seq a b,hl,R,st,k,r,h=>by
   simp only[fQ]at h;obtain⟨e1,s1,h1,ok1,t1⟩:=qA hD hc hm a hl.1 st _ r h;cases e1 with
   |normal=>
    obtain⟨e2,s2,h2,ok2,t2⟩:=qA hD hc hm b hl.2 s1 k r h1;refine⟨e2,s2,h2,fun hk=>ok1 (ok2 hk),fun hk h0=>?_⟩;obtain⟨n1,q1⟩:=t1 (ok2 hk) h0;obtain⟨n2,q2⟩:=t2 hk n1;refine⟨n2,fun n0 ρ S a' w hn bN=>wp_seq (wp_mono (q1 n0 ρ S a' w hn bN) ?_)⟩
    rintro e a2 w2 ⟨rfl,hn1,ρ1,S1,fG,hst1⟩
    refine wp_mono (q2 n0 ρ1 S1 a2 w2 hn1 fG) ?_
    rintro e a3 w3 ⟨rfl,hn2,ρ2,S2,GH,hst2⟩
    exact⟨rfl,hn2,ρ2,S2,GH,hst1.trans hst2⟩
   |exit id=>
    refine⟨.exit id,s1,h1,ok1,fun hk h0=>⟨(t1 hk h0).1,fun n0 ρ S a' w hn bN=>wp_seq (wp_mono ((t1 hk h0).2 n0 ρ S a' w hn bN) ?_)⟩⟩
    rintro e a2 w2 ⟨rfl,q⟩
    exact⟨rfl,q⟩
   |ret=>
    refine⟨.ret,s1,h1,ok1,fun hk h0=>⟨(t1 hk h0).1,fun n0 ρ S a' w hn bN=>wp_seq (wp_mono ((t1 hk h0).2 n0 ρ S a' w hn bN) ?_)⟩⟩
    rintro e a2 w2 ⟨rfl,q⟩
    exact⟨rfl,q⟩
 |.cond c a b,hl,R,st,k,r,h=>by
   simp only[fQ]at h;split at h
   ·rename_i t ht;have hev:∀{ρ S a' w},Sat cx ρ S a' w st->a'.eval c=.bool t:=fun{ρ S a' w} bN=>by
     have:=M8 bN.slots (gs:=[]) (fun p hp=>by simp at hp) c;rw[ht]at this;generalize a'.eval c=y at this;cases this;rfl
    split at h
    ·rename_i hs;simp only[bD]at hs;split at h
     ·rename_i sa sb ha hb;obtain⟨s1,g1,q1⟩:=AW a hs.1 st _ sa ha;obtain⟨s2,g2,q2⟩:=AW b hs.2 st _ sb hb;simp only[Az,aD]at g1 g2;subst g1;subst g2;obtain⟨e1,s1',c1,ok1,t1⟩:=qA hD hc hm a hl.1 st _ s1 ha;obtain⟨e2,s2',c2,ok2,t2⟩:=qA hD hc hm b hl.2 st _ s2 hb;cases e1<;>simp only[Az,aD]at c1<;>try cases c1
      cases e2<;>simp only[Az,aD]at c2<;>try cases c2
      have hks:∀{x y:Bool},((x|| !t)&&(y||t))=true->(t=true->x=true)/\(t=false->y=true):=fun{x y} hk=>by
       cases t<;>simpa using hk
      refine⟨.normal,_,h,fun hk=>?_,fun hk h0=>⟨aFq h0,fun n0 ρ S a' w hn bN=>wp_cond (hev bN) ?_⟩⟩
      ·cases ht':t
       ·exact ok2 ((hks hk).2 ht')
       ·exact ok1 ((hks hk).1 ht')
      ·have fin:∀e' a' w',(e'=Ex.normal.nO/\n0<=(cond t s1 s2).H.length/\∃ρ' S',Sat cx ρ' S' a' w' (cond t s1 s2)/\Step cx.D n0 ρ S st.H w ρ' S' (cond t s1 s2).H w')->dz (cond t s1.tm s2.tm)->
        (e'=Ex.normal.nO/\n0<=st.H.length/\∃ρ' S',Sat cx ρ' S' a' w' ⟨jJ t (writes a++writes b) 0 st.tm s1.tm s2.tm,st.H,(s1.ok|| !t)&&(s2.ok||t)⟩/\Step cx.D n0 ρ S st.H w ρ' S' st.H w'):=by
        rintro e' a2 w2 ⟨he,hn1,ρ1,S1,fG,hst1⟩ hno
        have hH:(cond t s1 s2).H=st.H:=by cases t;exact q2.H;exact q1.H
        rw[hH]at hn1 hst1;refine⟨he,hn1,ρ1,S1,⟨by have:=fG.heap;rw[hH]at this;exact this,?_,fG.defers⟩,hst1⟩;exact aFp hno q1.len q2.len (fun i hi=>q1.rest i fun h'=>hi (by simp[h'])) (fun i hi=>q2.rest i fun h'=>hi (by simp[h'])) (by have:=fG.slots;cases t<;>exact this)
       cases ht':t<;>rw[ht']at fin
       ·obtain⟨n2,r2⟩:=t2 ((hks hk).2 ht') h0;exact wp_mono (r2 n0 ρ S a' w hn bN) fun e' a2 w2 q=>fin e' a2 w2 q n2
       ·obtain⟨n1,r1⟩:=t1 ((hks hk).1 ht') h0;exact wp_mono (r1 n0 ρ S a' w hn bN) fun e' a2 w2 q=>fin e' a2 w2 q n1
     ·cases h
    ·cases t
     ·obtain⟨e,s,h1,ok1,t1⟩:=qA hD hc hm b hl.2 st k r h;exact⟨e,s,h1,ok1,fun hk h0=>⟨(t1 hk h0).1,fun n0 ρ S a' w hn bN=>wp_cond (hev bN) ((t1 hk h0).2 n0 ρ S a' w hn bN)⟩⟩
     ·obtain⟨e,s,h1,ok1,t1⟩:=qA hD hc hm a hl.1 st k r h;exact⟨e,s,h1,ok1,fun hk h0=>⟨(t1 hk h0).1,fun n0 ρ S a' w hn bN=>wp_cond (hev bN) ((t1 hk h0).2 n0 ρ S a' w hn bN)⟩⟩
   ·cases h
 |.block id c,hl,R,st,k,r,h=>by
   simp only[fQ]at h;obtain⟨e1,s1,h1,ok1,t1⟩:=qA hD hc hm c hl st _ r h;cases e1 with
   |normal=>
    refine⟨.normal,s1,h1,ok1,fun hk h0=>⟨(t1 hk h0).1,fun n0 ρ S a' w hn bN=>wp_block (wp_mono ((t1 hk h0).2 n0 ρ S a' w hn bN) ?_)⟩⟩
    rintro e a2 w2 ⟨rfl,q⟩
    exact⟨rfl,q⟩
   |ret=>
    refine⟨.ret,s1,h1,ok1,fun hk h0=>⟨(t1 hk h0).1,fun n0 ρ S a' w hn bN=>wp_block (wp_mono ((t1 hk h0).2 n0 ρ S a' w hn bN) ?_)⟩⟩
    rintro e a2 w2 ⟨rfl,q⟩
    exact⟨rfl,q⟩
   |exit i=>
    dsimp only at h1;split at h1
    ·rename_i hid;refine⟨.normal,s1,h1,ok1,fun hk h0=>⟨(t1 hk h0).1,fun n0 ρ S a' w hn bN=>wp_block (wp_mono ((t1 hk h0).2 n0 ρ S a' w hn bN) ?_)⟩⟩
     rintro e a2 w2 ⟨rfl,q⟩
     subst hid;show(if i=i then _ else _)
     rw[cz rfl];exact⟨rfl,q⟩
    ·rename_i hid;refine⟨.exit i,s1,h1,ok1,fun hk h0=>⟨(t1 hk h0).1,fun n0 ρ S a' w hn bN=>wp_block (wp_mono ((t1 hk h0).2 n0 ρ S a' w hn bN) ?_)⟩⟩
     rintro e a2 w2 ⟨rfl,q⟩
     show(if i=id then _ else _)
     rw[aw hid];exact⟨rfl,q⟩
 |.loop c,hl,R,st,k,r,h=>by
   simp only[fQ]at h;split at h
   ·rename_i L hL;split at h
    ·rename_i hn;split at h
     ·rename_i m vals Hi hin;obtain⟨e,vs,Ho,h1,htr⟩:=hl L hL vals Hi R _ r h;split at h1
      ·rename_i st' hout;refine⟨e,st',h1,?_,fun hk h0=>?_⟩
       ·unfold MI at hout;split at hout
        ·split at hout
         ·simp only[aD]at hout;subst hout;exact id
         ·cases hout
        ·cases hout
       ·exact⟨(anP (n0:=0) hD hn h0 hin hout htr).1,fun n0=>(anP (n0:=n0) hD hn h0 hin hout htr).2⟩
      ·cases h1
     ·cases h
    ·cases h
   ·cases h
 |.scope ..,_,R,st,k,r,h=>by simp[fQ]at h
 |.rangeFunc ..,_,R,st,k,r,h=>by simp[fQ]at h
 |.goto ..,_,R,st,k,r,h=>by simp[fQ]at h
 |.label ..,_,R,st,k,r,h=>by simp[fQ]at h
 |.refuse ..,_,R,st,k,r,h=>by simp[fQ]at h
end Go.V
