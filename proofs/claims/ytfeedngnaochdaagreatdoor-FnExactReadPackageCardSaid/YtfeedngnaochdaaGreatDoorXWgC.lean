/-
  ONE OPERATION IN ITS FRAME; A REGION IN THE ORDER OF THE TEXT.
-/
import Derived.Test.YtfeedngnaochdaaGreatDoorXWgB
set_option linter.unusedVariables false
namespace Go.V
open Go
variable {K :cK}{ρ ρ':List Value}{S S':Nat->Prop}{w w':World}{H H':List (Ob K)}
theorem EF{D:bg K}{P:Program}{o:Oper}{a:Act}{v:AV K}(h:Does D P ρ S H w (execOp a.eval o) v H'){k:Act->World->Prop}{Q:Exit->Act->World->Prop}
 (hk:∀u ρ' S' w',aK D ρ' S' w' H'->Rep D ρ' S' w' v u->Step D H.length ρ S H w ρ' S' H' w'->k (a.put o.dst u) w'):o.wp P a w k Q:=by
 obtain⟨n,u,w',ρ',h1,h2,h3,h4,h5⟩:=h;unfold Oper.wp;rw[h1];rcases h2 with rfl|⟨rfl,rfl⟩
 ·exact hk u ρ' S w' h3 h4 h5
 ·exact hk _ ρ' S w' h3 h4 h5
theorem EG{q:Bool}{cx:Cx K}(hD:bu cx.D)(hc:aZ cx)(hs:aK cx.D ρ S w H){a:Act}{tm:List (AV K)}(hsl:eJ cx.D ρ S w tm a.tmps){gs:List (Nat×Bool)}(hg:∀p∈gs,a.tmps[p.1]?=some (.bool p.2)){o:Oper}{v:AV K}{c:Bool}{t:List Nat}
 (h:kz q cx tm gs H o.type o.op=some (v,H',c,t)) (hc1:c=true) {k:Act->World->Prop} {Q:Exit->Act->World->Prop}
 (hk:∀u ρ' S' w',aK cx.D ρ' S' w' H'->Rep cx.D ρ' S' w' v u->Step cx.D H.length ρ S H w ρ' S' H' w'->k (a.put o.dst u) w'):o.wp cx.P a w k Q:=by
 have hev:=Ak hsl hg;unfold kz at h;split at h
 ·
  rename_i cnd x y hop;have key:∀(b:Bool)(gx gy:List (Nat×Bool)),a.eval cnd=.bool b->(b=true->∀p∈gx,a.tmps[p.1]?=some (.bool p.2))->(b=false->∀p∈gy,a.tmps[p.1]?=some (.bool p.2))->v=merge b (dJ tm gx x) (dJ tm gy y)->H'=H->o.wp cx.P a w k Q:=by
   intro b gx gy hb h1 h2 hv hH;subst hH;unfold Oper.wp execOp;rw[hop];dsimp only;have:(do pure (.value (if<-asBool (a.eval cnd)then a.eval x else a.eval y)):Sem Next).run cx.P w=.ok (.value (if b then a.eval x else a.eval y)) w:=by rw[hb];simp[asBool]
   rw[this];refine hk _ ρ S w hs ?_ Step.refl;rw[hv];refine JH (fun e=>?_) (fun e=>?_)
   ·subst e;exact Ak hsl (h1 rfl) x
   ·subst e;exact Ak hsl (h2 rfl) y
  split at h
  ·rename_i tt b hcv;have hb:=hev (.tmp tt);rw[hcv]at hb;have hb':=jX hb;split at h
   ·rename_i b0 _;simp only[aj,aF]at h;obtain⟨hv,hH,hcc,-⟩:=h;rw[hc1]at hcc;have hbb:b=b0:=by simpa using hcc
    subst hbb;subst hH;unfold Oper.wp execOp;rw[hop];dsimp only;have:(do pure (.value (if<-asBool (a.eval (.tmp tt))then a.eval x else a.eval y)):Sem Next).run cx.P w=.ok (.value (if b then a.eval x else a.eval y)) w:=by rw[hb'];simp[asBool]
    rw[this];refine hk _ ρ S w hs ?_ Step.refl;rw[<-hv];cases b
    ·exact hev y
    ·exact hev x
   simp only[aj,aF]at h;obtain⟨hv,hH,-,-⟩:=h;have hget:a.tmps[tt]?=some (.bool b):=by
    simp only[Act.eval,l9]at hb';cases hh:a.tmps[tt]? with
    |none=>rw[hh]at hb';simp[undef]at hb'
    |some z=>rw[hh]at hb';simp at hb';rw[hb']
   exact key b _ _ hb' (fun e p hp=>by subst e;rcases fW.1 hp with rfl|hp;exact hget;exact hg p hp) (fun e p hp=>by subst e;rcases fW.1 hp with rfl|hp;exact hget;exact hg p hp) hv.symm hH.symm
  ·rename_i cv b hcv;simp only[aj,aF]at h;obtain⟨hv,hH,-,-⟩:=h;have hb:=hev (.const cv);rw[hcv]at hb;exact key b _ _ (jX hb) (fun _=>hg) (fun _=>hg) hv.symm hH.symm
  ·cases h
 ·
  rename_i f args ats hop;have hf:=hev f;split at h
  ·rename_i g caps hfv;have hcall:=h;rw[hc1]at hcall
   ·skip
    rw[hfv]at hf;generalize hF:a.eval f=F at hf;cases hf with
    |fn hl hr=>
     rename_i cs;have hargs:=(Ji (fun x=>nk hs _ _ (hev x)) args.toList).append (⟨hl,hr⟩:aW cx.D ρ S w caps cs);obtain⟨⟨fn,hfn,hname,hbody⟩,ln⟩:=Xk hD hc hs hcall hargs;unfold Oper.wp execOp;rw[hop];dsimp only;have hrun:(do let d<-resolve a.eval {callee:=.value f,args:=args,argTypes:=ats} o.type;invoke d.target d.args:Sem Next).run cx.P w=.ok (.enter g (args.toList.map a.eval++cs).toArray) w:=by
      simp only[resolve,hF,Deferred.ofValue,Sem.run_bind,Sem.run_pure,Result.andThen_ok,invoke,callFunc,run_program];rw[hfn];simp only[hname,hbody,jt,km,Sem.run_pure];congr 2;apply Array.ext';simp
     rw[hrun,Oper.upon_enter];refine ln.mono ?_
     rintro e w' ⟨u,ρ',S',rfl,h1,h2,h3⟩
     exact hk u ρ' S' w' h1 h2 h3
  ·cases h
 ·
  rename_i x hop;have hrun:∀(v':AV K),Rep cx.D ρ S w v' (a.eval x)->v=v'->H'=H->o.wp cx.P a w k Q:=fun v' h1 h2 h3=>by
   subst h2;subst h3;unfold Oper.wp execOp;rw[hop];exact hk _ ρ S w hs h1 Step.refl
  split at h
  ·rename_i hq;split at h
   ·split at h
    ·rename_i c _;simp only[aj,aF]at h;obtain⟨rfl,rfl,rfl,rfl⟩:=h;simp only[bz]at hq;have hx:x=.const (.slice none 0 0):=by
      have:=hq.2;unfold DO at this;split at this
      ·rfl
      ·cases this
     obtain⟨n1,n2⟩:=DZ hs c (cx.deep c);unfold Oper.wp execOp;rw[hop,hx];exact hk _ _ S w n1 (.sl (by rw[dA (by rw[hs.len];exact bH _)];simp[hs.len])) n2
    ·simp only[aj,aF]at h;exact hrun _ (hev x) h.1.symm h.2.1.symm
   ·simp only[aj,aF]at h;exact hrun _ (hev x) h.1.symm h.2.1.symm
  ·simp only[aj,aF]at h;exact hrun _ (nk hs _ _ (hev x)) h.1.symm h.2.1.symm
 ·split at h
  ·rename_i v1 c1 hp;simp only[aj,aF]at h;obtain⟨rfl,rfl,rfl,rfl⟩:=h;obtain⟨u,hu,hr⟩:=Jj hD hs (fun x=>nk hs _ _ (hev x)) hp hc1;unfold Oper.wp;rw[hu];exact hk u ρ S w hs hr Step.refl
  ·split at h
   ·obtain⟨rfl,u,w1,S1,g1,g2,g3,g4⟩:=WV hD hs (fun x=>nk hs _ _ (hev x)) h hc1;unfold Oper.wp;rw[g1];exact hk u ρ S1 w1 g2 g3 g4
   ·split at h
    ·cases h
    split at h
    ·rename_i hov;simp only[aj]at h;rw[h]at hov;exact EF (Xi hD hs hev hov) fun u ρ' S' w' a1 a2 a3=>hk u ρ' S' w' a1 a2 a3
    split at h
    ·rename_i hct;simp only[aj]at h;rw[h]at hct;exact EF (WU hs hev hct hc1) fun u ρ' S' w' a1 a2 a3=>hk u ρ' S' w' a1 a2 a3
    ·obtain⟨S1,H1,g1,g2,g3⟩:=Xf hD hs hev h hc1;refine EF g3 fun u ρ' S' w' a1 a2 a3=>hk u ρ' S' w' a1 a2 ?_
     rw[g2]at a3;exact g1.trans a3
theorem EH{cx:Cx K}{f:FuncId}{args:List (AV K)}{v:AV K}{c:Bool}{t:List Nat}(hcall:ku cx .plain H f args=some (v,H',c,t)):H'=H:=by
 unfold ku at hcall;dsimp only at hcall;split at hcall
 ·split at hcall
  ·split at hcall
   ·simp only[aj,aF]at hcall;exact hcall.2.1.symm
   ·cases hcall
  ·cases hcall
 ·cases hcall
theorem Xl{cx:Cx K}{ev:Operand->AV K}{op:Op}{v:AV K}{c:Bool}{t:List Nat}(h:wU cx ev H op=some (v,H',c,t)):H'=H:=by
 unfold wU at h;split at h
 ·split at h
  ·cases h
  ·split at h
   ·split at h
    ·split at h
     ·simp only[aj,aF]at h;exact h.2.1.symm
     ·cases h
    ·cases h
   ·cases h
 ·cases h
theorem vf{cx:Cx K}{tm:List (AV K)}{gs:List (Nat×Bool)}{T:TypeId}{op:Op}{v:AV K}{c:Bool}{t:List Nat}(h:kz true cx tm gs H T op=some (v,H',c,t)):H'=H:=by
 unfold kz at h;split at h
 ·split at h
  ·split at h
   ·simp only[aj,aF]at h;exact h.2.1.symm
   ·simp only[aj,aF]at h;exact h.2.1.symm
  ·simp only[aj,aF]at h;exact h.2.1.symm
  ·cases h
 ·split at h
  ·unfold uN at h;simp only[bQ,Bool.and_false,jt,km]at h;unfold oj at h;split at h
   ·exact EH h
   ·split at h
    ·rename_i r hr;simp only[aj]at h;subst h;exact EH hr
    ·simp at h
   all_goals simp at h
  ·cases h
 ·simp only[bQ,cD,jt,km,aj,aF]at h;exact h.2.1.symm
 ·split at h
  ·simp only[aj,aF]at h;exact h.2.1.symm
  ·simp only[od]at h;exact Xl h
theorem J2{q:Bool}{cx:Cx K}{tm:List (AV K)}{gs:List (Nat×Bool)}{T:TypeId}{op:Op}{v:AV K}{c:Bool}{t:List Nat}(hs:il cx op=true)(h:kz q cx tm gs H T op=some (v,H',c,t)):H'=H:=by
 cases q with
 |true=>exact vf h
 |false=>
 unfold kz at h;split at h
 ·split at h
  ·split at h
   ·simp only[aj,aF]at h;exact h.2.1.symm
   ·simp only[aj,aF]at h;exact h.2.1.symm
  ·simp only[aj,aF]at h;exact h.2.1.symm
  ·cases h
 ·rename_i f args ats;cases f<;>simp only[il]at hs<;>try (cases hs;done)
  rename_i g;simp only[dJ]at h;have hm:cx.mode g=.plain/\(cx.opn=false\/cx.lz=true):=by simpa using hs
  unfold uN at h;have EI:(cx.opn&& !cx.lz&& !false)=false:=by rcases hm.2 with e|e<;>simp[e]
  rw[EI]at h;simp only[jt,km]at h
  replace hm:=hm.1
  unfold oj at h;rw[hm]at h;exact EH h
 ·simp only[il,fK]at hs;rw[hs]at h;simp only[Bool.and_false,jt,km,aj,aF]at h;exact h.2.1.symm
 ·split at h
  ·simp only[aj,aF]at h;exact h.2.1.symm
  ·rw[hs]at h;simp at h
end Go.V
namespace Go.V
open Go
variable {K :cK}{ρ ρ':List Value}{S S':Nat->Prop}{w w':World}{H H':List (Ob K)}
theorem Aw{ops:List Oper}{o:Oper}{tmps:Array Value}{g:Nat}{wt:Bool}(h:guardOf ops o=some (some (g,wt))):
 Region.wanted o (yielded ops.toArray tmps)=true↔tmps[g]?=some (.bool wt):=by
 unfold guardOf at h;split at h
 ·cases h
 ·rename_i j w1 hgd;split at h
  ·rename_i og hog;split at h
   ·rename_i t ht;simp only[aj,aF]at h;obtain⟨rfl,rfl⟩:=h;have Xm:ops.toArray[j]?=some og:=by simpa using hog
    simp only[Region.wanted,hgd,yielded,Xm,Option.bind_some,ht];cases hv:tmps[t]? with
    |none=>simp
    |some z=>cases z<;>simp
   ·cases h
  ·cases h
theorem Xn{ops:List Oper}{o:Oper}{y:Nat->Option Bool}(h:guardOf ops o=some none):Region.wanted o y=true:=by
 unfold guardOf at h;split at h
 ·rename_i hg;simp[Region.wanted,hg]
 ·split at h
  ·split at h<;>cases h
  ·cases h
theorem EJ{q:Bool}{cx:Cx K}(hD:bu cx.D)(hc:aZ cx)(hs:aK cx.D ρ S w H){a:Act}{tm:List (AV K)}(hsl:eJ cx.D ρ S w tm a.tmps){ops:List Oper}{wr:List Nat}{o:Oper}{v:AV K}{c:Bool}
 (h:gY q cx ops tm H wr o=some (v,H',c)) (hc1:c=true) {k:Act->World->Prop} {Q:Exit->Act->World->Prop}
 (hk:∀u ρ' S' w',aK cx.D ρ' S' w' H'->ez cx.D ρ' S' w' a.tmps v u->Step cx.D H.length ρ S H w ρ' S' H' w'->k (a.put o.dst u) w'):
 if Region.wanted o (yielded ops.toArray a.tmps)then o.wp cx.P a w k Q else k (a.put o.dst undef) w:=by
 unfold gY at h;split at h
 ·cases h
 ·rename_i hgd;rw[aO (Xn hgd)];split at h
  ·rename_i v1 H1 c1 t1 hy;split at h
   ·cases h
   simp only[aj,aF]at h;obtain⟨rfl,rfl,rfl⟩:=h;exact EG hD hc hs hsl (gs:=[]) (fun p hp=>by simp at hp) hy hc1 fun u ρ' S' w' h1 h2 h3=>hk u ρ' S' w' h1 (.jz h2) h3
  ·cases h
 ·rename_i g wt hgd;split at h
  ·rename_i b0 hkn;split at h
   ·rename_i b J3;have hval:a.tmps[g]?=some (.bool b):=by
     have hlt:g<a.tmps.size:=by rw[<-hsl.len];exact(bM.1 J3).1
     have hx:=uy hlt;have:=hsl.ok g _ _ J3 hx;rw[hx,jX this]
    split at h
    ·rename_i hbw;split at h
     ·rename_i v1 H1 c1 t1 hy;split at h
      ·cases h
      simp only[aj,aF]at h;obtain⟨rfl,rfl,rfl⟩:=h;simp only[bz,dU]at hc1;obtain⟨hc1,rfl⟩:=hc1;rw[aO ((Aw hgd).2 (by rw[hval,hbw]))];exact EG hD hc hs hsl (gs:=[]) (fun p hp=>by simp at hp) hy hc1 fun u ρ' S' w' h1 h2 h3=>hk u ρ' S' w' h1 (.jz h2) h3
     ·cases h
    ·rename_i hbw;simp only[aj,aF]at h;obtain⟨rfl,rfl,rfl⟩:=h;have hbb:b=b0:=by simpa using hc1
     rw[aX (fun hh=>hbw (by have:=(Aw hgd).1 hh;rw[hval]at this;simp at this;rw[<-hbb];exact this))];exact hk undef ρ S w hs (.jz (.any _)) Step.refl
   ·cases h
  split at h
  ·cases h
  ·rename_i b hb;split at h
   ·rename_i hsm;simp only[bz]at hsm;split at h
    ·rename_i v1 H1 c1 t1 hy;simp only[aj,aF]at h;obtain⟨rfl,rfl,rfl⟩:=h;have hbt:=JB hsl 6 g wt b hb;by_cases hw:a.tmps[g]?=some (.bool wt)
     ·rw[aO ((Aw hgd).2 hw)];have hb1:b=true:=hbt.2 hw;subst hb1;have hc1':c1=true:=by simpa using hc1
      have hH:H1=H:=vf hy;subst hH;exact EG hD hc hs hsl (gs:=[(g,wt)]) (fun p hp=>by simp at hp;subst hp;exact hw) hy hc1' fun u ρ' S' w' h1 h2 h3=>hk u ρ' S' w' h1 (.inl ⟨hw,h2⟩) h3
     ·rw[aX (fun hh=>hw ((Aw hgd).1 hh))];exact hk undef ρ S w hs (.inr ⟨hw,rfl⟩) Step.refl
    ·cases h
   ·cases h
theorem se{q:Bool}{cx:Cx K}{ops:List Oper}{tm:List (AV K)}{wr:List Nat}{o:Oper}{v:AV K}{c:Bool}(h:gY q cx ops tm H wr o=some (v,H',c)):∀g wt v1,v=.opt g wt v1->g∈wr:=by
 intro g' wt' v' e;unfold gY at h;split at h
 ·cases h
 ·split at h
  ·split at h
   ·cases h
   ·rename_i hno;simp only[aj,aF]at h;obtain⟨rfl,rfl,rfl⟩:=h;subst e;simp[AV.iJ]at hno
  ·cases h
 ·rename_i g wt hgd;split at h
  ·split at h
   ·split at h
    ·split at h
     ·split at h
      ·cases h
      ·rename_i hno;simp only[aj,aF]at h;obtain⟨rfl,rfl,rfl⟩:=h;subst e;simp[AV.iJ]at hno
     ·cases h
    ·simp only[aj,aF]at h;obtain⟨rfl,-,-⟩:=h;cases e
   ·cases h
  split at h
  ·cases h
  ·split at h
   ·rename_i hsm;simp only[bz]at hsm;split at h
    ·simp only[aj,aF]at h;obtain⟨rfl,rfl,rfl⟩:=h;simp only[AV.opt.injEq]at e;obtain⟨rfl,rfl,rfl⟩:=e;simpa using hsm.2
    ·cases h
   ·cases h
def kC(tm:List (AV K))(wr:List Nat):Prop:=∀(t g:Nat) b v,tm[t]?=some (.opt g b v)->t∈wr/\g∈wr
structure Sat (cx:Cx K) (ρ:List Value) (S:Nat->Prop) (a:Act) (w:World) (st:St K):Prop where
 heap:aK cx.D ρ S w st.H
 slots:eJ cx.D ρ S w st.tm a.tmps
 defers:a.defers=[]
theorem ez.put{D:bg K}{tmps:Array Value}{d:Nat}{u:Value}{v:AV K}{x:Value}(h:ez D ρ S w tmps v x)(hv:∀g b y,v=.opt g b y->g≠d):ez D ρ S w (tmps.setIfInBounds d u) v x:=by
 cases v<;>first|exact h|skip
 rename_i g b y;have hg:=hv g b y rfl;simp only[ez,m6,aX (m8 hg)]at h⊢;exact h
theorem eJ.put{D:bg K}{tm:List (AV K)}{tmps:Array Value}{wr:List Nat}(h:eJ D ρ S w tm tmps)(ho:kC tm wr){d:Nat}(hd:d∉wr){v:AV K}{u:Value}(hv:ez D ρ S w tmps v u)(vg:∀g b y,v=.opt g b y->g∈wr):
 eJ D ρ S w (tm.set d v) (tmps.setIfInBounds d u):=by
 refine⟨by simp[h.len],fun t v' x hv' hx=>?_⟩;rw[m6]at hx;rcases eB hv' with⟨rfl,rfl,hl⟩|⟨hne,hv'⟩
 ·rw[aO rfl]at hx;split at hx
  ·simp at hx;subst hx;exact hv.put fun g b y e=>fun he=>hd (he ▸ vg g b y e)
  ·cases hx
 ·rw[aX (m8 hne)]at hx;exact(h.ok t v' x hv' hx).put fun g b y e=>fun he=>hd (he ▸ (ho t g b y (by rw[<-e];exact hv')).2)
theorem kC.put{tm:List (AV K)}{wr:List Nat}(ho:kC tm wr){d:Nat}{v:AV K}(vg:∀g b y,v=.opt g b y->g∈wr):kC (tm.set d v) (d::wr):=fun t g b y h=>by
 rcases eB h with⟨rfl,rfl,-⟩|⟨-,h⟩
 ·exact⟨by simp,Dt _ (vg g b y rfl)⟩
 ·exact⟨Dt _ (ho t g b y h).1,Dt _ (ho t g b y h).2⟩
theorem Step.grow{D:bg K}{n:Nat}(hs:aK D ρ S w H)(hs':aK D ρ' S' w' H')(st:Step D n ρ S H w ρ' S' H' w')(hn:n<=H.length):n<=H'.length:=by
 rcases jP n with h|h
 ·omega
 ·have h1:=st.pre (n-1) (by omega);rw[bY (show n-1<ρ.length by rw[hs.len];omega)]at h1;have:=(bM.1 h1).1;rw[hs'.len]at this;omega
theorem Step.EK{D:bg K}(hs:aK D ρ S w H)(st:Step D H.length ρ S H w ρ' S' H' w'):∀(h:Nat) r,ρ[h]?=some r->ρ'[h]?=some r:=fun h r hr=>by
 rw[st.pre h (by rw[<-hs.len];exact(bM.1 hr).1)];exact hr
theorem oM{st:St K}{wr:List Nat}{dst:Option Nat}{v:AV K}{ok:Bool}{st':St K}{wr':List Nat}(h:rK st wr dst v H ok=some (st',wr')):
 st'.H=H/\st'.ok=ok/\((dst=none/\st'.tm=st.tm/\wr'=wr)\/∃d,dst=some d/\d∉wr/\d<st.tm.length/\st'.tm=st.tm.set d v/\wr'=d::wr):=by
 unfold rK at h;split at h
 ·simp only[aj,aF]at h;obtain⟨rfl,rfl⟩:=h;exact⟨rfl,rfl,.inl ⟨rfl,rfl,rfl⟩⟩
 ·rename_i d;split at h
  ·cases h
  ·rename_i hc;simp only[iH,bN,not_or,uB]at hc;simp only[aj,aF]at h;obtain⟨rfl,rfl⟩:=h;exact⟨rfl,rfl,.inr ⟨d,rfl,hc.1,by omega,rfl,rfl⟩⟩
theorem Sat.put{cx:Cx K}{a:Act}{st st':St K}{wr wr':List Nat}{o:Oper}{v:AV K}{ok:Bool}{u:Value}{n0:Nat}(bn:Sat cx ρ S a w st)(ho:kC st.tm wr)(hp:rK st wr o.dst v H' ok=some (st',wr'))
 (vg:∀g b y,v=.opt g b y->g∈wr) (hs':aK cx.D ρ' S' w' H') (hv:ez cx.D ρ' S' w' a.tmps v u) (hst:Step cx.D st.H.length ρ S st.H w ρ' S' H' w'):
 Sat cx ρ' S' (a.put o.dst u) w' st'/\kC st'.tm wr':=by
 obtain⟨h1,h2,h3⟩:=oM hp;have hsl:=bn.slots.mono hst.s1 (hst.w9 bn.heap) (hst.EK bn.heap);rcases h3 with⟨e1,e2,e3⟩|⟨d,e1,e2,e3,e4,e5⟩
 ·rw[e1];exact⟨⟨by rw[h1];exact hs',by rw[e2];exact hsl,bn.defers⟩,by rw[e2,e3];exact ho⟩
 ·rw[e1];exact⟨⟨by rw[h1];exact hs',by rw[e4];exact hsl.put ho e2 hv vg,bn.defers⟩,by rw[e4,e5];exact ho.put vg⟩
theorem Xo{cx:Cx K}{ops:List Oper}{st st':St K}{wr wr':List Nat}{o:Oper}(h:rL cx ops st wr o=some (st',wr'))(hok:st'.ok=true):st.ok=true:=by
 unfold rL at h;split at h
 ·obtain⟨-,h2,-⟩:=oM h;rw[h2]at hok;simp only[bz]at hok;exact hok.2
 ·cases h
theorem EL{cx:Cx K}{ops:List Oper}:∀(l:List Oper)(st st':St K)(wr wr':List Nat),kA cx ops l st wr=some (st',wr')->st'.ok=true->st.ok=true
 |[],st,st',wr,wr',h,hok=>by simp only[kA,aj,aF]at h;rw[h.1];exact hok
 |o::r,st,st',wr,wr',h,hok=>by
  simp only[kA]at h;split at h
  ·rename_i st1 gG h1;exact Xo h1 (EL r st1 st' gG wr' h hok)
  ·cases h
theorem J4{cx:Cx K}(hD:bu cx.D)(hc:aZ cx){ops:List Oper}{n0:Nat}{Q:Exit->Act->World->Prop}:∀(l:List Oper)(st st':St K)(wr wr':List Nat)(ρ:List Value)(S:Nat->Prop)(a:Act)(w:World),
 kA cx ops l st wr=some (st',wr')->st'.ok=true->Sat cx ρ S a w st->kC st.tm wr->n0<=st.H.length->
 (∀ρ' S' a' w',Sat cx ρ' S' a' w' st'->kC st'.tm wr'->Step cx.D n0 ρ S st.H w ρ' S' st'.H w'->Q .normal a' w')->wpList cx.P ops.toArray Q l a w
 |[],st,st',wr,wr',ρ,S,a,w,h,hok,bn,ho,hn,hq=>by
   simp only[kA,aj,aF]at h;obtain⟨rfl,rfl⟩:=h;exact hq ρ S a w bn ho Step.refl
 |o::r,st,st',wr,wr',ρ,S,a,w,h,hok,bn,ho,hn,hq=>by
  simp only[kA]at h;split at h
  ·rename_i st1 gG h1;have hok1:=EL r st1 st' gG wr' h hok;have h1':=h1;unfold rL at h1';split at h1'
   ·rename_i v H1 c hsv;obtain⟨p1,p2,p3⟩:=oM h1';rw[p2]at hok1;simp only[bz]at hok1;refine wpList_step fun k hk=>EJ hD hc bn.heap bn.slots hsv hok1.1 fun u ρ1 S1 w1 q1 q2 q3=>hk _ _ ?_
    obtain⟨s1,s2⟩:=bn.put (n0:=n0) ho h1' (se hsv) q1 q2 q3;have hg:=q3.grow bn.heap q1 (bH _);refine J4 (n0:=n0) hD hc r st1 st' gG wr' ρ1 S1 _ w1 h hok s1 s2 (by rw[p1];omega) fun ρ' S' a' w' g1 g2 g3=>hq ρ' S' a' w' g1 g2 ?_
    rw[p1]at g3;exact(q3.weaken hn).trans g3
   ·cases h1'
  ·cases h
def dr(tm:List (AV K)):Prop:=∀(t g:Nat) b v,tm[t]?≠some (.opt g b v)
theorem dr.in{tm:List (AV K)}(h:dr tm):kC tm []:=fun t g b v e=>absurd e (h t g b v)
theorem eJ.wipe{D:bg K}{tmps:Array Value}:∀(wr:List Nat)(tm:List (AV K)),eJ D ρ S w tm tmps->eJ D ρ S w (iN tm wr) tmps
 |[],tm,h=>h
 |d::r,tm,h=>by
  simp only[iN];split
  ·refine eJ.wipe r _ ⟨by simp[h.len],fun t v x hv hx=>?_⟩;rcases eB hv with⟨rfl,rfl,-⟩|⟨-,hv⟩
   ·exact .jz (.any x)
   ·exact h.ok t v x hv hx
  ·exact eJ.wipe r tm h
theorem EM:∀(wr:List Nat)(tm:List (AV K))(t:Nat)(v:AV K),(iN tm wr)[t]?=some v->v.iJ=true->t∉wr/\tm[t]?=some v
 |[],tm,t,v,h,hv=>⟨by simp,h⟩
 |d::r,tm,t,v,h,hv=>by
  simp only[iN]at h;split at h
  ·obtain⟨h1,h2⟩:=EM r _ t v h hv;rcases eB h2 with⟨rfl,rfl,-⟩|⟨hne,h2⟩
   ·simp[AV.iJ]at hv
   ·exact⟨by simp[hne,h1],h2⟩
  ·rename_i hno;obtain⟨h1,h2⟩:=EM r _ t v h hv;refine⟨?_,h2⟩;simp only[fW,not_or];refine⟨fun e=>?_,h1⟩;subst e;cases v<;>simp[AV.iJ]at hv;exact hno _ _ _ h2
theorem dr.wipe{tm:List (AV K)}{wr:List Nat}(h:kC tm wr):dr (iN tm wr):=fun t g b v e=>by
 obtain⟨h1,h2⟩:=EM wr tm t _ e rfl;exact h1 (h t g b v h2).1
end Go.V
namespace Go.V
open Go
variable {K :cK}{ρ ρ':List Value}{S S':Nat->Prop}{w w':World}{H H':List (Ob K)}
def J5(L:List Oper)(t:Nat):Prop:=∀(k:Nat) o,L[k]?=some o->o.dst≠some t
theorem EN{bits:Nat}:∀(L:List Oper)(i:Nat)(tm:List (AV K))(t:Nat)(v:AV K),(en bits L i tm)[t]?=some v->v≠.any->
 tm[t]?=some v/\∀(k:Nat) o,L[k]?=some o->o.dst=some t->bits.testBit (i+k)=true
 |[],i,tm,t,v,h,_=>⟨h,fun k o ho=>by simp at ho⟩
 |o::r,i,tm,t,v,h,hv=>by
  simp only[en]at h;obtain⟨h1,h2⟩:=EN r (i+1) _ t v h hv;have hrest:∀(k:Nat) o',(o::r)[k]?=some o'->o'.dst=some t->k≠0->bits.testBit (i+k)=true:=fun k o' ho' hd hk=>by
   obtain⟨k',rfl⟩:=Nat.exists_eq_succ_of_ne_zero hk;have:=h2 k' o' (by simpa using ho') hd;rw[show i+(k'+1)=i+1+k' by omega];exact this
  split at h1
  ·rename_i d hd;split at h1
   ·rename_i hb;refine⟨h1,fun k o' ho' hd'=>?_⟩;by_cases hk:k=0
    ·subst hk;simpa using hb
    ·exact hrest k o' ho' hd' hk
   ·rename_i hb;rcases eB h1 with⟨rfl,rfl,-⟩|⟨hne,h1⟩
    ·exact absurd rfl hv
    ·refine⟨h1,fun k o' ho' hd'=>?_⟩;by_cases hk:k=0
     ·subst hk;simp at ho';subst ho';rw[hd]at hd';simp at hd';exact absurd hd'.symm hne
     ·exact hrest k o' ho' hd' hk
  ·rename_i hd;refine⟨h1,fun k o' ho' hd'=>?_⟩;by_cases hk:k=0
   ·subst hk;simp at ho';subst ho';rw[hd]at hd';cases hd'
   ·exact hrest k o' ho' hd' hk
theorem EO{bits:Nat}:∀(L:List Oper)(i:Nat)(tm:List (AV K)),(en bits L i tm).length=tm.length
 |[],i,tm=>rfl
 |o::r,i,tm=>by
  simp only[en];rw[EO r];split
  ·split<;>simp
  ·rfl
theorem J6{i:Nat}:∀(bs:List Nat)(k0 k:Nat),(wV i k0 bs).testBit k=true->∃j:Nat,k=k0+j/\((bs[j]?).getD 0).testBit i=true
 |[],k0,k,h=>by simp[wV]at h
 |b::r,k0,k,h=>by
  simp only[wV,uD,iH]at h;rcases h with h|h
  ·cases hb:b.testBit i with
   |false=>rw[hb]at h;simp at h
   |true=>
    rw[hb]at h;simp only[af,Nat.testBit_two_pow,bN]at h;exact⟨0,by omega,by simpa using hb⟩
  ·obtain⟨j,h1,h2⟩:=J6 r (k0+1) k h;exact⟨j+1,by omega,by simpa using h2⟩
theorem J7{bs:List Nat}{i k:Nat}(h:(eI bs i).testBit k=true):(bs.getD i 0).testBit k=true\/(bs.getD k 0).testBit i=true:=by
 simp only[eI,uD,iH]at h;rcases h with h|h
 ·exact .inl h
 ·obtain⟨j,h1,h2⟩:=J6 _ _ _ h;rw[fu]at h1;subst h1;right;rw[fB];exact h2
theorem EP:∀(L:List Oper)(acc:List Nat)(i:Nat),i<acc.length->(gB L acc).getD i 0=acc.getD i 0
 |[],acc,i,_=>rfl
 |o::r,acc,i,h=>by
  simp only[gB];rw[EP r _ i (by simp;omega)];simp only[fB];rw[cU h]
theorem J8{acc:List Nat}{k:Nat}:∀(es:List Edge)(s:Nat),(es.foldl (fun s e=>s|||2^e.on|||acc.getD e.on 0) s).testBit k=true->s.testBit k=true\/∃e∈es,k=e.on\/(acc.getD e.on 0).testBit k=true
 |[],s,h=>.inl h
 |e::r,s,h=>by
  rcases J8 r _ h with h|⟨e',he',h⟩
  ·simp only[uD,iH]at h;rcases h with(h|h)|h
   ·exact .inl h
   ·rw[Nat.testBit_two_pow]at h;exact .inr ⟨e,by simp,.inl (by simpa using h.symm:e.on=k).symm⟩
   ·exact .inr ⟨e,by simp,.inr h⟩
  ·exact .inr ⟨e',by simp[he'],h⟩
theorem J9:∀(L:List Oper)(acc:List Nat)(j:Nat)(o:Oper),L[j]?=some o->jv L acc.length=true->
 ∀k,((gB L acc).getD (acc.length+j) 0).testBit k=true->∃e∈o.after,k=e.on\/((gB L acc).getD e.on 0).testBit k=true
 |[],acc,j,o,h,_,k,_=>by simp at h
 |x::r,acc,0,o,h,he,k,hk=>by
  simp at h;subst h;simp only[gB]at hk⊢;rw[EP r _ _ (by simp)]at hk;simp only[fB,Nat.add_zero]at hk;rw[dA (bH _)]at hk;simp only[ru,List.getElem?_cons_zero,aw]at hk;simp only[jv,bz,ig,bN]at he;rcases J8 x.after.toList 0 (by simpa only[fB]using hk)with h|⟨e,h1,h2⟩
  ·simp at h
  ·refine⟨e,by simpa using h1,h2.imp id fun h=>?_⟩;rw[EP r _ _ (by have:=(he.1 e h1).1;simp;omega)];rw[fB,cU (he.1 e h1).1,<-fB];exact h
 |x::r,acc,j+1,o,h,he,k,hk=>by
  simp only[gB]at hk⊢;simp only[jv,bz]at he;have:=J9 r (acc++[x.after.toList.foldl (fun s e=>s|||2^e.on|||acc.getD e.on 0) 0]) j o (by simpa using h) (by simpa using he.2) k (by
   rw[show acc.length+(j+1)=(acc++[x.after.toList.foldl (fun s e=>s|||2^e.on|||acc.getD e.on 0) 0]).length+j by simp;omega]at hk;exact hk)
  exact this
theorem xo:∀(L:List Oper)(n i:Nat)(o:Oper),jv L n=true->L[i]?=some o->∀e∈o.after,e.on<n+i/\Region.binds .any e=true
 |[],n,i,o,_,h=>by simp at h
 |x::r,n,0,o,h,ho=>by
  simp at ho;subst ho;simp only[jv,bz,ig,bN]at h;intro e he;exact h.1 e (by simpa using he)
 |x::r,n,i+1,o,h,ho=>by
  simp only[jv,bz]at h;intro e he;have:=xo r (n+1) i o h.2 (by simpa using ho) e he;exact⟨by omega,this.2⟩
theorem qp{L:List Oper}(he:jv L 0=true){T:Nat->Prop}(hT:∀(i:Nat) o,L[i]?=some o->T i->∀e∈o.after,T e.on):
 ∀(i:Nat)(o:Oper),L[i]?=some o->(∀e∈o.after,T e.on)->∀k,((gB L []).getD i 0).testBit k=true->T k/\k<i:=by
 intro i
 induction i using Nat.strongRecOn with
 |_ i ih=>
  intro o ho hoe k hk;obtain⟨e,h1,h2⟩:=J9 L [] i o ho he k (by simpa using hk);have hlt:=(xo L 0 i o he ho e h1).1;rw[fu]at hlt;rcases h2 with rfl|h2
  ·exact⟨hoe e h1,hlt⟩
  ·have hi:i<L.length:=(bM.1 ho).1;have hg:=bY (show e.on<L.length by omega);obtain⟨a,b⟩:=ih e.on hlt _ hg (hT e.on _ hg (hoe e h1)) k h2;exact⟨a,by omega⟩
structure Ax (cx:Cx K) (L:List Oper) (bs:List Nat) (H:List (Ob K)) (bJ eK:List (AV K)) (vals:Nat->AV K):Prop where
 len:eK.length=bJ.length
 uniq:∀(i j:Nat) o o' d,L[i]?=some o->L[j]?=some o'->o.dst=some d->o'.dst=some d->i=j
 inb:∀(i:Nat) o d,L[i]?=some o->o.dst=some d->d<bJ.length
 fin:∀(i:Nat) o d,L[i]?=some o->o.dst=some d->eK[d]?=some (vals i)
 rest:∀t,J5 L t->eK[t]?=bJ[t]?
 slot:∀(i:Nat) o,L[i]?=some o->∃cL dM H1,gY true cx L (en (eI bs i) L 0 cL) H dM o=some (vals i,H1,true)/\cL.length=bJ.length/\
  (∀(k:Nat) o' d,L[k]?=some o'->o'.dst=some d->k<i->cL[d]?=some (vals k))/\(∀t,(∀(k:Nat) o,k<i->L[k]?=some o->o.dst≠some t)->cL[t]?=bJ[t]?)/\∀d∈dM,∃(k:Nat)(o':Oper),k<i/\L[k]?=some o'/\o'.dst=some d
structure Ko (cx:Cx K) (L:List Oper) (bs:List Nat) (H:List (Ob K)) (bJ:List (AV K)) (vals:Nat->AV K) (n:Nat) (tm:List (AV K)) (wr:List Nat):Prop where
 len:tm.length=bJ.length
 uniq:∀(i j:Nat) o o' d,i<n->j<n->L[i]?=some o->L[j]?=some o'->o.dst=some d->o'.dst=some d->i=j
 inb:∀(i:Nat) o d,i<n->L[i]?=some o->o.dst=some d->d<bJ.length
 fin:∀(i:Nat) o d,i<n->L[i]?=some o->o.dst=some d->tm[d]?=some (vals i)
 rest:∀t,(∀(k:Nat) o,k<n->L[k]?=some o->o.dst≠some t)->tm[t]?=bJ[t]?
 lL:∀d,d∈wr↔∃(k:Nat)(o':Oper),k<n/\L[k]?=some o'/\o'.dst=some d
 slot:∀(i:Nat) o,i<n->L[i]?=some o->∃cL dM H1,gY true cx L (en (eI bs i) L 0 cL) H dM o=some (vals i,H1,true)/\cL.length=bJ.length/\
  (∀(k:Nat) o' d,L[k]?=some o'->o'.dst=some d->k<i->cL[d]?=some (vals k))/\(∀t,(∀(k:Nat) o,k<i->L[k]?=some o->o.dst≠some t)->cL[t]?=bJ[t]?)/\∀d∈dM,∃(k:Nat)(o':Oper),k<i/\L[k]?=some o'/\o'.dst=some d
theorem ER{cx:Cx K}{L:List Oper}{bs:List Nat}:∀(l:List Oper)(i:Nat)(st st':St K)(wr wr':List Nat),lI cx L bs l i st wr=some (st',wr')->st'.ok=true->st.ok=true/\st'.H=st.H
 |[],i,st,st',wr,wr',h,hok=>by simp only[lI,aj,aF]at h;rw[h.1];exact⟨hok,rfl⟩
 |o::r,i,st,st',wr,wr',h,hok=>by
  simp only[lI]at h;split at h
  ·split at h
   ·rename_i st1 gG hp;obtain⟨p1,p2,-⟩:=oM hp;obtain⟨q1,q2⟩:=ER r (i+1) st1 st' gG wr' h hok;rw[p2]at q1;simp only[bz]at q1;exact⟨q1.2,by rw[q2,p1]⟩
   ·cases h
  ·cases h
theorem Kp{cx:Cx K}{L:List Oper}{bs:List Nat}{H:List (Ob K)}{bJ:List (AV K)}:∀(l:List Oper)(n:Nat)(st st':St K)(wr wr':List Nat)(vals:Nat->AV K),lI cx L bs l n st wr=some (st',wr')->st'.ok=true->st.H=H->
 (∀j,l[j]?=L[n+j]?)->n+l.length=L.length->Ko cx L bs H bJ vals n st.tm wr->∃jV,Ko cx L bs H bJ jV L.length st'.tm wr'
 |[],n,st,st',wr,wr',vals,h,hok,hH,hl,hn,hp=>by
   simp only[lI,aj,aF]at h;obtain⟨rfl,rfl⟩:=h;simp at hn;subst hn;exact⟨vals,hp⟩
 |o::r,n,st,st',wr,wr',vals,h,hok,hH,hl,hn,hp=>by
  have hLn:L[n]?=some o:=by have:=hl 0;simpa using this.symm
  simp only[lI]at h;split at h
  ·rename_i v H1 c hsv;split at h
   ·rename_i st1 gG hput;obtain⟨p1,p2,p3⟩:=oM hput;have hok1:=(ER r (n+1) st1 st' gG wr' h hok).1;rw[p2]at hok1;simp only[bz]at hok1;obtain⟨rfl,-⟩:=hok1;rw[hH]at hsv
    let jV:Nat->AV K:=fun i=>if i=n then v else vals i
    have hv':∀i,i<n->jV i=vals i:=fun i hi=>by simp[jV,show i≠n by omega]
    have hvn:jV n=v:=by simp[jV]
    have ES:∃cL dM H1,gY true cx L (en (eI bs n) L 0 cL) H dM o=some (jV n,H1,true)/\cL.length=bJ.length/\
     (∀(k:Nat) o' d,L[k]?=some o'->o'.dst=some d->k<n->cL[d]?=some (jV k))/\(∀t,(∀(k:Nat) o,k<n->L[k]?=some o->o.dst≠some t)->cL[t]?=bJ[t]?)/\∀d∈dM,∃(k:Nat)(o':Oper),k<n/\L[k]?=some o'/\o'.dst=some d:=
     ⟨st.tm,wr,H1,by rw[hvn];exact hsv,hp.len,fun k o' d h1 h2 h3=>by rw[hv' k h3];exact hp.fin k o' d h3 h1 h2,fun t ht=>hp.rest t fun k o' hk h1=>ht k o' hk h1,fun d hd=>(hp.lL d).1 hd⟩
    have qq:∀(i:Nat) o,i<n+1->L[i]?=some o->∃cL dM H1,gY true cx L (en (eI bs i) L 0 cL) H dM o=some (jV i,H1,true)/\cL.length=bJ.length/\
     (∀(k:Nat) o' d,L[k]?=some o'->o'.dst=some d->k<i->cL[d]?=some (jV k))/\(∀t,(∀(k:Nat) o,k<i->L[k]?=some o->o.dst≠some t)->cL[t]?=bJ[t]?)/\∀d∈dM,∃(k:Nat)(o':Oper),k<i/\L[k]?=some o'/\o'.dst=some d:=fun i o1 hi ho1=>by
     by_cases hin:i=n
     ·subst hin;rw[hLn]at ho1;simp at ho1;subst ho1;exact ES
     ·obtain⟨cL,dM,H2,a1,a2,a3,a4,a5⟩:=hp.slot i o1 (by omega) ho1;exact⟨cL,dM,H2,by rw[hv' i (by omega)];exact a1,a2,fun k o' d h1 h2 h3=>by rw[hv' k (by omega)];exact a3 k o' d h1 h2 h3,a4,a5⟩
    refine Kp r (n+1) st1 st' gG wr' jV h hok (by rw[p1];exact hH) (fun j=>by have:=hl (j+1);simp only[List.getElem?_cons_succ]at this;rw[this];congr 1;omega) (by simp at hn;omega) ?_;rcases p3 with⟨e1,e2,e3⟩|⟨d,e1,e2,e3,e4,e5⟩
    ·refine⟨by rw[e2];exact hp.len,fun i j o1 o2 d hi hj h1 h2 h3 h4=>?_,fun i o1 d hi h1 h2=>?_,fun i o1 d hi h1 h2=>?_,fun t ht=>by rw[e2];exact hp.rest t fun k o' hk=>ht k o' (by omega),fun d=>?_,qq⟩
     ·have hin:i≠n:=fun e=>by subst e;rw[hLn]at h1;simp at h1;subst h1;rw[e1]at h3;cases h3
      have hjn:j≠n:=fun e=>by subst e;rw[hLn]at h2;simp at h2;subst h2;rw[e1]at h4;cases h4
      exact hp.uniq i j o1 o2 d (by omega) (by omega) h1 h2 h3 h4
     ·have hin:i≠n:=fun e=>by subst e;rw[hLn]at h1;simp at h1;subst h1;rw[e1]at h2;cases h2
      exact hp.inb i o1 d (by omega) h1 h2
     ·have hin:i≠n:=fun e=>by subst e;rw[hLn]at h1;simp at h1;subst h1;rw[e1]at h2;cases h2
      rw[e2,hv' i (by omega)];exact hp.fin i o1 d (by omega) h1 h2
     ·rw[e3,hp.lL d];constructor
      ·rintro ⟨k,o',hk,h1,h2⟩;exact⟨k,o',by omega,h1,h2⟩
      ·rintro ⟨k,o',hk,h1,h2⟩
       have hkn:k≠n:=fun e=>by subst e;rw[hLn]at h1;simp at h1;subst h1;rw[e1]at h2;cases h2
       exact⟨k,o',by omega,h1,h2⟩
    ·have hnew:∀(k:Nat) o',k<n->L[k]?=some o'->o'.dst≠some d:=fun k o' hk h1 h2=>e2 ((hp.lL d).2 ⟨k,o',hk,h1,h2⟩)
     have hdn:∀{o1:Oper}{d1:Nat},L[n]?=some o1->o1.dst=some d1->d1=d:=fun{o1 d1} h1 h2=>by rw[hLn]at h1;simp at h1;subst h1;rw[e1]at h2;simpa using h2.symm
     refine⟨by rw[e4];simp[hp.len],fun i j o1 o2 d1 hi hj h1 h2 h3 h4=>?_,fun i o1 d1 hi h1 h2=>?_,fun i o1 d1 hi h1 h2=>?_,fun t ht=>?_,fun d1=>?_,qq⟩
     ·by_cases hin:i=n<;>by_cases hjn:j=n
      ·omega
      ·subst hin;have:=hdn h1 h3;subst this;exact absurd h4 (hnew j o2 (by omega) h2)
      ·subst hjn;have:=hdn h2 h4;subst this;exact absurd h3 (hnew i o1 (by omega) h1)
      ·exact hp.uniq i j o1 o2 d1 (by omega) (by omega) h1 h2 h3 h4
     ·by_cases hin:i=n
      ·subst hin;have:=hdn h1 h2;subst this;rw[<-hp.len];exact e3
      ·exact hp.inb i o1 d1 (by omega) h1 h2
     ·rw[e4];by_cases hin:i=n
      ·subst hin;have:=hdn h1 h2;subst this;rw[fV,aO rfl,aO e3,hvn]
      ·have hne:d1≠d:=fun e=>by subst e;exact hnew i o1 (by omega) h1 h2
       rw[fV,aX (m8 hne),hv' i (by omega)];exact hp.fin i o1 d1 (by omega) h1 h2
     ·have hne:d≠t:=fun e=>by subst e;exact ht n o (by omega) hLn e1
      rw[e4,fV,aX hne];exact hp.rest t fun k o' hk=>ht k o' (by omega)
     ·rw[e5,fW,hp.lL d1];constructor
      ·rintro (rfl|⟨k,o',hk,h1,h2⟩)
       ·exact⟨n,o,by omega,hLn,e1⟩
       ·exact⟨k,o',by omega,h1,h2⟩
      ·rintro ⟨k,o',hk,h1,h2⟩
       by_cases hkn:k=n
       ·subst hkn;exact .inl (hdn h1 h2)
       ·exact .inr ⟨k,o',by omega,h1,h2⟩
   ·cases h
  ·cases h
theorem Xp{cx:Cx K}{L:List Oper}{bs:List Nat}{st st':St K}{wr':List Nat}(h:lI cx L bs L 0 st []=some (st',wr'))(hok:st'.ok=true):
 ∃vals,Ax cx L bs st.H st.tm st'.tm vals/\∀d,d∈wr'↔∃(k:Nat)(o':Oper),L[k]?=some o'/\o'.dst=some d:=by
 obtain⟨vals,hp⟩:=Kp (bJ:=st.tm) L 0 st st' [] wr' (fun _=>.any) h hok rfl (fun j=>by simp) (by simp)
  ⟨rfl,fun i j _ _ _ hi=>by omega,fun i _ _ hi=>by omega,fun i _ _ hi=>by omega,fun t _=>rfl,fun d=>by simp,fun i _ hi=>by omega⟩
 have hlt:∀{i:Nat}{o:Oper},L[i]?=some o->i<L.length:=fun h=>(bM.1 h).1
 refine⟨vals,⟨hp.len,fun i j o o' d h1 h2=>hp.uniq i j o o' d (hlt h1) (hlt h2) h1 h2,fun i o d h1=>hp.inb i o d (hlt h1) h1,fun i o d h1=>hp.fin i o d (hlt h1) h1,fun t ht=>hp.rest t fun k o _=>ht k o,fun i o h1=>hp.slot i o (hlt h1) h1⟩,fun d=>?_⟩;rw[hp.lL d];exact⟨fun⟨k,o',_,h1,h2⟩=>⟨k,o',h1,h2⟩,fun⟨k,o',h1,h2⟩=>⟨k,o',hlt h1,h1,h2⟩⟩
end Go.V
namespace Go.V
open Go
variable {K :cK}{ρ ρ':List Value}{S S':Nat->Prop}{w w':World}{H H':List (Ob K)}
structure Mid (cx:Cx K) (L:List Oper) (bJ:List (AV K)) (vals:Nat->AV K) (H:List (Ob K)) (ρ:List Value) (S:Nat->Prop) (listed:Array Bool) (a:Act) (w:World):Prop where
 heap:aK cx.D ρ S w H
 defers:a.defers=[]
 size:a.tmps.size=bJ.length
 mq:listed.size=L.length
 base:∀(t:Nat) v x,(∀(k:Nat) o,L[k]?=some o->o.dst=some t->listed[k]?≠some true)->bJ[t]?=some v->a.tmps[t]?=some x->Rep cx.D ρ S w v x
 done:∀(k:Nat) o d x,L[k]?=some o->listed[k]?=some true->o.dst=some d->a.tmps[d]?=some x->ez cx.D ρ S w a.tmps (vals k) x
 opts:∀(k g:Nat) b y,listed[k]?=some true->vals k=.opt g b y->∃(k':Nat)(o':Oper),L[k']?=some o'/\o'.dst=some g/\listed[k']?=some true
 closed:∀(k:Nat) o,L[k]?=some o->listed[k]?=some true->∀e∈o.after,listed[e.on]?=some true
theorem vh(L:List Oper)(t:Nat):J5 L t\/∃(k:Nat)(o:Oper),L[k]?=some o/\o.dst=some t:=by
 by_cases h:∃(k:Nat)(o:Oper),L[k]?=some o/\o.dst=some t
 ·exact .inr h
 ·exact .inl fun k o h1 h2=>h ⟨k,o,h1,h2⟩
theorem Kq{q:Bool}{cx:Cx K}{ops:List Oper}{tm:List (AV K)}{wr:List Nat}{o:Oper}{g:Nat}{b:Bool}{y:AV K}{c:Bool}(h:gY q cx ops tm H wr o=some (.opt g b y,H',c)):∃v,tm[g]?=some v/\v≠.any:=by
 unfold gY at h;split at h
 ·cases h
 ·split at h
  ·split at h
   ·cases h
   ·rename_i hno;simp only[aj,aF]at h;obtain⟨rfl,-⟩:=h;simp[AV.iJ]at hno
  ·cases h
 ·rename_i g' w1 hgd;split at h
  ·split at h
   ·split at h
    ·split at h
     ·split at h
      ·cases h
      ·rename_i hno;simp only[aj,aF]at h;obtain⟨rfl,-⟩:=h;simp[AV.iJ]at hno
     ·cases h
    ·simp only[aj,aF]at h;obtain⟨h,-⟩:=h;cases h
   ·cases h
  split at h
  ·cases h
  ·rename_i e hgv;split at h
   ·split at h
    ·simp only[aj,aF,AV.opt.injEq]at h;obtain⟨⟨rfl,rfl,rfl⟩,-⟩:=h;simp only[uF]at hgv;split at hgv
     ·rename_i bb hv;exact⟨_,hv,by simp⟩
     ·rename_i g1 w1 bb hv;exact⟨_,hv,by simp⟩
     ·cases hgv
    ·cases h
   ·cases h
theorem xp{listed:Array Bool}{j:Nat}:listed.getD j true=false↔listed[j]?=some false:=by
 rw[l9];cases h:listed[j]? with
 |none=>simp
 |some b=>cases b<;>simp
theorem ET{listed:Array Bool}{j:Nat}:listed.getD j false=true↔listed[j]?=some true:=by
 rw[l9];cases h:listed[j]? with
 |none=>simp
 |some b=>cases b<;>simp
theorem Mid.slots{cx:Cx K}{L:List Oper}{bJ eK:List (AV K)}{vals:Nat->AV K}{bs:List Nat}(hbs:bs=gB L [])(he:jv L 0=true){listed:Array Bool}{a:Act}
 (hm:Mid cx L bJ vals H ρ S listed a w) (hd:Ax cx L bs H bJ eK vals) (h0:dr bJ) {j:Nat} {o:Oper} (ho:L[j]?=some o) (f6:listed[j]?=some false) (kD:∀e∈o.after,listed[e.on]?=some true) {cL:List (AV K)} (hl:cL.length=bJ.length)
 (h1:∀(k:Nat) o' d,L[k]?=some o'->o'.dst=some d->k<j->cL[d]?=some (vals k)) (h2:∀t,(∀(k:Nat) o,k<j->L[k]?=some o->o.dst≠some t)->cL[t]?=bJ[t]?):eJ cx.D ρ S w (en (eI bs j) L 0 cL) a.tmps/\
   ∀(t:Nat) v,(en (eI bs j) L 0 cL)[t]?=some v->v≠.any->(∀(k:Nat) o',k<j->L[k]?=some o'->o'.dst≠some t)\/∃(k:Nat)(o':Oper),L[k]?=some o'/\o'.dst=some t/\listed[k]?=some true:=by
 have key:∀(t:Nat) v,(en (eI bs j) L 0 cL)[t]?=some v->v≠.any->(((∀(k:Nat) o',k<j->L[k]?=some o'->o'.dst≠some t)/\(∀(k:Nat) o,L[k]?=some o->o.dst=some t->listed[k]?≠some true))/\bJ[t]?=some v)\/∃(k:Nat)(o':Oper),L[k]?=some o'/\o'.dst=some t/\listed[k]?=some true/\v=vals k:=fun t v hv hne=>by
  obtain⟨g1,g2⟩:=EN L 0 cL t v hv hne;rcases vh L t with hn|⟨k,o',hk,hkd⟩
  ·exact .inl ⟨⟨fun k o' _ h=>hn k o' h,fun k o' h h'=>absurd h' (hn k o' h)⟩,by rw[<-h2 t fun k o' _ h=>hn k o' h];exact g1⟩
  ·have hb:=g2 k o' hk hkd;rw[fu,hbs]at hb;rcases J7 hb with hb|hb
   ·obtain⟨c1,c2⟩:=qp he (T:=fun i=>listed[i]?=some true) (fun i o hi mr=>hm.closed i o hi mr) j o ho kD k hb;have:=h1 k o' t hk hkd c2;rw[g1]at this;exact .inr ⟨k,o',hk,hkd,c1,by simpa using this⟩
   ·have c0:=(qp he (T:=fun _=>True) (fun _ _ _ _ _ _=>trivial) k o' hk (fun _ _=>trivial) j hb).2;have hun:listed[k]?≠some true:=fun hlk=>by
     have:=(qp he (T:=fun i=>listed[i]?=some true) (fun i o hi mr=>hm.closed i o hi mr) k o' hk (hm.closed k o' hk hlk) j hb).1;rw[f6]at this;cases this
    have xq:∀(k':Nat) o1,L[k']?=some o1->o1.dst=some t->k'=k:=fun k' o1 h1 h2=>hd.uniq k' k o1 o' t h1 hk h2 hkd
    have hlt:∀(k':Nat) o1,k'<j->L[k']?=some o1->o1.dst≠some t:=fun k' o1 hk' h1 h2=>by have:=xq k' o1 h1 h2;omega
    exact .inl ⟨⟨hlt,fun k' o1 h1 h2=>by rw[xq k' o1 h1 h2];exact hun⟩,by rw[<-h2 t hlt];exact g1⟩
 refine⟨⟨by rw[EO,hl,hm.size],fun t v x hv hx=>?_⟩,fun t v hv hne=>?_⟩
 ·by_cases hne:v=.any
  ·subst hne;exact .jz (.any x)
  ·rcases key t v hv hne with⟨⟨-,hn⟩,g⟩|⟨k,o',hk,hkd,hlk,rfl⟩
   ·exact .jz (hm.base t v x hn g hx)
   ·exact hm.done k o' t x hk hlk hkd hx
 ·rcases key t v hv hne with⟨⟨hn,-⟩,-⟩|⟨k,o',hk,hkd,hlk,-⟩
  ·exact .inl hn
  ·exact .inr ⟨k,o',hk,hkd,hlk⟩
theorem Mid.put{cx:Cx K}{L:List Oper}{bJ eK:List (AV K)}{vals:Nat->AV K}{bs:List Nat}{listed:Array Bool}{a:Act}(hm:Mid cx L bJ vals H ρ S listed a w)(hd:Ax cx L bs H bJ eK vals){j:Nat}{o:Oper}(ho:L[j]?=some o)
 (hj:listed[j]?=some false) (kD:∀e∈o.after,listed[e.on]?=some true) {u:Value} (hs':aK cx.D ρ' S' w' H) (hst:Step cx.D H.length ρ S H w ρ' S' H w') (hv:ez cx.D ρ' S' w' a.tmps (vals j) u)
 (lp:∀g b y,vals j=.opt g b y->∃(k':Nat)(o':Oper),L[k']?=some o'/\o'.dst=some g/\listed[k']?=some true):Mid cx L bJ vals H ρ' S' (listed.setIfInBounds j true) (a.put o.dst u) w':=by
 have hjs:j<listed.size:=(js.1 hj).1;have hget:∀(k:Nat),(listed.setIfInBounds j true)[k]?=some true↔(k=j\/listed[k]?=some true):=fun k=>by
  rw[m6];by_cases hk:j=k
  ·subst hk;simp[hjs]
  ·rw[aX hk];simp[m8 hk]
 have hmono:∀{v:AV K}{x:Value},Rep cx.D ρ S w v x->Rep cx.D ρ' S' w' v x:=fun h=>h.mono hst.s1 (hst.w9 hm.heap) (hst.EK hm.heap)
 have Kr:∀{v:AV K}{x:Value}{tmps:Array Value},ez cx.D ρ S w tmps v x->ez cx.D ρ' S' w' tmps v x:=fun h=>h.mono hst.s1 (hst.w9 hm.heap) (hst.EK hm.heap)
 have hclosed:∀(k:Nat) o1,L[k]?=some o1->(listed.setIfInBounds j true)[k]?=some true->∀e∈o1.after,(listed.setIfInBounds j true)[e.on]?=some true:=fun k o1 hk hlk e he=>by
  rw[hget]at hlk⊢;rcases hlk with rfl|hlk
  ·rw[ho]at hk;simp at hk;subst hk;exact .inr (kD e he)
  ·exact .inr (hm.closed k o1 hk hlk e he)
 have xr:∀(k g:Nat) b y,(listed.setIfInBounds j true)[k]?=some true->vals k=.opt g b y->∃(k':Nat)(o':Oper),L[k']?=some o'/\o'.dst=some g/\(listed.setIfInBounds j true)[k']?=some true:=fun k g b y hlk hvk=>by
  rw[hget]at hlk;rcases hlk with rfl|hlk
  ·obtain⟨k',o',h1,h2,h3⟩:=lp g b y hvk;exact⟨k',o',h1,h2,(hget k').2 (.inr h3)⟩
  ·obtain⟨k',o',h1,h2,h3⟩:=hm.opts k g b y hlk hvk;exact⟨k',o',h1,h2,(hget k').2 (.inr h3)⟩
 cases hdst:o.dst with
 |none=>
  refine⟨hs',hm.defers,hm.size,by simp[hm.mq],fun t v x h1 h2 h3=>hmono (hm.base t v x (fun k o1 hk hd1 hl=>h1 k o1 hk hd1 ((hget k).2 (.inr hl))) h2 h3),fun k o1 d x hk hlk hd1 hx=>?_,xr,hclosed⟩;rw[hget]at hlk;rcases hlk with rfl|hlk
  ·rw[ho]at hk;simp at hk;subst hk;rw[hdst]at hd1;cases hd1
  ·exact Kr (hm.done k o1 d x hk hlk hd1 hx)
 |some d=>
  have hne:∀{k:Nat}{o1:Oper},L[k]?=some o1->listed[k]?=some true->o1.dst≠some d:=fun{k o1} hk hlk hd1=>by
   have:=hd.uniq k j o1 o d hk ho hd1 hdst;subst this;rw[hj]at hlk;cases hlk
  refine⟨hs',hm.defers,by simp[Act.put,hm.size],by simp[hm.mq],fun t v x h1 h2 h3=>?_,fun k o1 d1 x hk hlk hd1 hx=>?_,xr,hclosed⟩
  ·have:d≠t:=fun e=>by subst e;exact h1 j o ho hdst ((hget j).2 (.inl rfl))
   simp only[Act.put,m6,aX this]at h3;exact hmono (hm.base t v x (fun k o1 hk hd1 hl=>h1 k o1 hk hd1 ((hget k).2 (.inr hl))) h2 h3)
  ·rw[hget]at hlk;simp only[Act.put]at hx⊢;rw[m6]at hx;rcases hlk with rfl|hlk
   ·rw[ho]at hk;simp at hk;subst hk;rw[hdst]at hd1;simp at hd1;subst hd1;rw[aO rfl]at hx;split at hx
    ·simp at hx;subst hx;refine hv.put fun g b y e he=>?_
     obtain⟨k',o',h1,h2,h3⟩:=lp g b y e;subst he;exact hne h1 h3 h2
    ·cases hx
   ·have hdd:d≠d1:=fun e=>by subst e;exact hne hk hlk hd1
    rw[aX hdd]at hx;refine(Kr (hm.done k o1 d1 x hk hlk hd1 hx)).put fun g b y e he=>?_
    obtain⟨k',o',h1,h2,h3⟩:=hm.opts k g b y hlk e;subst he;exact hne h1 h3 h2
def todo(listed:Array Bool):Nat:=(listed.toList.filter fun b=> !b).length
theorem Ks{listed:Array Bool}{j:Nat}(h:listed[j]?=some false):todo (listed.setIfInBounds j true)+1=todo listed:=by
 have key:∀(l:List Bool)(j:Nat),l[j]?=some false->((l.set j true).filter fun b=> !b).length+1=(l.filter fun b=> !b).length:=fun l=>by
  induction l with
  |nil=>intro j h;simp at h
  |cons x r ih=>
   intro j h;cases j with
   |zero=>simp at h;subst h;simp
   |succ j=>
    have:=ih j (by simpa using h);simp only[List.set_cons_succ,List.filter_cons];cases x
    ·simp only[bp,od,dH];omega
    ·simp only[bQ,jt,km];omega
 simp only[todo,Array.toList_setIfInBounds];exact key _ _ (by simpa using h)
theorem Kt{listed:Array Bool}(h:todo listed=0){j:Nat}:listed[j]?≠some false:=fun hj=>by
 have hm:false∈listed.toList:=by
  rw[List.mem_iff_getElem?];exact⟨j,by simpa using hj⟩
 have:false∈listed.toList.filter fun b=> !b:=by simp[hm]
 rw[kU h]at this;cases this
theorem Ku{L:List Oper}(he:jv L 0=true){listed:Array Bool}(hl:listed.size=L.length)(hr:Region.ready .any L.toArray listed=[]):∀(i:Nat),i<L.length->listed[i]?=some true:=by
 intro i
 induction i using Nat.strongRecOn with
 |_ i ih=>
  intro hi;have ho:=bY hi;cases hb:listed[i]? with
  |none=>rw[Array.getElem?_eq_none_iff]at hb;omega
  |some b=>
   cases b with
   |true=>rfl
   |false=>
    have:i∈Region.ready .any L.toArray listed:=mem_ready.2 ⟨xp.2 hb,L[i],by simp[hi],fun e sf _=>by
     have:=(xo L 0 i _ he ho e sf).1;exact ET.2 (ih e.on (by omega) (by omega))⟩
    rw[hr]at this;cases this
theorem Xq{cx:Cx K}(hD:bu cx.D)(hc:aZ cx){L:List Oper}(EU:∀(i:Nat) o,L[i]?=some o->mi cx o.op=true)(he:jv L 0=true){bJ eK:List (AV K)}{vals:Nat->AV K}(hd:Ax cx L (gB L []) H bJ eK vals)(h0:dr bJ)
 {n0:Nat} (hn:n0<=H.length) {Q:Exit->Act->World->Prop}:∀(fuel:Nat)(listed:Array Bool)(ρ:List Value)(S:Nat->Prop)(a:Act)(w:World),Mid cx L bJ vals H ρ S listed a w->todo listed<=fuel->
 (∀ρ' S' a' w',aK cx.D ρ' S' w' H->eJ cx.D ρ' S' w' eK a'.tmps->a'.defers=[]->Step cx.D n0 ρ S H w ρ' S' H w'->Q .normal a' w')->wpAny cx.P .any L.toArray Q fuel listed a w:=by
 have hfin:∀(listed:Array Bool)(ρ:List Value)(S:Nat->Prop)(a:Act)(w:World),Mid cx L bJ vals H ρ S listed a w->Region.ready .any L.toArray listed=[]->eJ cx.D ρ S w eK a.tmps:=fun listed ρ S a w hm hr=>by
  have hall:=Ku he hm.mq hr;refine⟨by rw[hd.len,hm.size],fun t v x hv hx=>?_⟩;rcases vh L t with hnd|⟨k,o,hk,hkd⟩
  ·rw[hd.rest t hnd]at hv;exact .jz (hm.base t v x (fun k o hk hkd=>absurd hkd (hnd k o hk)) hv hx)
  ·rw[hd.fin k o t hk hkd]at hv;simp only[aj]at hv;subst hv;exact hm.done k o t x hk (hall k (bM.1 hk).1) hkd hx
 intro fuel
 induction fuel with
 |zero=>
  intro listed ρ S a w hm ht hq;have hr:Region.ready .any L.toArray listed=[]:=by
   cases hh:Region.ready .any L.toArray listed with
   |nil=>rfl
   |cons j r=>
    have:j∈Region.ready .any L.toArray listed:=by rw[hh];simp
    exact absurd (xp.1 (mem_ready.1 this).1) (Kt (by omega))
  exact⟨hr,hq ρ S a w hm.heap (hfin listed ρ S a w hm hr) hm.defers Step.refl⟩
 |succ fuel ih=>
  intro listed ρ S a w hm ht hq;refine⟨fun hr=>hq ρ S a w hm.heap (hfin listed ρ S a w hm hr) hm.defers Step.refl,fun j hj=>?_⟩;obtain⟨oD,o,hoj,hall⟩:=mem_ready.1 hj;have f6:=xp.1 oD;have ho:L[j]?=some o:=by simpa using hoj
  have kD:∀e∈o.after,listed[e.on]?=some true:=fun e sf=>ET.1 (hall e sf (xo L 0 j o he ho e sf).2)
  obtain⟨cL,dM,H1,s1,s2,s3,s4,s5⟩:=hd.slot j o ho;obtain⟨hsl,hkn⟩:=hm.slots rfl he hd h0 ho f6 kD s2 s3 s4;have hH1:H1=H:=by
   have hsm:=EU j o ho;unfold gY at s1;split at s1
   ·cases s1
   ·split at s1
    ·rename_i hy;split at s1
     ·cases s1
     ·simp only[aj,aF]at s1;obtain⟨-,rfl,-⟩:=s1;exact vf hy
    ·cases s1
   ·split at s1
    ·split at s1
     ·split at s1
      ·split at s1
       ·rename_i hy;split at s1
        ·cases s1
        ·simp only[aj,aF]at s1;obtain⟨-,rfl,-⟩:=s1;exact vf hy
       ·cases s1
      ·simp only[aj,aF]at s1;exact s1.2.1.symm
     ·cases s1
    split at s1
    ·cases s1
    ·split at s1
     ·split at s1
      ·simp only[aj,aF]at s1;exact s1.2.1.symm
      ·cases s1
     ·cases s1
  subst hH1;have lp:∀g b y,vals j=.opt g b y->∃(k':Nat)(o':Oper),L[k']?=some o'/\o'.dst=some g/\listed[k']?=some true:=fun g b y e=>by
   rw[e]at s1;obtain⟨v,g1,g2⟩:=Kq s1;rcases hkn g v g1 g2 with hn'|h
   ·obtain⟨k,o',hk,h2,h3⟩:=s5 g (se s1 g b y rfl);exact absurd h3 (hn' k o' hk h2)
   ·exact h
  have hw:=EJ hD hc hm.heap hsl (ops:=L) s1 rfl (k:=wpAny cx.P .any L.toArray Q fuel (listed.setIfInBounds j true)) (Q:=Q) fun u ρ1 S1 w1 q1 q2 q3=>by
   have hm1:=hm.put hd ho f6 kD q1 q3 q2 lp;refine ih _ ρ1 S1 _ w1 hm1 (by have:=Ks f6;omega) fun ρ' S' a' w' g1 g2 g3 g4=>hq ρ' S' a' w' g1 g2 g3 ((q3.weaken hn).trans g4)
  unfold wpOp;rw[hoj];dsimp only;split
  ·rename_i hwt;rw[aO hwt]at hw;exact .inl hw
  ·rename_i hwt;rw[aX hwt]at hw;exact hw
theorem Kv(n:Nat):todo (Array.replicate n false)<=n:=by
 simp only[todo,Array.toList_replicate];exact kX (List.length_filter_le _ _) (by simp)
end Go.V
namespace Go.V
open Go
variable {K :cK}{ρ ρ':List Value}{S S':Nat->Prop}{w w':World}{H H':List (Ob K)}{D:bg K}
theorem xt{bits:Nat}:∀(l:List (Ob K))(i k:Nat),(gZ bits i l)[k]?=(l[k]?).map fun o=>if bits.testBit (i+k)then .dead else o
 |[],i,k=>by simp[gZ]
 |o::r,i,0=>by simp[gZ]
 |o::r,i,k+1=>by
  simp only[gZ,List.getElem?_cons_succ];rw[xt r (i+1) k,show i+1+k=i+(k+1) by omega]
theorem xu{bits:Nat}:∀(l:List (Ob K))(i:Nat),(gZ bits i l).length=l.length
 |[],i=>rfl
 |o::r,i=>by simp only[gZ,dH,xu r]
theorem Az{bits:Nat}:∀(l l':List (Ob K))(i:Nat),l.length<=l'.length->(jU bits i l l').length=l'.length
 |[],l',i,_=>by simp[jU]
 |o::r,[],i,h=>by simp at h
 |o::r,o'::r',i,h=>by
  simp only[jU,dH];rw[Az r r' (i+1) (by simpa using h)]
theorem AA{bits:Nat}:∀(l l':List (Ob K))(i k:Nat),l.length<=l'.length->(jU bits i l l')[k]?=if k<l.length/\bits.testBit (i+k)=true then l[k]? else l'[k]?
 |[],l',i,k,_=>by simp[jU]
 |o::r,[],i,k,h=>by simp at h
 |o::r,o'::r',i,0,h=>by
  simp only[jU,List.getElem?_cons_zero,dH,Nat.add_zero];by_cases hb:bits.testBit i=true<;>simp[hb]
 |o::r,o'::r',i,k+1,h=>by
  simp only[jU,List.getElem?_cons_succ,dH,Nat.add_lt_add_iff_right];rw[AA r r' (i+1) k (by simpa using h),show i+1+k=i+(k+1) by omega]
theorem sg{n:Nat}:∀{l:List (AV K)}{i:Nat}{v:AV K},nc n l=true->l[i]?=some v->v.upto n=true
 |[],i,v,_,h=>by simp at h
 |x::r,0,v,h,hv=>by simp at hv;subst hv;simp only[nc,bz]at h;exact h.1
 |x::r,i+1,v,h,hv=>by simp only[nc,bz]at h;exact sg h.2 (by simpa using hv)
theorem Rep.take(hD:bu D){n:Nat}{v:AV K}{x:Value}(h:Rep D ρ S w v x):v.upto n=true->Rep D (ρ.take n) S w v x:=by
 have tk:∀{k:Nat}{r:Value},k<n->ρ[k]?=some r->(ρ.take n)[k]?=some r:=fun hk hr=>by rw[dI,aO hk];exact hr
 induction h with
 |any v=>exact fun _=>.any v
 |int k n=>exact fun _=>.int k n
 |bool b=>exact fun _=>.bool b
 |str s=>exact fun _=>.str s
 |da=>exact fun _=>.da
 |cP=>exact fun _=>.cP
 |mp r=>exact fun _=>.mp r
 |fn hl _ ih=>exact fun hu=>.fn hl fun i v x h1 h2=>ih i v x h1 h2 (sg (by simpa [AV.upto]using hu) h1)
 |kB=>exact fun _=>.kB
 |np hp=>exact fun hu=>.np (tk (by simpa [AV.upto]using hu) hp)
 |ptr hp=>exact fun hu=>.ptr (tk (by simpa [AV.upto]using hu) hp)
 |sl hp=>exact fun hu=>.sl (tk (by simpa [AV.upto]using hu) hp)
 |ep hp hi=>exact fun hu=>.ep (tk (by simpa [AV.upto]using hu) hp) hi
 |vw hp h1 h2 ha=>exact fun hu=>.vw (tk (by simpa [AV.upto]using hu) hp) h1 h2 ha
 |eP a cap=>exact fun _=>.eP a cap
 |ax val h1 h2 h3 h4 h5 ih=>exact fun _=>(Rep.ax val h1 h2 h3 h4 h5).closed hD rfl
 |rp vs h1 h2 h3 h4 ih=>exact fun _=>(Rep.rp vs h1 h2 h3 h4).closed hD rfl
 |agg hl _ ih=>exact fun hu=>.agg hl fun i v x h1 h2=>ih i v x h1 h2 (sg (by simpa [AV.upto]using hu) h1)
 |bk hl _ ih=>exact fun hu=>.bk hl fun i v x h1 h2=>ih i v x h1 h2 (sg (by simpa [AV.upto]using hu) h1)
theorem aW.Xr(hD:bu D){n:Nat}{l:List (AV K)}{vs:List Value}(h:aW D ρ S w l vs)(hu:nc n l=true):aW D (ρ.take n) S w l vs:=
 ⟨h.1,fun i v x h1 h2=>(h.2 i v x h1 h2).take hD (sg hu h1)⟩
def dummy:Value:=.bool false
theorem Rep.mono'(hS:∀b,S b->S' b)(hw:∀b,S b->w'.heap[b]?=w.heap[b]?)(hρ:∀(h:Nat) r,ρ[h]?=some r->r≠dummy->ρ'[h]?=some r){v:AV K}{x:Value}
 (h:Rep D ρ S w v x):Rep D ρ' S' w' v x:=by
 induction h with
 |any v=>exact .any v
 |int k n=>exact .int k n
 |bool b=>exact .bool b
 |str s=>exact .str s
 |da=>exact .da
 |cP=>exact .cP
 |mp r=>exact .mp r
 |fn hl _ ih=>exact .fn hl ih
 |kB=>exact .kB
 |np hp=>exact .np (hρ _ _ hp (by simp[dummy]))
 |ptr hp=>exact .ptr (hρ _ _ hp (by simp[dummy]))
 |sl hp=>exact .sl (hρ _ _ hp (by simp[dummy]))
 |ep hp hi=>exact .ep (hρ _ _ hp (by simp[dummy])) hi
 |vw hp h1 h2 ha=>exact .vw (hρ _ _ hp (by simp[dummy])) h1 h2 ha
 |eP a cap=>exact .eP a cap
 |ax val h1 h2 h3 h4 _ ih=>exact .ax val (hS _ h1) h2 h3 (fun i hi=>(h4 i hi).keep (hw _ h1)) ih
 |rp vs h1 h2 h3 _ ih=>exact .rp vs (hS _ h1) h2 (h3.keep (hw _ h1)) ih
 |agg hl _ ih=>exact .agg hl ih
 |bk hl _ ih=>exact .bk hl ih
theorem aW.mono'(hS:∀b,S b->S' b)(hw:∀b,S b->w'.heap[b]?=w.heap[b]?)(hρ:∀(h:Nat) r,ρ[h]?=some r->r≠dummy->ρ'[h]?=some r){l:List (AV K)}{vs:List Value}
 (h:aW D ρ S w l vs):aW D ρ' S' w' l vs:=⟨h.1,fun i v x hv hx=>(h.2 i v x hv hx).mono' hS hw hρ⟩
theorem fx.take(hD:bu D){n:Nat}{o:Ob K}{r:Value}(h:fx D ρ S w o r)(hu:o.upto n=true):fx D (ρ.take n) S w o r:=by
 cases o with
 |dead=>trivial
 |fR c l=>exact Rep.closed hD h rfl
 |box cs=>
  obtain⟨b,vs,T,h1,h2,h3,h4⟩:=h;exact⟨b,vs,T,h1,h2,h3.Xr hD hu,h4⟩
 |arr c l=>
  rcases h with h|⟨b,o,cap,vs,T,fr,h1,h2,h3,h4,h5,h6⟩
  ·exact .inl h
  ·exact .inr ⟨b,o,cap,vs,T,fr,h1,h2,h3,h4,h5,fun i x hx=>(h6 i x hx).closed hD (hD.closed _ _)⟩
 |tree c l=>exact h
 |opn c l i off cs=>exact lj.keep (fun j v u hv hr=>hr.take hD (sg hu hv)) (fun _ _=>rfl) h
theorem fx.mono'(hS:∀b,S b->S' b)(hw:∀b,S b->w'.heap[b]?=w.heap[b]?)(hρ:∀(h:Nat) r,ρ[h]?=some r->r≠dummy->ρ'[h]?=some r){o:Ob K}{r:Value}(h:fx D ρ S w o r)
 (hb:∀b,o.live=true->bU D w o r b->w'.heap[b]?=w.heap[b]?):fx D ρ' S' w' o r:=by
 cases o with
 |dead=>trivial
 |fR c l=>exact Rep.mono' hS hw hρ h
 |box cs=>
  obtain⟨b,vs,T,rfl,h2,h3,h4⟩:=h;exact⟨b,vs,T,rfl,by rw[hb b rfl rfl];exact h2,h3.mono' hS hw hρ,h4⟩
 |arr c l=>
  rcases h with h|⟨b,o,cap,vs,T,fr,rfl,h2,h3,h4,h5,h6⟩
  ·exact .inl h
  ·exact .inr ⟨b,o,cap,vs,T,fr,rfl,by rw[hb b rfl rfl];exact h2,h3,h4,h5,fun i x hx=>(h6 i x hx).mono' hS hw hρ⟩
 |tree c l=>exact Tree.mono h fun k hk=>hb k rfl hk
 |opn c l i off cs=>exact lj.keep (fun _ _ _ _ hr=>hr.mono' hS hw hρ) (fun k hk=>hb k rfl hk) h
structure View (n:Nat) (H Hv:List (Ob K)):Prop where
 len:Hv.length=n
 le:n<=H.length
 ob:∀(h:Nat) o,Hv[h]?=some o->o=.dead\/H[h]?=some o
 up:∀(h:Nat) o,Hv[h]?=some o->o.upto n=true
theorem View.lt{n:Nat}{H Hv:List (Ob K)}(v:View n H Hv){h:Nat}{o:Ob K}(ho:Hv[h]?=some o):h<n:=by
 have:=(bM.1 ho).1;rw[v.len]at this;exact this
theorem View.live{n:Nat}{H Hv:List (Ob K)}(v:View n H Hv){h:Nat}{o:Ob K}(ho:Hv[h]?=some o)(hl:o.live=true):H[h]?=some o:=by
 rcases v.ob h o ho with rfl|h
 ·cases hl
 ·exact h
theorem View.own{n:Nat}{H Hv:List (Ob K)}(v:View n H Hv){b:Nat}(h:Own D w (ρ.take n) Hv b):Own D w ρ H b:=by
 obtain⟨h,o,r,h1,h2,h3,h4⟩:=h;rw[dI,aO (v.lt h1)]at h3;exact⟨h,o,r,v.live h1 h2,h2,h3,h4⟩
theorem aK.view(hD:bu D){n:Nat}{H Hv:List (Ob K)}(hs:aK D ρ S w H)(v:View n H Hv):aK D (ρ.take n) S w Hv:={
 len:=by rw[rn,hs.len,v.len];have:=v.le;omega
 ob:=fun h o r ho hr=>by
  rw[dI,aO (v.lt ho)]at hr;rcases v.ob h o ho with rfl|h1
  ·trivial
  ·exact(hs.ob h o r h1 hr).take hD (v.up h o ho)
 ed:=fun h h' o o' r r' b h1 h2 h3 h4 h5 h6 h7 h8=>by
  rw[dI,aO (v.lt h1)]at h3;rw[dI,aO (v.lt h5)]at h7;exact hs.ed h h' o o' r r' b (v.live h1 h2) h2 h3 h4 (v.live h5 h6) h6 h7 h8
 lt:=fun b hb=>hs.lt b (v.own hb)
 slt:=hs.slt
 base:=hs.base}
structure Joined (n m:Nat) (H Hv H1 Hf:List (Ob K)):Prop where
 le:n<=m
 len1:H1.length=m
 len:Hf.length=H.length
 Kw:m<=H.length
 ob:∀(h:Nat) o,Hf[h]?=some o->(h<m/\H1[h]?=some o)\/(H[h]?=some o/\((h<n/\Hv[h]?=some .dead)\/m<=h))
theorem Kx{n m:Nat}{ρ ρ1:List Value}(hl:ρ1.length=m)(hm:m<=ρ.length)(k:Nat):(ρ1++ρ.drop m)[k]?=if k<m then ρ1[k]? else ρ[k]?:=by
 by_cases h:k<m
 ·rw[aO h,cU (by omega)]
 ·rw[aX h,dA (by omega),fe];congr 1;omega
theorem aK.join{n m n0:Nat}{H Hv H1 Hf:List (Ob K)}{ρ1:List Value}{S1:Nat->Prop}{w1:World}(hs:aK D ρ S w H)(v:View n H Hv)(hs1:aK D ρ1 S1 w1 H1)(st:Step D n (ρ.take n) S Hv w ρ1 S1 H1 w1)(j:Joined n m H Hv H1 Hf)
 (hd:∀h,n<=h->h<m->ρ[h]?=some dummy) (hn0:n0<=n):aK D (ρ1++ρ.drop m) S1 w1 Hf/\Step D n0 ρ S H w (ρ1++ρ.drop m) S1 Hf w1/\∀(h:Nat) r,ρ[h]?=some r->r≠dummy->(ρ1++ρ.drop m)[h]?=some r:=by
 have hl1:ρ1.length=m:=by rw[hs1.len,j.len1]
 have Xs:m<=ρ.length:=by rw[hs.len];exact j.Kw
 have hρ:∀k,(ρ1++ρ.drop m)[k]?=if k<m then ρ1[k]? else ρ[k]?:=Kx (n:=n) hl1 Xs
 have hpre:∀h,h<n->ρ1[h]?=ρ[h]?:=fun h hh=>by rw[st.pre h hh,dI,aO hh]
 have hmono:∀(h:Nat) r,ρ[h]?=some r->r≠dummy->(ρ1++ρ.drop m)[h]?=some r:=fun h r hr hne=>by
  rw[hρ];by_cases h1:h<m
  ·rw[aO h1];by_cases h2:h<n
   ·rw[hpre h h2];exact hr
   ·rw[hd h (by omega) h1]at hr;exact absurd (gU hr).symm hne
  ·rw[aX h1];exact hr
 have hun:∀{h:Nat}{o:Ob K}{r:Value}{b:Nat},H[h]?=some o->o.live=true->ρ[h]?=some r->bU D w o r b->((h<n/\Hv[h]?=some .dead)\/m<=h)->¬Own D w (ρ.take n) Hv b:=fun{h o r b} h1 h2 h3 h4 h5 ho=>by
  obtain⟨h',o',r',g1,g2,g3,g4⟩:=ho;have g3':ρ[h']?=some r':=by rw[dI,aO (v.lt g1)]at g3;exact g3
  have e:=hs.ed h h' o o' r r' b h1 h2 h3 h4 (v.live g1 g2) g2 g3' g4;subst e;rcases h5 with⟨-,h5⟩|h5
  ·rw[g1]at h5;simp at h5;subst h5;cases g2
  ·have:=v.lt g1;have:=j.le;omega
 have hblk:∀{h:Nat}{o:Ob K}{r:Value}{b:Nat},H[h]?=some o->o.live=true->ρ[h]?=some r->bU D w o r b->b<w.heap.size/\¬S b:=fun{h o r b} h1 h2 h3 h4=>hs.lt b ⟨h,o,r,h1,h2,h3,h4⟩
 have hkp:∀{h:Nat}{o:Ob K}{r:Value},H[h]?=some o->o.live=true->ρ[h]?=some r->((h<n/\Hv[h]?=some .dead)\/m<=h)->∀b,bU D w o r b->w1.heap[b]?=w.heap[b]?:=fun{h o r} h1 h2 h3 h5 b h4=>st.old b (hblk h1 h2 h3 h4).1 (hun h1 h2 h3 h4 h5)
 have hrr:∀{h:Nat}{o:Ob K}{r:Value},H[h]?=some o->((h<n/\Hv[h]?=some .dead)\/m<=h)->(ρ1++ρ.drop m)[h]?=some r->ρ[h]?=some r:=fun{h o r} _ h5 hr=>by
  rw[hρ]at hr;rcases h5 with⟨h5,-⟩|h5
  ·rw[aO (by have:=j.le;omega),hpre h h5]at hr;exact hr
  ·rw[aX (by omega)]at hr;exact hr
 have hown:∀b,Own D w1 (ρ1++ρ.drop m) Hf b->Own D w1 ρ1 H1 b\/∃(h:Nat)(o:Ob K)(r:Value),H[h]?=some o/\o.live=true/\ρ[h]?=some r/\bU D w o r b/\((h<n/\Hv[h]?=some .dead)\/m<=h):=fun b hb=>by
  obtain⟨h,o,r,g1,g2,g3,g4⟩:=hb;rcases j.ob h o g1 with⟨k1,k2⟩|⟨k1,k2⟩
  ·rw[hρ,aO k1]at g3;exact .inl ⟨h,o,r,k2,g2,g3,g4⟩
  ·exact .inr ⟨h,o,r,k1,g2,hrr k1 k2 g3,g4.old (hkp k1 g2 (hrr k1 k2 g3) k2),k2⟩
 have hnew:∀b,Own D w1 ρ1 H1 b->Own D w (ρ.take n) Hv b\/w.heap.size<=b:=st.own;refine⟨⟨?_,?_,?_,?_,hs1.slt,hs1.base⟩,⟨st.os,st.tape,st.output,st.size,fun b hb ho=>st.old b hb fun h=>ho (v.own h),fun b hb=>?_,st.s1,fun b hb=>?_,fun h hh=>?_⟩,hmono⟩
 ·rw[cq,List.length_drop,hl1,hs.len,j.len];have:=j.Kw;omega
 ·intro h o r g1 g2;rcases j.ob h o g1 with⟨k1,k2⟩|⟨k1,k2⟩
  ·rw[hρ,aO k1]at g2;refine(hs1.ob h o r k2 g2).mono' (fun _ h=>h) (fun _ _=>rfl) (fun h' r' hr' _=>?_) (fun _ _ _=>rfl);have:h'<m:=by have:=(bM.1 hr').1;omega
   rw[hρ,aO this];exact hr'
  ·have g2':=hrr k1 k2 g2;exact(hs.ob h o r k1 g2').mono' st.s1 (fun b hb=>st.old b (hs.slt b hb) fun ho=>(hs.lt b (v.own ho)).2 hb) hmono fun b hl hbk=>st.old b (hblk k1 hl g2' hbk).1 (hun k1 hl g2' hbk k2)
 ·intro h h' o o' r r' b g1 g2 g3 g4 g5 g6 g7 g8;rcases j.ob h o g1 with⟨k1,k2⟩|⟨k1,k2⟩<;>rcases j.ob h' o' g5 with⟨l1,l2⟩|⟨l1,l2⟩
  ·rw[hρ,aO k1]at g3;rw[hρ,aO l1]at g7;exact hs1.ed h h' o o' r r' b k2 g2 g3 g4 l2 g6 g7 g8
  ·rw[hρ,aO k1]at g3;have EV:=hrr l1 l2 g7;have g8:=g8.old (hkp l1 g6 EV l2);rcases hnew b ⟨h,o,r,k2,g2,g3,g4⟩with ho|ho
   ·exact absurd ho (hun l1 g6 EV g8 l2)
   ·have:=(hblk l1 g6 EV g8).1;omega
  ·rw[hρ,aO l1]at g7;have g3':=hrr k1 k2 g3;have g4:=g4.old (hkp k1 g2 g3' k2);rcases hnew b ⟨h',o',r',l2,g6,g7,g8⟩with ho|ho
   ·exact absurd ho (hun k1 g2 g3' g4 k2)
   ·have:=(hblk k1 g2 g3' g4).1;omega
  ·exact hs.ed h h' o o' r r' b k1 g2 (hrr k1 k2 g3) (g4.old (hkp k1 g2 (hrr k1 k2 g3) k2)) l1 g6 (hrr l1 l2 g7) (g8.old (hkp l1 g6 (hrr l1 l2 g7) l2))
 ·intro b hb;rcases hown b hb with ho|⟨h,o,r,k1,k2,k3,k4,k5⟩
  ·exact hs1.lt b ho
  ·obtain⟨a1,a2⟩:=hblk k1 k2 k3 k4;refine⟨kj a1 st.size,fun hS=>?_⟩;rcases st.s2 b hS with h1|h1|h1
   ·exact a2 h1
   ·exact hun k1 k2 k3 k4 k5 h1
   ·omega
 ·rcases hown b hb with ho|⟨h,o,r,k1,k2,k3,k4,-⟩
  ·rcases hnew b ho with h1|h1
   ·exact .inl (v.own h1)
   ·exact .inr h1
  ·exact .inl ⟨h,o,r,k1,k2,k3,k4⟩
 ·rcases st.s2 b hb with h1|h1|h1
  ·exact .inl h1
  ·exact .inr (.inl (v.own h1))
  ·exact .inr (.inr h1)
 ·rw[hρ,aO (by have:=j.le;omega),hpre h (by omega)]
end Go.V
namespace Go.V
open Go
variable {K :cK}{H H':List (Ob K)}
def bC(T:List Nat)(H H':List (Ob K)):Prop:=H.length<=H'.length/\∀h,h<H.length->h∉T->H'[h]?=H[h]?
theorem bC.refl(T:List Nat)(H:List (Ob K)):bC T H H:=⟨bH _,fun _ _ _=>rfl⟩
theorem bC.app(T:List Nat)(H N:List (Ob K)):bC T H (H++N):=⟨by simp,fun h hh _=>cU hh⟩
theorem bC.trans{T:List Nat}{H H1 H2:List (Ob K)}(a:bC T H H1)(b:bC T H1 H2):bC T H H2:=
 ⟨kX a.1 b.1,fun h hh hn=>(b.2 h (kj hh a.1) hn).trans (a.2 h hh hn)⟩
theorem bC.set{T:List Nat}{H:List (Ob K)}{h:Nat}(o:Ob K)(hT:h∈T):bC T H (H.set h o):=
 ⟨by simp,fun k _ hn=>List.getElem?_set_ne (fun e=>hn (by rw[<-e];exact hT))⟩
theorem bC.more{T T':List Nat}{H H1:List (Ob K)}(a:bC T H H1)(h:∀x∈T,x∈T'):bC T' H H1:=⟨a.1,fun k hk hn=>a.2 k hk fun hm=>hn (h k hm)⟩
theorem EW(dp:K.U->Bool):∀(cs:List (Option K.U))(l:List (AV K))(H:List (Ob K)),∃N,(thaw dp H cs l).2=H++N
 |[],l,H=>⟨[],by simp[thaw]⟩
 |some c::cs,[],H=>⟨[],by simp[thaw]⟩
 |none::cs,[],H=>⟨[],by simp[thaw]⟩
 |oc::cs,v::r,H=>by
  have keep:thaw dp H (oc::cs) (v::r)=(v::(thaw dp H cs r).1,(thaw dp H cs r).2)->∃N,(thaw dp H (oc::cs) (v::r)).2=H++N:=fun e=>by
   rw[e];exact EW dp cs r H
  cases oc with
  |none=>exact keep (by cases v<;>rfl)
  |some c=>
   cases v with
   |cP=>
    have e:thaw dp H (some c::cs) (.cP::r)=(.sl H.length::(thaw dp (H++[lJ (dp c) c]) cs r).1,(thaw dp (H++[lJ (dp c) c]) cs r).2):=rfl;rw[e];obtain⟨N,hN⟩:=EW dp cs r (H++[lJ (dp c) c]);exact⟨lJ (dp c) c::N,by simp only;rw[hN];simp⟩
   |_=>exact keep rfl
theorem EX(T:List Nat)(dp:K.U->Bool)(cs:List (Option K.U))(l:List (AV K))(H:List (Ob K)):bC T H (thaw dp H cs l).2:=by
 obtain⟨N,hN⟩:=EW dp cs l H;rw[hN];exact bC.app _ _ _
theorem Xt{T:List Nat}{h:Nat}(hT:h∈T)(H:List (Ob K)):bC T H (rA H h):=by
 unfold rA;split
 ·exact bC.set _ hT
 ·exact bC.set _ hT
 ·exact bC.refl _ _
theorem AB{T:List Nat}:∀(l:List Nat)(H:List (Ob K)),(∀x∈l,x∈T)->bC T H (ik H l)
 |[],H,_=>bC.refl _ _
 |h::r,H,hT=>(Xt (hT h (by simp)) H).trans (AB r _ fun x hx=>hT x (by simp[hx]))
def mw(ev:Operand->AV K)(op:Op):List Nat:=(match op with
    |.store _ p _=>hands (ev p)
    |.convert _ _ x=>hands (ev x)
    |.call {callee:=.builtin .append,args, ..}=>(match args.toList with
      |s::x::_=>hands (ev s)++hands (ev x)
      |[s]=>hands (ev s)
      |[]=>[])
    |.call {callee:=.builtin .clear,args, ..}=>(match args.toList with
      |s::_=>hands (ev s)
      |[]=>[])
    |.call {callee:=.builtin .copy,args, ..}=>(match args.toList with
      |s::_=>hands (ev s)
      |[]=>[])
    |_=>[])
theorem Xu{cx:Cx K}{sT:TypeId}{s x v:AV K}{c:Bool}{t:List Nat}(h:wT cx H sT s x=some (v,H',c,t)):bC (hands s) H H':=by
 unfold wT at h;split at h
 ·split at h
  ·split at h
   ·split at h
    ·split at h
     ·simp only[aj,aF]at h;rw[<-h.2.1];exact(bC.set _ (by simp[hands])).trans (bC.app _ _ _)
     ·cases h
    ·cases h
   ·cases h
  ·cases h
 ·cases h
theorem Xv{cx:Cx K}{sT:TypeId}{s x v:AV K}{c:Bool}{t:List Nat}(h:zN cx H sT s x=some (v,H',c,t)):bC (hands s) H H':=by
 unfold zN at h;split at h
 ·cases h
 ·split at h
  ·cases h
  ·split at h
   ·split at h
    ·cases h
    ·split at h
     ·simp only[aj,aF]at h;rw[<-h.2.1];exact bC.app _ _ _
     ·split at h
      ·split at h
       ·cases h
       ·split at h
        ·simp only[aj,aF]at h;rw[<-h.2.1];exact(bC.set _ (by simp[hands])).trans (bC.app _ _ _)
        ·cases h
      ·split at h
       ·simp only[aj,aF]at h;rw[<-h.2.1];exact(bC.set _ (by simp[hands])).trans (bC.app _ _ _)
       ·cases h
     ·cases h
   ·cases h
theorem Ky{cx:Cx K}{ev:Operand->AV K}{op:Op}{v:AV K}{c:Bool}{t:List Nat}(h:rC cx ev H op=some (v,H',c,t)):bC (mw ev op) H H':=by
 unfold rC at h;split at h
 ·split at h
  ·dsimp only at h;split at h
   ·cases h
   ·simp only[aj,aF]at h;rw[<-h.2.1];exact(EX _ _ _ _ _).trans (bC.app _ _ _)
  ·cases h
 ·split at h
  ·split at h
   ·dsimp only at h;split at h
    ·cases h
    ·simp only[aj,aF]at h;rw[<-h.2.1];exact(EX _ _ _ _ _).trans (bC.app _ _ _)
   ·cases h
  ·split at h
   ·simp only[aj,aF]at h;rw[<-h.2.1];exact bC.app _ _ _
   ·cases h
 ·split at h
  ·split at h
   ·simp only[eN,aF]at h;obtain⟨cs,-,-,rfl,-⟩:=h;exact bC.refl _ _
   ·cases h
  ·cases h
 ·split at h
  ·split at h
   ·split at h
    ·rename_i hh off hp;split at h
     ·split at h
      ·dsimp only at h;split at h
       ·cases h
       ·simp only[aj,aF]at h;rw[<-h.2.1];refine(EX _ _ _ _ _).trans (bC.set _ ?_);simp only[mw,hp,hands,kV]
      ·cases h
     ·cases h
    ·rename_i hh st i off hp;split at h
     ·split at h
      ·split at h
       ·simp only[aj,aF]at h;rw[<-h.2.1];refine bC.set _ ?_;simp only[mw,hp,hands,kV]
       ·cases h
      ·cases h
     ·cases h
    ·cases h
   ·cases h
  ·cases h
 ·split at h
  ·cases h
  ·split at h
   ·split at h
    ·split at h
     ·simp only[aj,aF]at h;rw[<-h.2.1];exact bC.app _ _ _
     ·cases h
    ·cases h
   ·cases h
 ·split at h
  ·cases h
  ·split at h
   ·split at h
    ·split at h
     ·simp only[aj,aF]at h;rw[<-h.2.1];exact bC.app _ _ _
     ·cases h
    ·cases h
   ·cases h
 ·split at h
  ·split at h
   ·split at h
    ·split at h
     ·simp only[aj,aF]at h;rw[<-h.2.1];exact bC.app _ _ _
     ·cases h
    ·cases h
   ·cases h
  ·split at h
   ·split at h
    ·simp only[aj,aF]at h;rw[<-h.2.1];exact bC.refl _ _
    ·cases h
   ·cases h
  ·cases h
 ·simp only[aj,aF]at h;rw[<-h.2.1];exact bC.app _ _ _
 ·split at h
  ·rename_i s x sT xT ha ht;split at h
   ·cases h
   split at h
   ·refine(Xu h).more fun y hy=>?_
    simp only[mw,ha];exact dG.2 (.inl hy)
   ·refine(Xv h).more fun y hy=>?_
    simp only[mw,ha];exact dG.2 (.inl hy)
  ·cases h
 ·split at h
  ·rename_i x T ha ht;split at h
   ·rename_i h' st lo hi e hx he;split at h
    ·split at h
     ·split at h
      ·simp only[aj,aF]at h;rw[<-h.2.1];refine bC.set _ ?_;simp only[mw,ha,hx,hands,kV]
      ·cases h
     ·cases h
    ·cases h
   ·cases h
  ·cases h
 ·split at h
  ·rename_i x y T T2 ha ht;split at h
   ·rename_i h' st lo hi s e hx hy he;split at h
    ·split at h
     ·split at h
      ·simp only[aj,aF]at h;rw[<-h.2.1];refine bC.set _ ?_;simp only[mw,ha,hx,hands,kV]
      ·cases h
     ·cases h
    ·cases h
   ·cases h
  ·cases h
 ·cases h
mutual
theorem kE:∀(v:AV K){y:Nat},y∈hands (d3 H v)->y∈hands v
 |.sl k,y,h=>by
   simp only[d3]at h;split at h
   ·simp[hands]at h
   ·exact h
 |.vw k a b c,y,h=>by
   simp only[d3]at h;split at h
   ·split at h
    ·simp[hands]at h
    ·exact h
   ·exact h
 |.agg l,y,h=>by simp only[d3,hands]at h⊢;exact EY l h
 |.bk l,y,h=>by simp only[d3,hands]at h⊢;exact EY l h
 |.any,y,h|.int _ _,y,h|.bool _,y,h|.str _,y,h|.da,y,h|.cP,y,h|.mp,y,h|.fn _ _,y,h|.ptr _ _,y,h|.ep _ _ _ _,y,h|.ax _ _,y,h|.rp _ _ _,y,h|.np _,y,h|.opt _ _ _,y,h=>by simpa only[d3]using h
theorem EY:∀(l:List (AV K)){y:Nat},y∈bD (m9 H l)->y∈bD l
 |[],y,h=>by simpa [m9]using h
 |v::r,y,h=>by
  simp only[m9,bD,dG]at h⊢;exact h.imp (kE v) (EY r)
end
theorem Kz{ev:Operand->AV K}{op:Op}{y:Nat}(h:y∈mw (fun x=>d3 H (ev x)) op):y∈mw ev op:=by
 unfold mw at h⊢;split at h
 ·exact kE _ h
 ·exact kE _ h
 ·split at h
  ·rename_i hs;rcases dG.1 h with h|h
   ·exact dG.2 (.inl (kE _ h))
   ·exact dG.2 (.inr (kE _ h))
  ·exact kE _ h
  ·simp at h
 ·split at h
  ·exact kE _ h
  ·simp at h
 ·split at h
  ·exact kE _ h
  ·simp at h
 ·simp at h
theorem xw{T:List Nat}:∀(l:List Nat)(H:List (Ob K)),(∀x∈l,x∈T)->bC T H (eO H l)
 |[],H,_=>bC.refl _ _
 |h::r,H,hT=>(bC.set _ (hT h (by simp))).trans (xw r _ fun x hx=>hT x (by simp[hx]))
theorem KA{c:K.U}{v:AV K}{l:List (K.El c)}{ks:List Nat}(h:om H c v=some (l,ks)):∀x∈ks,x∈hands v:=fun x hx=>by
 unfold om at h;split at h
 ·simp only[aj,aF]at h;obtain⟨rfl,rfl⟩:=h;cases hx
 ·split at h
  ·split at h
   ·simp only[aj,aF]at h;obtain⟨-,rfl⟩:=h;simpa [hands]using hx
   ·cases h
  ·cases h
 ·cases h
theorem KB{ev:Operand->AV K}{x:Nat}:∀(l:List (Nat×Operand)),x∈bD (l.map fun p=>d3 H (ev p.2))->x∈bD (l.map fun p=>ev p.2)
 |[],h=>h
 |y::r,h=>by
  simp only[gV,bD,dG]at h⊢;exact h.imp (kE _) (KB r)
theorem KC{v:AV K}{a b c d:Nat}(h:d3 H v=.ep a b c d):v=.ep a b c d:=by
 cases v<;>simp[d3]at h⊢<;>first|exact h|(split at h<;>first|cases h|(split at h<;>cases h))
theorem Xw{cx:Cx K}{ev:Operand->AV K}{op:Op}{v:AV K}{c:Bool}{t:List Nat}(h:uL cx (fun x=>d3 H (ev x)) H op=some (v,H',c,t)):bC (iO ev op) H H':=by
 unfold uL at h;split at h
 ·split at h
  ·cases h
  ·split at h
   ·split at h
    ·split at h
     ·split at h
      ·simp only[aj,aF]at h;rw[<-h.2.1];exact bC.app _ _ _
      ·cases h
     ·cases h
    ·cases h
   ·cases h
 ·rename_i T len parts;split at h
  ·cases h
  ·split at h
   ·rename_i hty hl;split at h
    ·split at h
     ·split at h
      ·simp only[aj,aF]at h;rw[<-h.2.1];refine bC.trans (xw _ _ fun x hx=>?_) (bC.app _ _ _);rw[(Aj _ _ _ hl).1]at hx;simp only[iO,kt,rq];exact KB _ hx
      ·cases h
     ·cases h
    ·cases h
   ·cases h
 ·rename_i T p x;split at h
  ·rename_i h0 st i off n0 hp hn;split at h
   ·split at h
    ·split at h
     ·split at h
      ·simp only[aj,aF]at h;rw[<-h.2.1];have q1:=KC hp;have hmem:∀y∈h0::bD (d3 H (ev x)).bw,y∈iO ev (.store T p x):=fun y hy=>by
        simp only[iO,kt,q1,dG];rcases fW.1 hy with rfl|hy
        ·exact .inr (by simp[hands])
        ·rw[Ew]at hy;exact .inl (kE _ hy)
       exact(xw _ _ hmem).trans (bC.set _ (hmem _ (by simp)))
      ·cases h
     ·cases h
    ·cases h
   ·split at h
    ·split at h
     ·split at h
      ·simp only[aj,aF]at h;rw[<-h.2.1];have q1:=KC hp;have hmem:∀y∈h0::bD (d3 H (ev x)).bw,y∈iO ev (.store T p x):=fun y hy=>by
        simp only[iO,kt,q1,dG];rcases fW.1 hy with rfl|hy
        ·exact .inr (by simp[hands])
        ·rw[Ew]at hy;exact .inl (kE _ hy)
       exact(xw _ _ hmem).trans (bC.set _ (hmem _ (by simp)))
      ·cases h
     ·cases h
    ·cases h
   ·cases h
  ·cases h
 ·rename_i args argTypes;split at h
  ·rename_i s x sT xT hargs hat;split at h
   ·cases h
   ·split at h
    ·cases h
    ·split at h
     ·cases h
     ·split at h
      ·split at h
       ·rename_i l ks m ks' hl hm;split at h
        ·simp only[aj,aF]at h;rw[<-h.2.1];refine bC.trans (xw _ _ fun y hy=>?_) (bC.app _ _ _);simp only[iO,kt,hargs,fC,dG];rcases dG.1 hy with hy|hy
         ·exact .inl (kE _ (KA hl y hy))
         ·exact .inr (kE _ (KA hm y hy))
        ·cases h
       ·cases h
      ·cases h
  ·cases h
 ·cases h
theorem Xx{cx:Cx K}{ev:Operand->AV K}{op:Op}{v:AV K}{c:Bool}{t:List Nat}(h:uO cx ev H op=some (v,H',c,t)):bC (iO ev op) H H':=by
 have e:iO ev op=kt ev op++mw ev op:=rfl;unfold uO at h;split at h
 ·rename_i r hd;simp only[aj]at h;subst h;exact Xw hd
 split at h
 ·refine(Ky h).more fun y hy=>?_
  rw[e,dG];exact .inr (Kz hy)
 ·have hz:bC (iO ev op) H (ik H (kt ev op)):=AB _ _ fun x hx=>by rw[e,dG];exact .inl hx
  split at h
  ·simp only[aj,aF]at h;rw[<-h.2.1];exact hz
  ·refine hz.trans ((Ky h).more fun y hy=>?_);rw[e,dG];exact .inr (Kz hy)
theorem Xy{cx:Cx K}{ev:Operand->AV K}{op:Op}{v:AV K}{c:Bool}{t:List Nat}(h:cutV cx ev H op=some (v,H',c,t)):bC (iO ev op) H H':=by
 unfold cutV at h;split at h
 ·split at h
  ·split at h
   ·rename_i hx hy he;split at h
    ·split at h
     ·simp only[aj,aF]at h;rw[<-h.2.1];refine bC.trans (bC.set _ ?_) (bC.app _ _ _);simp[iO,kt,hx]
     ·cases h
    ·split at h
     ·simp only[aj,aF]at h;rw[<-h.2.1];refine bC.trans (bC.set _ ?_) (bC.app _ _ _);simp[iO,kt,hx]
     ·cases h
    ·cases h
   ·cases h
  ·cases h
 ·split at h
  ·split at h
   ·rename_i hx hy he;split at h
    ·split at h
     ·simp only[aj,aF]at h;rw[<-h.2.1];refine bC.trans (bC.set _ ?_) (bC.app _ _ _);simp[iO,kt,hx]
     ·cases h
    ·split at h
     ·simp only[aj,aF]at h;rw[<-h.2.1];refine bC.trans (bC.set _ ?_) (bC.app _ _ _);simp[iO,kt,hx]
     ·cases h
    ·cases h
   ·cases h
  ·cases h
 ·cases h
theorem EZ{cx:Cx K}{m:Mode}(hm:m=.iK\/m=.fresh){T:List Nat}{f:FuncId}{args:List (AV K)}{v:AV K}{c:Bool}{t:List Nat}(h:ku cx m H f args=some (v,H',c,t)):bC T H H':=by
 unfold ku at h;rcases hm with rfl|rfl
 ·simp only at h;split at h
  ·split at h
   ·split at h
    ·simp only[aj,aF]at h;rw[<-h.2.1];exact bC.app _ _ _
    ·cases h
   ·cases h
  ·cases h
 ·simp only at h;split at h
  ·split at h
   ·split at h
    ·split at h
     ·simp only[aj,aF]at h;rw[<-h.2.1];exact bC.app _ _ _
     ·cases h
    ·cases h
   ·cases h
  ·cases h
theorem KD:∀(m:List Nat)(H os:List (Ob K)){T:List Nat},(∀x∈m,x∈T)->bC T H (iM H m os)
 |[],H,os,T,_=>by cases os<;>exact bC.refl _ _
 |h::m,H,[],T,_=>bC.refl _ _
 |h::m,H,o::r,T,hm=>by
  simp only[iM];exact bC.trans (bC.set _ (hm h (by simp))) (KD m _ r fun x hx=>hm x (by simp[hx]))
theorem KE{cx:Cx K}{T:List Nat}{f:FuncId}{args:List (AV K)}{v:AV K}{c:Bool}{t:List Nat}(h:ku cx .pass H f args=some (v,H',c,t))(hT:∀x∈reach H 64 (bD args) [],x∈T):bC T H H':=by
 unfold ku at h;simp only at h;split at h
 ·cases h
 ·split at h
  ·split at h
   ·split at h
    ·split at h
     ·simp only[aj,aF]at h;rw[<-h.2.1];exact bC.trans (KD _ _ _ hT) (bC.app _ _ _)
     ·cases h
    ·cases h
   ·cases h
  ·cases h
theorem Xz{cx:Cx K}{ev:Operand->AV K}{t:TypeId}{p:Operand}{v:AV K}{c:Bool}{ts:List Nat}(h:uM cx ev H (.load t p)=some (v,H',c,ts)):bC (hands (ev p)) H H':=by
 unfold uM at h;simp only at h;split at h
 ·split at h
  ·rename_i hh st i off ag n hp hag hn;split at h
   ·split at h
    ·split at h
     ·simp only[aj,aF]at h;rw[<-h.2.1,hp];exact(bC.set _ (by simp[hands])).trans (bC.app _ _ _)
     ·cases h
    ·cases h
   ·cases h
  ·cases h
 ·cases h
theorem XA{cx:Cx K}{tm:List (AV K)}{T t:TypeId}{p:Operand}{v:AV K}{c:Bool}{ts:List Nat}(hn:il cx (.load t p)=false)(h:kz false cx tm [] H T (.load t p)=some (v,H',c,ts)):
 bC (match rB cx (fun x=>d3 H (dJ tm [] x)) H (.load t p)with
  |some _=>[]
  |none=>hands (dJ tm [] p)) H H':=by
 unfold kz at h;simp only at h;split at h
 ·rename_i v1 c1 hp;rw[hp];simp only[aj,aF]at h;rw[<-h.2.1];exact bC.refl _ _
 ·rename_i hp;rw[hp];simp only[jt,km,hn]at h;split at h
  ·rename_i hov;simp only[aj]at h;rw[h]at hov;exact Xz hov
  ·split at h
   ·rename_i hct;simp[cutV]at hct
   ·simp[uO,uL,kt,rC]at h
theorem XB{cx:Cx K}{tm:List (AV K)}{gs:List (Nat×Bool)}{T:TypeId}{op:Op}{v:AV K}{c:Bool}{t:List Nat}(he:pZ cx op=true)(hnl:∀a b,op≠.load a b)(h:kz false cx tm gs H T op=some (v,H',c,t)):bC ((iO (dJ tm gs) op++DR (dJ tm gs) op)++uP cx H (dJ tm gs) op) H H':=by
 unfold kz at h;split at h
 ·simp[pZ]at he
 ·rename_i fo args _;cases fo with
  |func f=>
   have hf:(cx.mode f=.fresh\/(cx.mode f=.pass\/cx.mode f=.aY))/\(cx.opn=false\/cx.lz=true):=by simpa [pZ]using he
   have EI:(cx.opn&& !cx.lz&& !false)=false:=by rcases hf.2 with e|e<;>simp[e]
   have e:dJ tm gs (.func f)=(.fn f []:AV K):=rfl;rw[e]at h;simp only[uN,EI,jt,km,rq]at h
   replace hf:=hf.1
   rcases hf with hf|hf|hf
   rotate_left
   ·simp only[oj,hf,jt,km]at h;refine KE h fun x hx=>dG.2 (.inr ?_)
    simp only[uP,hf];exact hx
   ·simp only[oj,hf,jt,km,rJ]at h;refine bC.trans (AB _ _ fun x hx=>dG.2 (.inr ?_)) (KE h fun x hx=>dG.2 (.inr ?_))
    ·simp only[uP,hf];exact dG.2 (.inl hx)
    ·simp only[uP,hf];exact dG.2 (.inr hx)
   simp only[oj,hf,jt,km]at h;split at h
   ·rename_i hc;simp only[aj]at h;rw[h]at hc;exact EZ (.inl rfl) hc
   ·split at h
    ·rename_i hc;simp only[aj]at h;rw[h]at hc;exact EZ (.inr rfl) hc
    ·unfold rJ at h;refine bC.trans (AB _ _ fun x hx=>?_) (EZ (.inl rfl) h);refine dG.2 (.inl (dG.2 (.inr ?_)));have key:∀l:List Operand,x∈bD (l.map fun y=>d3 H (dJ tm gs y))->x∈bD (l.map (dJ tm gs)):=fun l=>by
      induction l with
      |nil=>exact fun h=>h
      |cons y r ih=>
       simp only[gV,bD,dG];exact fun h=>h.imp (kE _) ih
     exact key _ hx
  |_=>simp[pZ]at he
 ·simp[pZ]at he
 ·split at h
  ·simp only[aj,aF]at h;rw[<-h.2.1];exact bC.refl _ _
  ·rw[aX (by simp)]at h;split at h
   ·cases h
   ·split at h
    ·rename_i hov;exfalso;unfold uM at hov;split at hov
     ·exact hnl _ _ rfl
     ·cases hov
    split at h
    ·rename_i hct;simp only[aj]at h;rw[h]at hct;exact(Xy hct).more fun x hx=>dG.2 (.inl (dG.2 (.inl hx)))
    ·exact(Xx h).more fun x hx=>dG.2 (.inl (dG.2 (.inl hx)))
theorem KF:∀(l:List Nat)(h:Nat),(bitsOf l).testBit h=true↔h∈l
 |[],h=>by simp[bitsOf]
 |k::r,h=>by
  simp only[bitsOf,uD,iH,KF r,Nat.testBit_two_pow,bN,fW];exact⟨fun h=>h.imp Eq.symm id,fun h=>h.imp Eq.symm id⟩
theorem KG{A:Nat}:∀(ws:List Nat)(i h:Nat),(uR A i ws).testBit h=true↔∃(k:Nat)(b:Nat),ws[k]?=some b/\A.testBit (i+k)=false/\b.testBit h=true
 |[],i,h=>by simp[uR]
 |b::r,i,h=>by
  simp only[uR,uD,iH,KG r];constructor
  ·rintro (h1|⟨k,b',h1,h2,h3⟩)
   ·split at h1
    ·simp at h1
    ·rename_i hA;exact⟨0,b,rfl,by simpa using hA,h1⟩
   ·exact⟨k+1,b',by simpa using h1,by rw[show i+(k+1)=i+1+k by omega];exact h2,h3⟩
  ·rintro ⟨k,b',h1,h2,h3⟩
   cases k with
   |zero=>simp at h1;subst h1;left;rw[aX (by simpa using h2)];exact h3
   |succ k=>exact .inr ⟨k,b',by simpa using h1,by rw[show i+1+k=i+(k+1) by omega];exact h2,h3⟩
theorem KH{A:Nat}{T:List Nat}:∀(ms:List (Nat×Nat))(i:Nat),zQ A T i ms=true->∀(k m n:Nat),ms[k]?=some (m,n)->A.testBit (i+k)=false->∀h∈T,h<n->m.testBit h=true
 |[],i,_,k,m,n,h,_=>by simp at h
 |(m0,n0)::r,i,hr,k,m,n,hk,hA=>by
  simp only[zQ,bz,iH,ig,bN]at hr;cases k with
  |zero=>
   simp at hk;obtain⟨rfl,rfl⟩:=hk;intro h hT hn;rcases hr.1 with h1|h1
   ·rw[Nat.add_zero]at hA;rw[hA]at h1;cases h1
   ·rcases h1 h hT with h2|h2
    ·omega
    ·exact h2
  |succ k=>exact KH r (i+1) hr.2 k m n (by simpa using hk) (by rw[show i+1+k=i+(k+1) by omega];exact hA)
end Go.V
namespace Go.V
open Go
variable {K :cK}{H H':List (Ob K)}
theorem KI{cx:Cx K}{tm:List (AV K)}{T:TypeId}{op:Op}{v:AV K}{c:Bool}{t:List Nat}(he:pZ cx op=true)(hq:mi cx op=false)(h:kz false cx tm [] H T op=some (v,H',c,t)):bC (nf cx tm H op) H H':=by
 by_cases hl:∃a b,op=.load a b
 ·obtain⟨a,b,rfl⟩:=hl;have:nf cx tm H (.load a b)=(match rB cx (fun x=>d3 H (dJ tm [] x)) H (.load a b)with
   |some _=>[]
   |none=>hands (dJ tm [] b)):=by unfold nf;rw[hq];rfl
  rw[this];exact XA hq h
 ·have:nf cx tm H op=(iO (dJ tm []) op++DR (dJ tm []) op)++uP cx H (dJ tm []) op:=by
   unfold nf;rw[hq];simp only[jt,km];split
   ·rename_i a b;exact absurd ⟨a,b,rfl⟩ hl
   ·rfl
  rw[this];exact XB he (fun a b e=>hl ⟨a,b,e⟩) h
theorem XC{cx:Cx K}{ops:List Oper}{tm:List (AV K)}{wr:List Nat}{o:Oper}{v:AV K}{c:Bool}(h:uQ cx ops tm H wr o=some (v,H',c)):bC (nf cx tm H o.op) H H':=by
 unfold uQ at h;split at h
 ·rename_i hq;have:H'=H:=by
   unfold gY at h;split at h
   ·cases h
   ·split at h
    ·rename_i hy;split at h
     ·cases h
     ·simp only[aj,aF]at h;obtain⟨-,rfl,-⟩:=h;exact vf hy
    ·cases h
   ·split at h
    ·split at h
     ·split at h
      ·split at h
       ·rename_i hy;split at h
        ·cases h
        ·simp only[aj,aF]at h;obtain⟨-,rfl,-⟩:=h;exact vf hy
       ·cases h
      ·simp only[aj,aF]at h;exact h.2.1.symm
     ·cases h
    split at h
    ·cases h
    ·split at h
     ·split at h
      ·simp only[aj,aF]at h;exact h.2.1.symm
      ·cases h
     ·cases h
  subst this;exact bC.refl _ _
 ·rename_i hq;split at h
  ·rename_i he;have hq':mi cx o.op=false:=by simpa using hq
   unfold gY at h;split at h
   ·cases h
   ·split at h
    ·rename_i hy;split at h
     ·cases h
     ·simp only[aj,aF]at h;obtain⟨-,rfl,-⟩:=h;exact KI he hq' hy
    ·cases h
   ·split at h
    ·split at h
     ·split at h
      ·split at h
       ·rename_i hy;split at h
        ·cases h
        ·simp only[aj,aF]at h;obtain⟨-,rfl,-⟩:=h;exact KI he hq' hy
       ·cases h
      ·simp only[aj,aF]at h;rw[<-h.2.1];exact bC.refl _ _
     ·cases h
    split at h
    ·cases h
    ·split at h
     ·split at h
      ·simp only[aj,aF]at h;rw[<-h.2.1];exact bC.refl _ _
      ·cases h
     ·cases h
  ·cases h
structure j0 (K:cK) where
 vals:Nat->AV K
 hin:Nat->List (Ob K)
 hout:Nat->List (Ob K)
 mask:Nat->Nat
 T:Nat->List Nat
def j0.W(F:j0 K)(k h:Nat):Prop:=h∈F.T k\/((F.hin k).length<=h/\h<(F.hout k).length)
structure vi (cx:Cx K) (L:List Oper) (bs:List Nat) (bJ:List (AV K)) (F:j0 K) (i:Nat) (o:Oper) (cL:List (AV K)) (dM:List Nat):Prop where
 slot:uQ cx L (en (eI bs i) L 0 cL) (gZ (F.mask i) 0 (F.hin i)) dM o=some (F.vals i,F.hout i,true)
 up:nc (F.hin i).length (en (eI bs i) L 0 cL)=true
 AD:(gZ (F.mask i) 0 (F.hin i)).all (Ob.upto (F.hin i).length)=true
 turns:bC (F.T i) (gZ (F.mask i) 0 (F.hin i)) (F.hout i)
 len:cL.length=bJ.length
 fin:∀(k:Nat) o' d,L[k]?=some o'->o'.dst=some d->k<i->cL[d]?=some (F.vals k)
 rest:∀t,(∀(k:Nat) o,k<i->L[k]?=some o->o.dst≠some t)->cL[t]?=bJ[t]?
 dM:∀d∈dM,∃(k:Nat)(o':Oper),k<i/\L[k]?=some o'/\o'.dst=some d
structure fO (cx:Cx K) (L:List Oper) (bs:List Nat) (H0:List (Ob K)) (bJ:List (AV K)) (F:j0 K) (n:Nat) (tm:List (AV K)) (H:List (Ob K)) (wr:List Nat) (ms:List (Nat×Nat)) (ws:List Nat):Prop where
 len:tm.length=bJ.length
 uniq:∀(i j:Nat) o o' d,i<n->j<n->L[i]?=some o->L[j]?=some o'->o.dst=some d->o'.dst=some d->i=j
 inb:∀(i:Nat) o d,i<n->L[i]?=some o->o.dst=some d->d<bJ.length
 fin:∀(i:Nat) o d,i<n->L[i]?=some o->o.dst=some d->tm[d]?=some (F.vals i)
 rest:∀t,(∀(k:Nat) o,k<n->L[k]?=some o->o.dst≠some t)->tm[t]?=bJ[t]?
 lL:∀d,d∈wr↔∃(k:Nat)(o':Oper),k<n/\L[k]?=some o'/\o'.dst=some d
 slot:∀(i:Nat) o,i<n->L[i]?=some o->∃cL dM,vi cx L bs bJ F i o cL dM
 h0:F.hin 0=H0
 hn:F.hin n=H
 hs:∀i,i<n->F.hin (i+1)=jU (F.mask i) 0 (F.hin i) (F.hout i)/\(F.hin i).length<=(F.hout i).length
 xx:ms.length=n
 xy:ws.length=n
 ms:∀i,i<n->ms[i]?=some (F.mask i,(F.hin i).length)
 ws:∀i,i<n->∃b,ws[i]?=some b/\∀h,b.testBit h=true↔F.W i h
 masks:∀i,i<n->∀h,(∃k,k<i/\(bs.getD i 0).testBit k=false/\F.W k h)->(F.mask i).testBit h=true
 clear:∀k,k<n->∀h∈F.T k,(F.mask k).testBit h=false/\h<(F.hin k).length
 readers:∀k,k<n->∀i,i<k->(bs.getD k 0).testBit i=false->∀h∈F.T k,h<(F.hin i).length->(F.mask i).testBit h=true
theorem E0{cx:Cx K}{L:List Oper}{bs:List Nat}:∀(l:List Oper)(i:Nat)(st st':St K)(wr wr':List Nat)(ms:List (Nat×Nat))(ws:List Nat),oq cx L bs l i st wr ms ws=some (st',wr')->st'.ok=true->st.ok=true
 |[],i,st,st',wr,wr',ms,ws,h,hok=>by simp only[oq,aj,aF]at h;rw[h.1];exact hok
 |o::r,i,st,st',wr,wr',ms,ws,h,hok=>by
  simp only[oq]at h;split at h
  ·split at h
   ·cases h
   ·split at h
    ·split at h
     ·rename_i st1 gG hp;obtain⟨p1,p2,-⟩:=oM hp;have q1:=E0 r (i+1) st1 st' gG wr' _ _ h hok;rw[p2]at q1;simp only[bz]at q1;exact q1.2
     ·cases h
    ·cases h
  ·cases h
theorem KJ{cx:Cx K}{L:List Oper}{bs:List Nat}{H0:List (Ob K)}{bJ:List (AV K)}:∀(l:List Oper)(n:Nat)(st st':St K)(wr wr':List Nat)(ms:List (Nat×Nat))(ws:List Nat)(F:j0 K),oq cx L bs l n st wr ms ws=some (st',wr')->st'.ok=true->
 (∀j,l[j]?=L[n+j]?)->n+l.length=L.length->fO cx L bs H0 bJ F n st.tm st.H wr ms ws->∃F' ms' ws',fO cx L bs H0 bJ F' L.length st'.tm st'.H wr' ms' ws'
 |[],n,st,st',wr,wr',ms,ws,F,h,hok,hl,hn,hp=>by
   simp only[oq,aj,aF]at h;obtain⟨rfl,rfl⟩:=h;simp at hn;subst hn;exact⟨F,ms,ws,hp⟩
 |o::r,n,st,st',wr,wr',ms,ws,F,h,hok,hl,hn,hp=>by
  have hLn:L[n]?=some o:=by have:=hl 0;simpa using this.symm
  simp only[oq]at h;split at h
  ·rename_i hup;simp only[bz]at hup;split at h
   ·cases h
   ·rename_i v H1 c hsv;split at h
    ·rename_i hrd;simp only[bz,bN]at hrd;split at h
     ·rename_i st1 gG hput;obtain⟨p1,p2,p3⟩:=oM hput;have hok1:=E0 r (n+1) st1 st' gG wr' _ _ h hok;rw[p2]at hok1;simp only[bz]at hok1;obtain⟨rfl,-⟩:=hok1;have XD:=hp.hn
      let mk:=oo bs ws n (en (eI bs n) L 0 st.tm) st.H.length o.op
      let TT:=nf cx (en (eI bs n) L 0 st.tm) (gZ mk 0 st.H) o.op
      let F':j0 K:={vals:=fun i=>if i=n then v else F.vals i,hin:=fun i=>if i=n+1 then jU mk 0 st.H H1 else F.hin i,hout:=fun i=>if i=n then H1 else F.hout i,mask:=fun i=>if i=n then mk else F.mask i,T:=fun i=>if i=n then TT else F.T i}
      have ev:∀i,i<n->F'.vals i=F.vals i:=fun i hi=>by simp[F',show i≠n by omega]
      have eh:∀i,i<=n->F'.hin i=F.hin i:=fun i hi=>by simp[F',show i≠n+1 by omega]
      have eo:∀i,i<n->F'.hout i=F.hout i:=fun i hi=>by simp[F',show i≠n by omega]
      have em:∀i,i<n->F'.mask i=F.mask i:=fun i hi=>by simp[F',show i≠n by omega]
      have eT:∀i,i<n->F'.T i=F.T i:=fun i hi=>by simp[F',show i≠n by omega]
      have nv:F'.vals n=v:=by simp[F']
      have nh:F'.hin n=st.H:=by rw[eh n (bH _)];exact XD
      have KL:F'.hin (n+1)=jU mk 0 st.H H1:=by simp[F']
      have no:F'.hout n=H1:=by simp[F']
      have nm:F'.mask n=mk:=by simp[F']
      have nT:F'.T n=TT:=by simp[F']
      have eW:∀i,i<n->∀h,F'.W i h↔F.W i h:=fun i hi h=>by unfold j0.W;rw[eT i hi,eh i (by omega),eo i hi]
      have ES:vi cx L bs bJ F' n o st.tm wr:=
       {slot:=by rw[nv,no,nm,nh];exact hsv
        up:=by rw[nh];exact hup.1
        AD:=by rw[nm,nh];exact hup.2
        turns:=by rw[nT,nm,nh,no];exact XC hsv
        len:=hp.len
        fin:=fun k o' d h1 h2 h3=>by rw[ev k h3];exact hp.fin k o' d h3 h1 h2
        rest:=fun t ht=>hp.rest t fun k o' hk h1=>ht k o' hk h1
        dM:=fun d hd=>(hp.lL d).1 hd}
      have qq:∀(i:Nat) o1,i<n+1->L[i]?=some o1->∃cL dM,vi cx L bs bJ F' i o1 cL dM:=fun i o1 hi ho1=>by
       by_cases hin:i=n
       ·subst hin;rw[hLn]at ho1;simp at ho1;subst ho1;exact⟨_,_,ES⟩
       ·have hlt:i<n:=by omega
        obtain⟨cL,dM,a⟩:=hp.slot i o1 hlt ho1;exact⟨cL,dM,{slot:=by rw[ev i hlt,eo i hlt,em i hlt,eh i (by omega)];exact a.slot,up:=by rw[eh i (by omega)];exact a.up,AD:=by rw[em i hlt,eh i (by omega)];exact a.AD,turns:=by rw[eT i hlt,em i hlt,eh i (by omega),eo i hlt];exact a.turns,len:=a.len,fin:=fun k o' d h1 h2 h3=>by rw[ev k (by omega)];exact a.fin k o' d h1 h2 h3,rest:=a.rest,dM:=a.dM}⟩
      have hmk:∀h,(∃k,k<n/\(bs.getD n 0).testBit k=false/\F'.W k h)->mk.testBit h=true:=fun h=>by
       rintro ⟨k,hk,h2,h3⟩
       rw[show mk=uR (bs.getD n 0) 0 ws|||IV (en (eI bs n) L 0 st.tm) st.H.length o.op from rfl,uD,iH];refine .inl ?_;rw[KG];obtain⟨b',g1,g2⟩:=hp.ws k hk;exact⟨k,b',g1,by simpa using h2,(g2 h).2 ((eW k hk h).1 h3)⟩
      have base:fO cx L bs H0 bJ F' (n+1) st1.tm st1.H gG (ms++[(mk,st.H.length)]) (ws++[bitsOf (TT++List.range' st.H.length (H1.length-st.H.length))]):=by
       have c1:F'.hin 0=H0:=by rw[eh 0 (by omega)];exact hp.h0
       have c2:F'.hin (n+1)=st1.H:=by rw[KL,p1]
       have c3:∀i,i<n+1->F'.hin (i+1)=jU (F'.mask i) 0 (F'.hin i) (F'.hout i)/\(F'.hin i).length<=(F'.hout i).length:=fun i hi=>by
        by_cases hin:i=n
        ·subst hin;rw[KL,nm,nh,no];exact⟨rfl,hrd.2⟩
        ·have hlt:i<n:=by omega
         rw[eh (i+1) (by omega),em i hlt,eh i (by omega),eo i hlt];exact hp.hs i hlt
       have c4:∀i,i<n+1->(ms++[(mk,st.H.length)])[i]?=some (F'.mask i,(F'.hin i).length):=fun i hi=>by
        by_cases hin:i=n
        ·subst hin;rw[nm,nh,dA (by rw[hp.xx];exact bH _),hp.xx];simp
        ·have hlt:i<n:=by omega
         rw[em i hlt,eh i (by omega),cU (by rw[hp.xx];exact hlt)];exact hp.ms i hlt
       have c5:∀i,i<n+1->∃b,(ws++[bitsOf (TT++List.range' st.H.length (H1.length-st.H.length))])[i]?=some b/\∀h,b.testBit h=true↔F'.W i h:=fun i hi=>by
        by_cases hin:i=n
        ·subst hin;refine⟨bitsOf (TT++List.range' st.H.length (H1.length-st.H.length)),by rw[dA (by rw[hp.xy];exact bH _),hp.xy];simp,fun h=>?_⟩;rw[KF,dG];unfold j0.W;rw[nT,nh,no,List.mem_range'];constructor
         ·rintro (h1|⟨j,h1,h2⟩)
          ·exact .inl h1
          ·exact .inr (by omega)
         ·rintro (h1|⟨h1,h2⟩)
          ·exact .inl h1
          ·exact .inr ⟨h-st.H.length,by omega,by omega⟩
        ·have hlt:i<n:=by omega
         obtain⟨b,g1,g2⟩:=hp.ws i hlt;exact⟨b,by rw[cU (by rw[hp.xy];exact hlt)];exact g1,fun h=>(g2 h).trans (eW i hlt h).symm⟩
       have c6:∀i,i<n+1->∀h,(∃k,k<i/\(bs.getD i 0).testBit k=false/\F'.W k h)->(F'.mask i).testBit h=true:=fun i hi hh=>by
        by_cases hin:i=n
        ·subst hin;rw[nm];exact hmk hh
        ·have hlt:i<n:=by omega
         rw[em i hlt];exact fun⟨k,h1,h2,h3⟩=>hp.masks i hlt hh ⟨k,h1,h2,(eW k (by omega) hh).1 h3⟩
       have c7:∀k,k<n+1->∀i,i<k->(bs.getD k 0).testBit i=false->∀h∈F'.T k,h<(F'.hin i).length->(F'.mask i).testBit h=true:=fun k hk i hik hA hh hT hlt=>by
        rw[eh i (by omega)]at hlt;rw[em i (by omega)];by_cases hkn:k=n
        ·subst hkn;rw[nT]at hT;exact KH ms 0 hrd.1.1 i _ _ (hp.ms i hik) (by simpa using hA) hh hT hlt
        ·rw[eT k (by omega)]at hT;exact hp.readers k (by omega) i hik hA hh hT hlt
       have c8:∀k,k<n+1->∀h∈F'.T k,(F'.mask k).testBit h=false/\h<(F'.hin k).length:=fun k hk hh hT=>by
        by_cases hkn:k=n
        ·subst hkn;rw[nT]at hT;rw[nm,nh];have:=hrd.1.2;rw[ig]at this;have h2:=this hh hT;rw[bz,fK,bN]at h2;exact h2
        ·rw[eT k (by omega)]at hT;rw[em k (by omega),eh k (by omega)];exact hp.clear k (by omega) hh hT
       rcases p3 with⟨e1,e2,e3⟩|⟨d,e1,e2,e3,e4,e5⟩
       ·refine⟨by rw[e2];exact hp.len,fun i j o1 o2 d hi hj h1 h2 h3 h4=>?_,fun i o1 d hi h1 h2=>?_,fun i o1 d hi h1 h2=>?_,fun t ht=>by rw[e2];exact hp.rest t fun k o' hk=>ht k o' (by omega),fun d=>?_,qq,c1,c2,c3,by simp[hp.xx],by simp[hp.xy],c4,c5,c6,c8,c7⟩
        ·have hin:i≠n:=fun e=>by subst e;rw[hLn]at h1;simp at h1;subst h1;rw[e1]at h3;cases h3
         have hjn:j≠n:=fun e=>by subst e;rw[hLn]at h2;simp at h2;subst h2;rw[e1]at h4;cases h4
         exact hp.uniq i j o1 o2 d (by omega) (by omega) h1 h2 h3 h4
        ·have hin:i≠n:=fun e=>by subst e;rw[hLn]at h1;simp at h1;subst h1;rw[e1]at h2;cases h2
         exact hp.inb i o1 d (by omega) h1 h2
        ·have hin:i≠n:=fun e=>by subst e;rw[hLn]at h1;simp at h1;subst h1;rw[e1]at h2;cases h2
         rw[e2,ev i (by omega)];exact hp.fin i o1 d (by omega) h1 h2
        ·rw[e3,hp.lL d];constructor
         ·rintro ⟨k,o',hk,h1,h2⟩;exact⟨k,o',by omega,h1,h2⟩
         ·rintro ⟨k,o',hk,h1,h2⟩
          have hkn:k≠n:=fun e=>by subst e;rw[hLn]at h1;simp at h1;subst h1;rw[e1]at h2;cases h2
          exact⟨k,o',by omega,h1,h2⟩
       ·have hnew:∀(k:Nat) o',k<n->L[k]?=some o'->o'.dst≠some d:=fun k o' hk h1 h2=>e2 ((hp.lL d).2 ⟨k,o',hk,h1,h2⟩)
        have hdn:∀{o1:Oper}{d1:Nat},L[n]?=some o1->o1.dst=some d1->d1=d:=fun{o1 d1} h1 h2=>by rw[hLn]at h1;simp at h1;subst h1;rw[e1]at h2;simpa using h2.symm
        refine⟨by rw[e4];simp[hp.len],fun i j o1 o2 d1 hi hj h1 h2 h3 h4=>?_,fun i o1 d1 hi h1 h2=>?_,fun i o1 d1 hi h1 h2=>?_,fun t ht=>?_,fun d1=>?_,qq,c1,c2,c3,by simp[hp.xx],by simp[hp.xy],c4,c5,c6,c8,c7⟩
        ·by_cases hin:i=n<;>by_cases hjn:j=n
         ·omega
         ·subst hin;have:=hdn h1 h3;subst this;exact absurd h4 (hnew j o2 (by omega) h2)
         ·subst hjn;have:=hdn h2 h4;subst this;exact absurd h3 (hnew i o1 (by omega) h1)
         ·exact hp.uniq i j o1 o2 d1 (by omega) (by omega) h1 h2 h3 h4
        ·by_cases hin:i=n
         ·subst hin;have:=hdn h1 h2;subst this;rw[<-hp.len];exact e3
         ·exact hp.inb i o1 d1 (by omega) h1 h2
        ·rw[e4];by_cases hin:i=n
         ·subst hin;have:=hdn h1 h2;subst this;rw[fV,aO rfl,aO e3,nv]
         ·have hne:d1≠d:=fun e=>by subst e;exact hnew i o1 (by omega) h1 h2
          rw[fV,aX (m8 hne),ev i (by omega)];exact hp.fin i o1 d1 (by omega) h1 h2
        ·have hne:d≠t:=fun e=>by subst e;exact ht n o (by omega) hLn e1
         rw[e4,fV,aX hne];exact hp.rest t fun k o' hk=>ht k o' (by omega)
        ·rw[e5,fW,hp.lL d1];constructor
         ·rintro (rfl|⟨k,o',hk,h1,h2⟩)
          ·exact⟨n,o,by omega,hLn,e1⟩
          ·exact⟨k,o',by omega,h1,h2⟩
         ·rintro ⟨k,o',hk,h1,h2⟩
          by_cases hkn:k=n
          ·subst hkn;exact .inl (hdn h1 h2)
          ·exact .inr ⟨k,o',by omega,h1,h2⟩
      exact KJ r (n+1) st1 st' gG wr' _ _ F' h hok (fun j=>by have:=hl (j+1);simp only[List.getElem?_cons_succ]at this;rw[this];congr 1;omega) (by simp at hn;omega) base
     ·cases h
    ·cases h
  ·cases h
theorem XE{cx:Cx K}{L:List Oper}{bs:List Nat}{st st':St K}{wr':List Nat}(h:oq cx L bs L 0 st [] [] []=some (st',wr'))(hok:st'.ok=true):
 ∃F ms ws,fO cx L bs st.H st.tm F L.length st'.tm st'.H wr' ms ws:=
 KJ (bJ:=st.tm) (H0:=st.H) L 0 st st' [] wr' [] [] {vals:=fun _=>.any,hin:=fun _=>st.H,hout:=fun _=>[],mask:=fun _=>0,T:=fun _=>[]} h hok (fun j=>by simp) (by simp)
  ⟨rfl,fun i j _ _ _ hi=>by omega,fun i _ _ hi=>by omega,fun i _ _ hi=>by omega,fun t _=>rfl,fun d=>by simp,fun i _ hi=>by omega,rfl,rfl,fun i hi=>by omega,rfl,rfl,fun i hi=>by omega,fun i hi=>by omega,fun i hi=>by omega,fun i hi=>by omega,fun i hi=>by omega⟩
end Go.V
namespace Go.V
open Go
variable {K :cK}{ρ ρ':List Value}{S S':Nat->Prop}{w w':World}{H H':List (Ob K)}{D:bg K}
section
variable {cx :Cx K}{L:List Oper}{bs:List Nat}{H0:List (Ob K)}{bJ eK:List (AV K)}{F:j0 K}{HF:List (Ob K)}{wr:List Nat}{ms:List (Nat×Nat)}{ws:List Nat}
theorem fO.qt(hp:fO cx L bs H0 bJ F L.length eK HF wr ms ws){i:Nat}(hi:i<L.length):(F.hin (i+1)).length=(F.hout i).length:=by
 obtain⟨h1,h2⟩:=hp.hs i hi;rw[h1,Az _ _ _ h2]
theorem fO.mono(hp:fO cx L bs H0 bJ F L.length eK HF wr ms ws):∀{i j:Nat},i<=j->j<=L.length->(F.hin i).length<=(F.hin j).length:=by
 intro i j hij hj
 induction j with
 |zero=>have:i=0:=by omega
        subst this;exact bH _
 |succ j ih=>
  rcases cV i (j+1)with h|h
  ·have h1:=ih (by omega) (by omega);rw[hp.qt (show j<L.length by omega)];exact kX h1 (hp.hs j (by omega)).2
  ·have:i=j+1:=by omega
   subst this;exact bH _
theorem fO.XF(hp:fO cx L bs H0 bJ F L.length eK HF wr ms ws){i h:Nat}(hi:i<L.length)(hn:¬F.W i h)(hh:h<(F.hin i).length):(F.hin (i+1))[h]?=(F.hin i)[h]?:=by
 obtain⟨h1,h2⟩:=hp.hs i hi;obtain⟨cL,dM,a⟩:=hp.slot i L[i] hi (bY hi);rw[h1,AA _ _ _ _ h2];by_cases hm:h<(F.hin i).length/\(F.mask i).testBit (0+h)=true
 ·rw[aO hm]
 ·rw[aX hm];have hm':(F.mask i).testBit h=false:=by
   cases hb:(F.mask i).testBit h with
   |false=>rfl
   |true=>exact absurd ⟨hh,by rw[fu];exact hb⟩ hm
  have:=a.turns.2 h (by rw[xu];exact hh) (fun hT=>hn (.inl hT));rw[this,xt,fu,hm'];cases (F.hin i)[h]?<;>simp
theorem fO.stay(hp:fO cx L bs H0 bJ F L.length eK HF wr ms ws){i h:Nat}:∀{j:Nat},i<=j->j<=L.length->(∀k,i<=k->k<j->¬F.W k h)->h<(F.hin i).length->(F.hin j)[h]?=(F.hin i)[h]?:=by
 intro j hij hj hn hh
 induction j with
 |zero=>have:i=0:=by omega
        subst this;rfl
 |succ j ih=>
  rcases cV i (j+1)with h1|h1
  ·have h2:=ih (by omega) (by omega) fun k a b=>hn k a (by omega)
   rw[hp.XF (by omega) (hn j (by omega) (by omega)) (kj hh (hp.mono (by omega) (by omega))),h2]
  ·have:i=j+1:=by omega
   subst this;rfl
theorem fO.maker(hp:fO cx L bs H0 bJ F L.length eK HF wr ms ws){j k h:Nat}(hj:j<L.length)(hk:k<L.length)(h1:(F.hin j).length<=h)(h2:h<(F.hout j).length)(h3:(F.hin k).length<=h)(h4:h<(F.hout k).length):j=k:=by
 rcases Nat.lt_trichotomy j k with h|h|h
 ·have:=hp.mono (show j+1<=k by omega) (by omega);rw[hp.qt hj]at this;omega
 ·exact h
 ·have:=hp.mono (show k+1<=j by omega) (by omega);rw[hp.qt hk]at this;omega
theorem fO.made(hp:fO cx L bs H0 bJ F L.length eK HF wr ms ws){h:Nat}:∀{j:Nat},j<=L.length->h<(F.hin j).length->H0.length<=h->∃k,k<j/\(F.hin k).length<=h/\h<(F.hout k).length:=by
 intro j hj hh h0
 induction j with
 |zero=>rw[hp.h0]at hh;omega
 |succ j ih=>
  rw[hp.qt (show j<L.length by omega)]at hh;rcases cV h (F.hin j).length with h1|h1
  ·obtain⟨k,a,b⟩:=ih (by omega) h1;exact⟨k,by omega,b⟩
  ·exact⟨j,by omega,h1,hh⟩
end
theorem KN{p:Nat->Prop}{n:Nat}(hb:∀k,p k->k<n)(h:∃k,p k):∃k,p k/\∀k',p k'->k'<=k:=by
 induction n with
 |zero=>obtain⟨k,hk⟩:=h;exact absurd (hb k hk) (Nat.not_lt_zero _)
 |succ n ih=>
  by_cases hn:p n
  ·exact⟨n,hn,fun k' hk'=>by have:=hb k' hk';omega⟩
  ·exact ih fun k hk=>by
    have:=hb k hk;rcases cV k n with h1|h1
    ·exact h1
    ·have:k=n:=by omega
     subst this;exact absurd hk hn
structure jA (cx:Cx K) (L:List Oper) (bs:List Nat) (bJ:List (AV K)) (F:j0 K) (H0 HF H:List (Ob K)) (ρ:List Value) (S:Nat->Prop) (listed:Array Bool) (a:Act) (w:World):Prop where
 heap:aK cx.D ρ S w H
 hlen:H.length=HF.length
 defers:a.defers=[]
 size:a.tmps.size=bJ.length
 mq:listed.size=L.length
 base:∀(t:Nat) v x,(∀(k:Nat) o,L[k]?=some o->o.dst=some t->listed[k]?≠some true)->bJ[t]?=some v->a.tmps[t]?=some x->Rep cx.D ρ S w v x
 done:∀(k:Nat) o d x,L[k]?=some o->listed[k]?=some true->o.dst=some d->a.tmps[d]?=some x->ez cx.D ρ S w a.tmps (F.vals k) x
 opts:∀(k g:Nat) b y,listed[k]?=some true->F.vals k=.opt g b y->∃(k':Nat)(o':Oper),L[k']?=some o'/\o'.dst=some g/\listed[k']?=some true
 closed:∀(k:Nat) o,L[k]?=some o->listed[k]?=some true->∀e∈o.after,listed[e.on]?=some true
 E1:∀h,(∀k,listed[k]?=some true->¬F.W k h)->h<HF.length->(h<H0.length->H[h]?=H0[h]?)/\(H0.length<=h->H[h]?=some .dead)
 E2:∀h k,listed[k]?=some true->F.W k h->(∀k',listed[k']?=some true->F.W k' h->k'<=k)->H[h]?=(F.hin (k+1))[h]?
 KO:∀h,H0.length<=h->h<HF.length->(∀k,listed[k]?=some true->¬((F.hin k).length<=h/\h<(F.hout k).length))->ρ[h]?=some dummy
section
variable {cx :Cx K}{L:List Oper}{bs:List Nat}{H0:List (Ob K)}{bJ eK:List (AV K)}{F:j0 K}{HF:List (Ob K)}{wr:List Nat}{ms:List (Nat×Nat)}{ws:List Nat}{listed:Array Bool}{a:Act}
theorem jA.sees(hp:fO cx L bs H0 bJ F L.length eK HF wr ms ws)(hm:jA cx L bs bJ F H0 HF H ρ S listed a w){j:Nat}(hj:j<L.length)(f6:listed[j]?=some false)
 (hA:∀k,(bs.getD j 0).testBit k=true->listed[k]?=some true) (hcl:∀i k,listed[i]?=some true->(bs.getD i 0).testBit k=true->listed[k]?=some true) {h:Nat} (hh:h<(F.hin j).length) (hun:(F.mask j).testBit h=false):H[h]?=(F.hin j)[h]?:=by
 have hlt:∀k,listed[k]?=some true->k<L.length:=fun k hk=>by have:=(js.1 hk).1;rw[hm.mq]at this;exact this
 have hne:∀k,listed[k]?=some true->k≠j:=fun k hk e=>by subst e;rw[f6]at hk;cases hk
 have hbef:∀k,k<j->F.W k h->listed[k]?=some true:=fun k hk hw=>by
  cases hb:(bs.getD j 0).testBit k with
  |true=>exact hA k hb
  |false=>have:=hp.masks j hj h ⟨k,hk,hb,hw⟩;rw[hun]at this;cases this
 have haft:∀k,listed[k]?=some true->F.W k h->k<j:=fun k hk hw=>by
  rcases Nat.lt_trichotomy k j with h1|h1|h1
  ·exact h1
  ·exact absurd h1 (hne k hk)
  ·have lM:=hlt k hk;have hlen:=hp.mono (show j<=k by omega) (by omega);rcases hw with hT|⟨h2,-⟩
   ·cases hb:(bs.getD k 0).testBit j with
    |true=>have:=hcl k j hk hb;rw[f6]at this;cases this
    |false=>have:=hp.readers k lM j h1 hb h hT hh;rw[hun]at this;cases this
   ·omega
 by_cases hex:∃k,listed[k]?=some true/\F.W k h
 ·obtain⟨k,⟨hk1,hk2⟩,hk3⟩:=KN (p:=fun k=>listed[k]?=some true/\F.W k h) (n:=L.length) (fun k hk=>hlt k hk.1) hex;rw[hm.E2 h k hk1 hk2 fun k' a b=>hk3 k' ⟨a,b⟩];have hkj:=haft k hk1 hk2;have hno:∀k',k+1<=k'->k'<j->¬F.W k' h:=fun k' h1 h2 hw=>by have:=hk3 k' ⟨hbef k' h2 hw,hw⟩;omega
  by_cases hl:h<(F.hin (k+1)).length
  ·exact(hp.stay (show k+1<=j by omega) (by omega) hno hl).symm
  ·
   exfalso;have:H0.length<=h:=by have:=hp.mono (show 0<=k+1 by omega) (show k+1<=L.length by omega);rw[hp.h0]at this;omega
   obtain⟨k',g1,g2,g3⟩:=hp.made (show j<=L.length by omega) hh this;by_cases hkk:k+1<=k'
   ·exact hno k' hkk g1 (.inr ⟨g2,g3⟩)
   ·have:=hp.mono (show k'+1<=k+1 by omega) (show k+1<=L.length by omega);rw[hp.qt (show k'<L.length by omega)]at this;omega
 ·have hno:∀k,listed[k]?=some true->¬F.W k h:=fun k a b=>hex ⟨k,a,b⟩
  have si:∀k,0<=k->k<j->¬F.W k h:=fun k _ hk hw=>hno k (hbef k hk hw) hw
  have XG:h<HF.length:=by have:=hp.mono (show j<=L.length by omega) (bH _);rw[hp.hn]at this;omega
  obtain⟨g1,g2⟩:=hm.E1 h hno XG;by_cases h0:h<H0.length
  ·rw[g1 h0,hp.stay (eY j) (by omega) si (by rw[hp.h0];exact h0),hp.h0]
  ·obtain⟨k',a1,a2,a3⟩:=hp.made (show j<=L.length by omega) hh (by omega);exact absurd (.inr ⟨a2,a3⟩) (si k' (eY _) a1)
end
end Go.V
namespace Go.V
open Go
variable {K :cK}{ρ ρ':List Value}{S S':Nat->Prop}{w w':World}{H H':List (Ob K)}{D:bg K}
theorem ez.take(hD:bu D){n:Nat}{tmps:Array Value}{v:AV K}{x:Value}(h:ez D ρ S w tmps v x)(hu:v.upto n=true):ez D (ρ.take n) S w tmps v x:=by
 cases v with
 |opt g b v=>
  simp only[ez]at h⊢;rcases h with⟨h1,h2⟩|h
  ·exact .inl ⟨h1,h2.take hD (by simpa [AV.upto]using hu)⟩
  ·exact .inr h
 |_=>exact Rep.take hD h hu
theorem ez.mono'{tmps:Array Value}(hS:∀b,S b->S' b)(hw:∀b,S b->w'.heap[b]?=w.heap[b]?)(hρ:∀(h:Nat) r,ρ[h]?=some r->r≠dummy->ρ'[h]?=some r){v:AV K}{x:Value}(h:ez D ρ S w tmps v x):ez D ρ' S' w' tmps v x:=by
 cases v with
 |opt g b v=>
  simp only[ez]at h⊢;rcases h with⟨h1,h2⟩|h
  ·exact .inl ⟨h1,h2.mono' hS hw hρ⟩
  ·exact .inr h
 |_=>exact Rep.mono' hS hw hρ h
section
variable {cx :Cx K}{L:List Oper}{bs:List Nat}{H0:List (Ob K)}{bJ eK:List (AV K)}{F:j0 K}{HF:List (Ob K)}{wr:List Nat}{ms:List (Nat×Nat)}{ws:List Nat}{listed:Array Bool}{a:Act}
theorem jA.slots(hD:bu cx.D)(hbs:bs=gB L [])(he:jv L 0=true)(hp:fO cx L bs H0 bJ F L.length eK HF wr ms ws)(hm:jA cx L bs bJ F H0 HF H ρ S listed a w){j:Nat}{o:Oper}(ho:L[j]?=some o)(f6:listed[j]?=some false)(kD:∀e∈o.after,listed[e.on]?=some true){cL:List (AV K)}{dM:List Nat}
 (fs:vi cx L bs bJ F j o cL dM):eJ cx.D (ρ.take (F.hin j).length) S w (en (eI bs j) L 0 cL) a.tmps/\
   ∀(t:Nat) v,(en (eI bs j) L 0 cL)[t]?=some v->v≠.any->(∀(k:Nat) o',k<j->L[k]?=some o'->o'.dst≠some t)\/∃(k:Nat)(o':Oper),L[k]?=some o'/\o'.dst=some t/\listed[k]?=some true:=by
 have key:∀(t:Nat) v,(en (eI bs j) L 0 cL)[t]?=some v->v≠.any->(((∀(k:Nat) o',k<j->L[k]?=some o'->o'.dst≠some t)/\(∀(k:Nat) o,L[k]?=some o->o.dst=some t->listed[k]?≠some true))/\bJ[t]?=some v)\/∃(k:Nat)(o':Oper),L[k]?=some o'/\o'.dst=some t/\listed[k]?=some true/\v=F.vals k:=fun t v hv hne=>by
  obtain⟨g1,g2⟩:=EN L 0 cL t v hv hne;rcases vh L t with hn|⟨k,o',hk,hkd⟩
  ·exact .inl ⟨⟨fun k o' _ h=>hn k o' h,fun k o' h h'=>absurd h' (hn k o' h)⟩,by rw[<-fs.rest t fun k o' _ h=>hn k o' h];exact g1⟩
  ·have hb:=g2 k o' hk hkd;rw[fu,hbs]at hb;rcases J7 hb with hb|hb
   ·obtain⟨c1,c2⟩:=qp he (T:=fun i=>listed[i]?=some true) (fun i o hi mr=>hm.closed i o hi mr) j o ho kD k hb;have:=fs.fin k o' t hk hkd c2;rw[g1]at this;exact .inr ⟨k,o',hk,hkd,c1,by simpa using this⟩
   ·have c0:=(qp he (T:=fun _=>True) (fun _ _ _ _ _ _=>trivial) k o' hk (fun _ _=>trivial) j hb).2;have hun:listed[k]?≠some true:=fun hlk=>by
     have:=(qp he (T:=fun i=>listed[i]?=some true) (fun i o hi mr=>hm.closed i o hi mr) k o' hk (hm.closed k o' hk hlk) j hb).1;rw[f6]at this;cases this
    have xq:∀(k':Nat) o1,L[k']?=some o1->o1.dst=some t->k'=k:=fun k' o1 h1 h2=>hp.uniq k' k o1 o' t (bM.1 h1).1 (bM.1 hk).1 h1 hk h2 hkd
    have hlt:∀(k':Nat) o1,k'<j->L[k']?=some o1->o1.dst≠some t:=fun k' o1 hk' h1 h2=>by have:=xq k' o1 h1 h2;omega
    exact .inl ⟨⟨hlt,fun k' o1 h1 h2=>by rw[xq k' o1 h1 h2];exact hun⟩,by rw[<-fs.rest t hlt];exact g1⟩
 refine⟨⟨by rw[EO,fs.len,hm.size],fun t v x hv hx=>?_⟩,fun t v hv hne=>?_⟩
 ·by_cases hne:v=.any
  ·subst hne;exact .jz (.any x)
  ·have hu:=sg fs.up hv;rcases key t v hv hne with⟨⟨-,hn⟩,g⟩|⟨k,o',hk,hkd,hlk,rfl⟩
   ·exact(ez.jz (hm.base t v x hn g hx)).take hD hu
   ·exact(hm.done k o' t x hk hlk hkd hx).take hD hu
 ·rcases key t v hv hne with⟨⟨hn,-⟩,-⟩|⟨k,o',hk,hkd,hlk,-⟩
  ·exact .inl hn
  ·exact .inr ⟨k,o',hk,hkd,hlk⟩
theorem jA.view(hp:fO cx L bs H0 bJ F L.length eK HF wr ms ws)(hm:jA cx L bs bJ F H0 HF H ρ S listed a w){j:Nat}{o:Oper}(hj:j<L.length)(f6:listed[j]?=some false)
 (hA:∀k,(bs.getD j 0).testBit k=true->listed[k]?=some true) (hcl:∀i k,listed[i]?=some true->(bs.getD i 0).testBit k=true->listed[k]?=some true) {cL:List (AV K)} {dM:List Nat} (fs:vi cx L bs bJ F j o cL dM):
 View (F.hin j).length H (gZ (F.mask j) 0 (F.hin j)):={
 len:=xu _ _
 le:=by rw[hm.hlen];have:=hp.mono (show j<=L.length by omega) (bH _);rw[hp.hn]at this;exact this
 ob:=fun h o ho=>by
  rw[xt,fu]at ho;cases hb:(F.mask j).testBit h with
  |true=>
   rw[hb]at ho;cases hx:(F.hin j)[h]? with
   |none=>rw[hx]at ho;cases ho
   |some y=>rw[hx]at ho;simp at ho;exact .inl ho.symm
  |false=>
   rw[hb]at ho;cases hx:(F.hin j)[h]? with
   |none=>rw[hx]at ho;cases ho
   |some y=>
    rw[hx]at ho;simp at ho;subst ho;exact .inr (by rw[hm.sees hp hj f6 hA hcl (bM.1 hx).1 hb];exact hx)
 up:=fun h o ho=>by
  have:=fs.AD;rw[ig]at this;exact this o (gz ho)}
def after(F:j0 K)(j:Nat)(H:List (Ob K)):List (Ob K):=jU (F.mask j) 0 (H.take (F.hin j).length) (F.hout j)++H.drop (F.hout j).length
theorem XH{j:Nat}(h1:(F.hin j).length<=(F.hout j).length)(h2:(F.hout j).length<=H.length)(h:Nat):
 (after F j H)[h]?=if h<(F.hout j).length then(if h<(F.hin j).length/\(F.mask j).testBit h=true then H[h]? else(F.hout j)[h]?)else H[h]?:=by
 have hl:(H.take (F.hin j).length).length=(F.hin j).length:=by rw[rn];omega
 have hml:(jU (F.mask j) 0 (H.take (F.hin j).length) (F.hout j)).length=(F.hout j).length:=Az _ _ _ (by omega);unfold after;by_cases hh:h<(F.hout j).length
 ·rw[cU (by omega),aO hh,AA _ _ _ _ (by omega),hl,fu];by_cases hc:h<(F.hin j).length/\(F.mask j).testBit h=true
  ·rw[aO hc,aO hc,dI,aO hc.1]
  ·rw[aX hc,aX hc]
 ·rw[dA (by omega),aX hh,hml,fe];congr 1;omega
theorem after_length{j:Nat}(h1:(F.hin j).length<=(F.hout j).length)(h2:(F.hout j).length<=H.length):(after F j H).length=H.length:=by
 have hl:(H.take (F.hin j).length).length=(F.hin j).length:=by rw[rn];omega
 unfold after;rw[cq,Az _ _ _ (by omega),List.length_drop];omega
end
end Go.V
namespace Go.V
open Go
variable {K :cK}{ρ ρ':List Value}{S S':Nat->Prop}{w w':World}{H H':List (Ob K)}{D:bg K}
section
variable {cx :Cx K}{L:List Oper}{bs:List Nat}{H0:List (Ob K)}{bJ eK:List (AV K)}{F:j0 K}{HF:List (Ob K)}{wr:List Nat}{ms:List (Nat×Nat)}{ws:List Nat}{listed:Array Bool}{a:Act}
theorem jA.put(hD:bu cx.D)(hp:fO cx L bs H0 bJ F L.length eK HF wr ms ws)(hm:jA cx L bs bJ F H0 HF H ρ S listed a w){j:Nat}{o:Oper}(ho:L[j]?=some o)(f6:listed[j]?=some false)(kD:∀e∈o.after,listed[e.on]?=some true)
 (hA:∀k,(bs.getD j 0).testBit k=true->listed[k]?=some true) (hcl:∀i k,listed[i]?=some true->(bs.getD i 0).testBit k=true->listed[k]?=some true) {cL:List (AV K)} {dM:List Nat} (fs:vi cx L bs bJ F j o cL dM)
 {ρ1:List Value} {S1:Nat->Prop} {w1:World} {u:Value} (hs1:aK cx.D ρ1 S1 w1 (F.hout j)) (hst:Step cx.D (F.hin j).length (ρ.take (F.hin j).length) S (gZ (F.mask j) 0 (F.hin j)) w ρ1 S1 (F.hout j) w1) (hv:ez cx.D ρ1 S1 w1 a.tmps (F.vals j) u)
 (lp:∀g b y,F.vals j=.opt g b y->∃(k':Nat)(o':Oper),L[k']?=some o'/\o'.dst=some g/\listed[k']?=some true) {n0:Nat} (hn0:n0<=H0.length):
 jA cx L bs bJ F H0 HF (after F j H) (ρ1++ρ.drop (F.hout j).length) S1 (listed.setIfInBounds j true) (a.put o.dst u) w1/\Step cx.D n0 ρ S H w (ρ1++ρ.drop (F.hout j).length) S1 (after F j H) w1:=by
 have hj:j<L.length:=(bM.1 ho).1;have hjs:j<listed.size:=(js.1 f6).1;have hnm:=(hp.hs j hj).2;have hmN:(F.hout j).length<=H.length:=by
  have:=hp.mono (show j+1<=L.length by omega) (bH _);rw[hp.qt hj,hp.hn]at this;rw[hm.hlen];exact this
 have h0n:H0.length<=(F.hin j).length:=by have:=hp.mono (eY j) (by omega);rw[hp.h0]at this;exact this
 have hlt:∀k,listed[k]?=some true->k<L.length:=fun k hk=>by have:=(js.1 hk).1;rw[hm.mq]at this;exact this
 have hne:∀k,listed[k]?=some true->k≠j:=fun k hk e=>by subst e;rw[f6]at hk;cases hk
 have view:=hm.view hp hj f6 hA hcl fs;have hd:∀h,(F.hin j).length<=h->h<(F.hout j).length->ρ[h]?=some dummy:=fun h h1 h2=>
  hm.KO h (by omega) (by rw[<-hm.hlen];omega) fun k hk ⟨h3,h4⟩=>hne k hk (hp.maker hj (hlt k hk) h1 h2 h3 h4).symm
 have ag:=XH (F:=F) (H:=H) hnm hmN;have joined:Joined (F.hin j).length (F.hout j).length H (gZ (F.mask j) 0 (F.hin j)) (F.hout j) (after F j H):=⟨hnm,rfl,after_length hnm hmN,hmN,fun h o1 h1=>by
  rw[ag]at h1;by_cases hh:h<(F.hout j).length
  ·rw[aO hh]at h1;by_cases hc:h<(F.hin j).length/\(F.mask j).testBit h=true
   ·rw[aO hc]at h1;refine .inr ⟨h1,.inl ⟨hc.1,?_⟩⟩;rw[xt,fu,hc.2,bY hc.1];rfl
   ·rw[aX hc]at h1;exact .inl ⟨hh,h1⟩
  ·rw[aX hh]at h1;exact .inr ⟨h1,.inr (by omega)⟩⟩
 obtain⟨KP,XI,hmono⟩:=hm.heap.join (n0:=n0) view hs1 hst joined hd (by omega);have hl1:ρ1.length=(F.hout j).length:=hs1.len;have hρ:=Kx (n:=0) (ρ:=ρ) (ρ1:=ρ1) hl1 (by rw[hm.heap.len];exact hmN);have hread:∀b,S b->w1.heap[b]?=w.heap[b]?:=fun b hb=>hst.old b (hm.heap.slt b hb) fun h=>(hm.heap.lt b (view.own h)).2 hb
 have hrep:∀{v:AV K}{x:Value},Rep cx.D ρ S w v x->Rep cx.D (ρ1++ρ.drop (F.hout j).length) S1 w1 v x:=fun h=>h.mono' hst.s1 hread hmono
 have qq:∀{v:AV K}{x:Value}{tmps:Array Value},ez cx.D ρ S w tmps v x->ez cx.D (ρ1++ρ.drop (F.hout j).length) S1 w1 tmps v x:=fun h=>h.mono' hst.s1 hread hmono
 have XJ:ez cx.D (ρ1++ρ.drop (F.hout j).length) S1 w1 a.tmps (F.vals j) u:=hv.mono' (fun _ h=>h) (fun _ _=>rfl) fun h r hr _=>by
  have:h<(F.hout j).length:=by have:=(bM.1 hr).1;omega
  rw[hρ,aO this];exact hr
 have hget:∀(k:Nat),(listed.setIfInBounds j true)[k]?=some true↔(k=j\/listed[k]?=some true):=fun k=>by
  rw[m6];by_cases hk:j=k
  ·subst hk;simp[hjs]
  ·rw[aX hk];simp[m8 hk]
 have hclosed:∀(k:Nat) o1,L[k]?=some o1->(listed.setIfInBounds j true)[k]?=some true->∀e∈o1.after,(listed.setIfInBounds j true)[e.on]?=some true:=fun k o1 hk hlk e he=>by
  rw[hget]at hlk⊢;rcases hlk with rfl|hlk
  ·rw[ho]at hk;simp at hk;subst hk;exact .inr (kD e he)
  ·exact .inr (hm.closed k o1 hk hlk e he)
 have xr:∀(k g:Nat) b y,(listed.setIfInBounds j true)[k]?=some true->F.vals k=.opt g b y->∃(k':Nat)(o':Oper),L[k']?=some o'/\o'.dst=some g/\(listed.setIfInBounds j true)[k']?=some true:=fun k g b y hlk hvk=>by
  rw[hget]at hlk;rcases hlk with rfl|hlk
  ·obtain⟨k',o',h1,h2,h3⟩:=lp g b y hvk;exact⟨k',o',h1,h2,(hget k').2 (.inr h3)⟩
  ·obtain⟨k',o',h1,h2,h3⟩:=hm.opts k g b y hlk hvk;exact⟨k',o',h1,h2,(hget k').2 (.inr h3)⟩
 have hsame:∀h,¬F.W j h->(after F j H)[h]?=H[h]?:=fun h hn=>by
  rw[ag];by_cases hh:h<(F.hout j).length
  ·rw[aO hh];by_cases hc:h<(F.hin j).length/\(F.mask j).testBit h=true
   ·rw[aO hc]
   ·rw[aX hc];have hln:h<(F.hin j).length:=by
     rcases cV h (F.hin j).length with h1|h1
     ·exact h1
     ·exact absurd (.inr ⟨h1,hh⟩) hn
    have hun:(F.mask j).testBit h=false:=by
     cases hb:(F.mask j).testBit h with
     |false=>rfl
     |true=>exact absurd ⟨hln,hb⟩ hc
    rw[fs.turns.2 h (by rw[xu];exact hln) (fun hT=>hn (.inl hT)),xt,fu,hun,hm.sees hp hj f6 hA hcl hln hun];cases (F.hin j)[h]?<;>simp
  ·rw[aX hh]
 have hnew:∀h,F.W j h->(after F j H)[h]?=(F.hin (j+1))[h]?:=fun h hw=>by
  have hc:¬(h<(F.hin j).length/\(F.mask j).testBit h=true):=fun⟨h1,h2⟩=>by
   rcases hw with hT|hT
   ·have:=(hp.clear j hj h hT).1;rw[h2]at this;cases this
   ·omega
  have hh:h<(F.hout j).length:=by
   rcases hw with hT|hT
   ·have:=(hp.clear j hj h hT).2;omega
   ·exact hT.2
  rw[ag,aO hh,aX hc,(hp.hs j hj).1,AA _ _ _ _ hnm,fu,aX hc]
 have c0:∀h,(∀k,(listed.setIfInBounds j true)[k]?=some true->¬F.W k h)->h<HF.length->(h<H0.length->(after F j H)[h]?=H0[h]?)/\(H0.length<=h->(after F j H)[h]?=some .dead):=fun h hno hh=>by
  rw[hsame h (hno j ((hget j).2 (.inl rfl)))];exact hm.E1 h (fun k hk=>hno k ((hget k).2 (.inr hk))) hh
 have ck:∀h k,(listed.setIfInBounds j true)[k]?=some true->F.W k h->(∀k',(listed.setIfInBounds j true)[k']?=some true->F.W k' h->k'<=k)->(after F j H)[h]?=(F.hin (k+1))[h]?:=fun h k hk hw hmax=>by
  by_cases hkj:k=j
  ·subst hkj;exact hnew h hw
  ·have hk':listed[k]?=some true:=((hget k).1 hk).resolve_left hkj;have si:¬F.W j h:=fun E3=>by
    have hjk:j<k:=by have:=hmax j ((hget j).2 (.inl rfl)) E3;omega
    have lM:=hlt k hk';have hlen:=hp.mono (show j+1<=k by omega) (by omega);rw[hp.qt hj]at hlen;have hb:(bs.getD k 0).testBit j=false:=by
     cases hb:(bs.getD k 0).testBit j with
     |false=>rfl
     |true=>have:=hcl k j hk' hb;rw[f6]at this;cases this
    have hmk:=hp.masks k lM h ⟨j,hjk,hb,E3⟩;rcases hw with hT|hT
    ·have:=(hp.clear k lM h hT).1;rw[hmk]at this;cases this
    ·have:h<(F.hout j).length:=by
      rcases E3 with h1|h1
      ·have:=(hp.clear j hj h h1).2;omega
      ·exact h1.2
     omega
   rw[hsame h si];exact hm.E2 h k hk' hw fun k' a b=>hmax k' ((hget k').2 (.inr a)) b
 have cd:∀h,H0.length<=h->h<HF.length->(∀k,(listed.setIfInBounds j true)[k]?=some true->¬((F.hin k).length<=h/\h<(F.hout k).length))->(ρ1++ρ.drop (F.hout j).length)[h]?=some dummy:=fun h h1 h2 hno=>by
  have h3:=hm.KO h h1 h2 fun k hk=>hno k ((hget k).2 (.inr hk))
  have h4:=hno j ((hget j).2 (.inl rfl));rw[hρ];by_cases hh:h<(F.hout j).length
  ·have hl:h<(F.hin j).length:=by
    rcases cV h (F.hin j).length with h5|h5
    ·exact h5
    ·exact absurd ⟨h5,hh⟩ h4
   rw[aO hh,hst.pre h hl,dI,aO hl];exact h3
  ·rw[aX hh];exact h3
 have hlen2:(after F j H).length=HF.length:=by rw[after_length hnm hmN,hm.hlen]
 refine⟨?_,XI⟩;cases hdst:o.dst with
 |none=>
  refine⟨KP,hlen2,hm.defers,hm.size,by simp[hm.mq],fun t v x h1 h2 h3=>hrep (hm.base t v x (fun k o1 hk hd1 hl=>h1 k o1 hk hd1 ((hget k).2 (.inr hl))) h2 h3),fun k o1 d x hk hlk hd1 hx=>?_,xr,hclosed,c0,ck,cd⟩;rw[hget]at hlk;rcases hlk with rfl|hlk
  ·rw[ho]at hk;simp at hk;subst hk;rw[hdst]at hd1;cases hd1
  ·exact qq (hm.done k o1 d x hk hlk hd1 hx)
 |some d=>
  have E4:∀{k:Nat}{o1:Oper},L[k]?=some o1->listed[k]?=some true->o1.dst≠some d:=fun{k o1} hk hlk hd1=>by
   have:=hp.uniq k j o1 o d (hlt k hlk) hj hk ho hd1 hdst;exact hne k hlk this
  refine⟨KP,hlen2,hm.defers,by simp[Act.put,hm.size],by simp[hm.mq],fun t v x h1 h2 h3=>?_,fun k o1 d1 x hk hlk hd1 hx=>?_,xr,hclosed,c0,ck,cd⟩
  ·have:d≠t:=fun e=>by subst e;exact h1 j o ho hdst ((hget j).2 (.inl rfl))
   simp only[Act.put,m6,aX this]at h3;exact hrep (hm.base t v x (fun k o1 hk hd1 hl=>h1 k o1 hk hd1 ((hget k).2 (.inr hl))) h2 h3)
  ·rw[hget]at hlk;simp only[Act.put]at hx⊢;rw[m6]at hx;rcases hlk with rfl|hlk
   ·rw[ho]at hk;simp at hk;subst hk;rw[hdst]at hd1;simp at hd1;subst hd1;rw[aO rfl]at hx;split at hx
    ·simp at hx;subst hx;refine XJ.put fun g b y e he=>?_
     obtain⟨k',o',h1,h2,h3⟩:=lp g b y e;subst he;exact E4 h1 h3 h2
    ·cases hx
   ·have hdd:d≠d1:=fun e=>by subst e;exact E4 hk hlk hd1
    rw[aX hdd]at hx;refine(qq (hm.done k o1 d1 x hk hlk hd1 hx)).put fun g b y e he=>?_
    obtain⟨k',o',h1,h2,h3⟩:=hm.opts k g b y hlk e;subst he;exact E4 h1 h3 h2
end
end Go.V
namespace Go.V
open Go
variable {K :cK}{ρ ρ':List Value}{S S':Nat->Prop}{w w':World}{H H':List (Ob K)}{D:bg K}
def mx(H0:List (Ob K))(n:Nat):List (Ob K):=H0++List.replicate (n-H0.length) .dead
def lN(ρ:List Value)(n:Nat):List Value:=ρ++List.replicate (n-ρ.length) dummy
theorem KQ{H0:List (Ob K)}{n:Nat}(h:H0.length<=n):(mx H0 n).length=n:=by simp[mx];omega
theorem KR{n h:Nat}{r:Value}(hr:ρ[h]?=some r):(lN ρ n)[h]?=some r:=by
 unfold lN;rw[cU (bM.1 hr).1];exact hr
theorem KU{H0:List (Ob K)}{n h:Nat}{o:Ob K}(ho:(mx H0 n)[h]?=some o):H0[h]?=some o\/(H0.length<=h/\o=.dead):=by
 unfold mx at ho;rcases cV h H0.length with h1|h1
 ·rw[cU h1]at ho;exact .inl ho
 ·rw[dA h1,iF]at ho;split at ho
  ·simp at ho;exact .inr ⟨h1,ho.symm⟩
  ·cases ho
theorem AE{H0:List (Ob K)}{n h:Nat}{o:Ob K}{r:Value}(hl:ρ.length=H0.length)(ho:(mx H0 n)[h]?=some o)(hlv:o.live=true)(hr:(lN ρ n)[h]?=some r):H0[h]?=some o/\ρ[h]?=some r:=by
 rcases KU ho with h1|⟨-,rfl⟩
 ·have:h<ρ.length:=by rw[hl];exact(bM.1 h1).1
  unfold lN at hr;rw[cU this]at hr;exact⟨h1,hr⟩
 ·cases hlv
theorem aK.pad{H0:List (Ob K)}(hs:aK D ρ S w H0){n:Nat}(hn:H0.length<=n):aK D (lN ρ n) S w (mx H0 n):=by
 have own:∀b,Own D w (lN ρ n) (mx H0 n) b->Own D w ρ H0 b:=fun b ⟨h,o,r,h1,h2,h3,h4⟩=>by
  obtain⟨g1,g2⟩:=AE hs.len h1 h2 h3;exact⟨h,o,r,g1,h2,g2,h4⟩
 refine⟨by rw[KQ hn];simp[lN];have:=hs.len;omega,fun h o r h1 h2=>?_,fun h h' o o' r r' b h1 h2 h3 h4 h5 h6 h7 h8=>?_,fun b hb=>hs.lt b (own b hb),hs.slt,hs.base⟩
 ·rcases KU h1 with h3|⟨-,rfl⟩
  ·have:h<ρ.length:=by rw[hs.len];exact(bM.1 h3).1
   have h4:ρ[h]?=some r:=by unfold lN at h2;rwa [cU this]at h2
   refine(hs.ob h o r h3 h4).mono' (fun _ h=>h) (fun _ _=>rfl) (fun h' r' hr' _=>KR hr') fun _ _ _=>rfl
  ·trivial
 ·obtain⟨g1,g2⟩:=AE hs.len h1 h2 h3;obtain⟨k1,k2⟩:=AE hs.len h5 h6 h7;exact hs.ed h h' o o' r r' b g1 h2 g2 h4 k1 h6 k2 h8
theorem Step.pad{H0:List (Ob K)}(hs:aK D ρ S w H0){n n0:Nat}(hn:n0<=H0.length):Step D n0 ρ S H0 w (lN ρ n) S (mx H0 n) w:=
 ⟨rfl,rfl,rfl,bH _,fun _ _ _=>rfl,fun b ⟨h,o,r,h1,h2,h3,h4⟩=>by
   obtain⟨g1,g2⟩:=AE hs.len h1 h2 h3;exact .inl ⟨h,o,r,g1,h2,g2,h4⟩,fun _ h=>h,fun _ h=>.inl h,fun h hh=>by
   have:h<ρ.length:=by rw[hs.len];omega
   unfold lN;rw[cU this]⟩
section
variable {cx :Cx K}{L:List Oper}{bs:List Nat}{H0:List (Ob K)}{bJ eK:List (AV K)}{F:j0 K}{HF:List (Ob K)}{wr:List Nat}{ms:List (Nat×Nat)}{ws:List Nat}{listed:Array Bool}{a:Act}
theorem fO.len0(hp:fO cx L bs H0 bJ F L.length eK HF wr ms ws):H0.length<=HF.length:=by
 have:=hp.mono (eY L.length) (bH _);rw[hp.h0,hp.hn]at this;exact this
theorem jA.final(hp:fO cx L bs H0 bJ F L.length eK HF wr ms ws)(hm:jA cx L bs bJ F H0 HF H ρ S listed a w)(hall:∀i,i<L.length->listed[i]?=some true):H=HF:=by
 have hlt:∀k,listed[k]?=some true->k<L.length:=fun k hk=>by have:=(js.1 hk).1;rw[hm.mq]at this;exact this
 apply ma;intro h;rcases cV h HF.length with hh|hh
 ·have KV:h<(F.hin L.length).length:=by rw[hp.hn];exact hh
  by_cases hex:∃k,listed[k]?=some true/\F.W k h
  ·obtain⟨k,⟨hk1,hk2⟩,hk3⟩:=KN (p:=fun k=>listed[k]?=some true/\F.W k h) (n:=L.length) (fun k hk=>hlt k hk.1) hex;rw[hm.E2 h k hk1 hk2 fun k' a b=>hk3 k' ⟨a,b⟩];have lM:=hlt k hk1;have hno:∀k',k+1<=k'->k'<L.length->¬F.W k' h:=fun k' h1 h2 hw=>by have:=hk3 k' ⟨hall k' h2,hw⟩;omega
   by_cases hl:h<(F.hin (k+1)).length
   ·rw[<-hp.stay (show k+1<=L.length by omega) (bH _) hno hl,hp.hn]
   ·exfalso;have:H0.length<=h:=by have:=hp.mono (show 0<=k+1 by omega) (show k+1<=L.length by omega);rw[hp.h0]at this;omega
    obtain⟨k',g1,g2,g3⟩:=hp.made (bH _) KV this;by_cases hkk:k+1<=k'
    ·exact hno k' hkk g1 (.inr ⟨g2,g3⟩)
    ·have:=hp.mono (show k'+1<=k+1 by omega) (show k+1<=L.length by omega);rw[hp.qt g1]at this;omega
  ·have hno:∀k,listed[k]?=some true->¬F.W k h:=fun k a b=>hex ⟨k,a,b⟩
   have si:∀k,0<=k->k<L.length->¬F.W k h:=fun k _ hk hw=>hno k (hall k hk) hw
   obtain⟨g1,g2⟩:=hm.E1 h hno hh;by_cases h0:h<H0.length
   ·rw[g1 h0,<-hp.hn,hp.stay (eY _) (bH _) si (by rw[hp.h0];exact h0),hp.h0]
   ·obtain⟨k',a1,a2,a3⟩:=hp.made (bH _) KV (by omega);exact absurd (.inr ⟨a2,a3⟩) (si k' (eY _) a1)
 ·rw[ki (by rw[hm.hlen];exact hh),ki hh]
theorem XK(hD:bu cx.D)(hc:aZ cx)(he:jv L 0=true)(hp:fO cx L (gB L []) H0 bJ F L.length eK HF wr ms ws){n0:Nat}(hn:n0<=H0.length){Q:Exit->Act->World->Prop}:
 ∀(fuel:Nat)(listed:Array Bool)(H:List (Ob K))(ρ:List Value)(S:Nat->Prop)(a:Act)(w:World),jA cx L (gB L []) bJ F H0 HF H ρ S listed a w->todo listed<=fuel->
 (∀ρ' S' a' w',aK cx.D ρ' S' w' HF->eJ cx.D ρ' S' w' eK a'.tmps->a'.defers=[]->Step cx.D n0 ρ S H w ρ' S' HF w'->Q .normal a' w')->wpAny cx.P .any L.toArray Q fuel listed a w:=by
 have hfin:∀(listed:Array Bool)(H:List (Ob K))(ρ:List Value)(S:Nat->Prop)(a:Act)(w:World),jA cx L (gB L []) bJ F H0 HF H ρ S listed a w->Region.ready .any L.toArray listed=[]->H=HF/\eJ cx.D ρ S w eK a.tmps:=fun listed H ρ S a w hm hr=>by
  have hall:=Ku he hm.mq hr;refine⟨hm.final hp hall,by rw[hp.len,hm.size],fun t v x hv hx=>?_⟩;rcases vh L t with hnd|⟨k,o,hk,hkd⟩
  ·rw[hp.rest t fun k o _ h=>hnd k o h]at hv;exact .jz (hm.base t v x (fun k o hk hkd=>absurd hkd (hnd k o hk)) hv hx)
  ·have lM:=(bM.1 hk).1;rw[hp.fin k o t lM hk hkd]at hv;simp only[aj]at hv;subst hv;exact hm.done k o t x hk (hall k lM) hkd hx
 intro fuel
 induction fuel with
 |zero=>
  intro listed H ρ S a w hm ht hq;have hr:Region.ready .any L.toArray listed=[]:=by
   cases hh:Region.ready .any L.toArray listed with
   |nil=>rfl
   |cons j r=>
    have:j∈Region.ready .any L.toArray listed:=by rw[hh];simp
    exact absurd (xp.1 (mem_ready.1 this).1) (Kt (by omega))
  obtain⟨e,hs⟩:=hfin listed H ρ S a w hm hr;subst e;exact⟨hr,hq ρ S a w hm.heap hs hm.defers Step.refl⟩
 |succ fuel ih=>
  intro listed H ρ S a w hm ht hq;refine⟨fun hr=>by
   obtain⟨e,hs⟩:=hfin listed H ρ S a w hm hr;subst e;exact hq ρ S a w hm.heap hs hm.defers Step.refl,fun j hj=>?_⟩
  obtain⟨oD,o,hoj,hall⟩:=mem_ready.1 hj;have f6:=xp.1 oD;have ho:L[j]?=some o:=by simpa using hoj
  have KW:=(bM.1 ho).1;have kD:∀e∈o.after,listed[e.on]?=some true:=fun e sf=>ET.1 (hall e sf (xo L 0 j o he ho e sf).2)
  have hA:∀k,((gB L []).getD j 0).testBit k=true->listed[k]?=some true:=fun k hk=>
   (qp he (T:=fun i=>listed[i]?=some true) (fun i o hi mr=>hm.closed i o hi mr) j o ho kD k hk).1
  have hcl:∀i k,listed[i]?=some true->((gB L []).getD i 0).testBit k=true->listed[k]?=some true:=fun i k hi hk=>by
   have hiL:i<L.length:=by have:=(js.1 hi).1;rw[hm.mq]at this;exact this
   exact(qp he (T:=fun i=>listed[i]?=some true) (fun i o hi mr=>hm.closed i o hi mr) i _ (bY hiL) (hm.closed i _ (bY hiL) hi) k hk).1
  obtain⟨cL,dM,fs⟩:=hp.slot j o KW ho;obtain⟨hsl,hkn⟩:=hm.slots hD rfl he hp ho f6 kD fs;have view:=hm.view hp KW f6 hA hcl fs;have hsv:=hm.heap.view hD view;have main:∀q,gY q cx L (en (eI (gB L []) j) L 0 cL) (gZ (F.mask j) 0 (F.hin j)) dM o=some (F.vals j,F.hout j,true)->wpOp cx.P L.toArray Q j (wpAny cx.P .any L.toArray Q fuel (listed.setIfInBounds j true)) a w:=fun q s1=>by
   have lp:∀g b y,F.vals j=.opt g b y->∃(k':Nat)(o':Oper),L[k']?=some o'/\o'.dst=some g/\listed[k']?=some true:=fun g b y e=>by
    rw[e]at s1;obtain⟨v,g1,g2⟩:=Kq s1;rcases hkn g v g1 g2 with hn'|h
    ·obtain⟨k,o',hk,h2,h3⟩:=fs.dM g (se s1 g b y rfl);exact absurd h3 (hn' k o' hk h2)
    ·exact h
   have hw:=EJ hD hc hsv hsl (ops:=L) s1 rfl (k:=wpAny cx.P .any L.toArray Q fuel (listed.setIfInBounds j true)) (Q:=Q) fun u ρ1 S1 w1 q1 q2 q3=>by
    rw[xu]at q3;obtain⟨hm1,st1⟩:=hm.put hD hp ho f6 kD hA hcl fs q1 q3 q2 lp hn;exact ih _ _ _ S1 _ w1 hm1 (by have:=Ks f6;omega) fun ρ' S' a' w' g1 g2 g3 g4=>hq ρ' S' a' w' g1 g2 g3 (st1.trans g4)
   unfold wpOp;rw[hoj];dsimp only;split
   ·rename_i hwt;rw[aO hwt]at hw;exact .inl hw
   ·rename_i hwt;rw[aX hwt]at hw;exact hw
  have s1:=fs.slot;unfold uQ at s1;split at s1
  ·exact main true s1
  ·split at s1
   ·exact main false s1
   ·cases s1
theorem jA.start(hp:fO cx L bs H0 bJ F L.length eK HF wr ms ws)(hs:aK cx.D ρ S w H0)(hd:a.defers=[])(hsl:eJ cx.D ρ S w bJ a.tmps)(h0:dr bJ):
 jA cx L bs bJ F H0 HF (mx H0 HF.length) (lN ρ HF.length) S (Array.replicate L.length false) a w:=by
 have hf:∀(k:Nat),(Array.replicate L.length false)[k]?≠some true:=fun k e=>by
  rw[zG]at e;split at e<;>simp at e
 have hl:=hp.len0;refine⟨hs.pad hl,KQ hl,hd,hsl.len.symm,by simp,fun t v x hn1 h1 h2=>?_,fun k o d x h1 h2=>absurd h2 (hf k),fun k g b y h1=>absurd h1 (hf k),fun k o h1 h2=>absurd h2 (hf k),fun h _ hh=>⟨fun h1=>?_,fun h1=>?_⟩,fun h k hk=>absurd hk (hf k),fun h h1 h2 _=>?_⟩
 ·have h3:=hsl.ok t v x h1 h2;have h4:Rep cx.D ρ S w v x:=by
   cases v with
   |opt g b y=>exact absurd h1 (h0 t g b y)
   |_=>exact h3
  exact h4.mono' (fun _ h=>h) (fun _ _=>rfl) fun h r hr _=>KR hr
 ·unfold mx;rw[cU h1]
 ·unfold mx;rw[dA h1,iF,aO (by omega)]
 ·unfold lN;rw[dA (by rw[hs.len];exact h1),iF,aO (by rw[hs.len];omega)]
end
end Go.V
namespace Go.V
open Go
theorem KX:∀(π:List Nat),jT π=true->∀(i j k:Nat),π[i]?=some k->π[j]?=some k->i=j
 |[],_,i,j,k,h,_=>by simp at h
 |x::r,hn,i,j,k,hi,hj=>by
  simp only[jT,bz,fK,uB,iG]at hn;cases i with
  |zero=>
   cases j with
   |zero=>rfl
   |succ j=>simp at hi hj;subst hi;exact absurd (gz hj) hn.1
  |succ i=>
   cases j with
   |zero=>simp at hi hj;subst hj;exact absurd (gz hi) hn.1
   |succ j=>rw[KX r hn.2 i j k (by simpa using hi) (by simpa using hj)]
structure oN (π:List Nat) (ops ops':Array Oper):Prop where
 len:π.length=ops.size
 len':ops'.size=ops.size
 AG:∀i,i<ops.size->∃j:Nat,π[j]?=some i
 inj:∀(i j k:Nat),π[i]?=some k->π[j]?=some k->i=j
 ops:∀(j i:Nat),π[j]?=some i->∃o,ops[i]?=some o/\ops'[j]?=some (rM π ops.size o)
theorem KY{π:List Nat}{ops:List Oper}(h:wW π ops.length=true):oN π ops.toArray (permuted π ops).toArray:=by
 simp only[wW,bz,bN,ig,Du,uB]at h;obtain⟨h1,h2,h3,h4⟩:=h;refine⟨by simpa using h1,by simp[permuted,h1],fun i hi=>?_,KX π h4,fun j i hj=>?_⟩
 ·have:=h3 i (by simpa using hi);obtain⟨j,hj,e⟩:=pV this;exact⟨j,by rw[bY hj,e]⟩
 ·have hi:i<ops.length:=h2 i (gz hj);refine⟨ops[i],by simp[hi],?_⟩;simp only[List.getElem?_toArray,permuted,gP,hj,gk,bY hi,m7]
section
variable {P :Program}{π:List Nat}{ops ops':Array Oper}{Q:Exit->Act->World->Prop}
theorem KZ{π:List Nat}{i j:Nat}(h:π.idxOf? i=some j):π[j]?=some i:=by
 rw[List.idxOf?_eq_some_iff]at h;obtain⟨hlt,he,-⟩:=h;rw[bY hlt];simpa using he
theorem K0{π:List Nat}{i:Nat}(h:π.idxOf? i=none):i∉π:=by
 rw[List.idxOf?_eq_none_iff]at h;exact h
structure Listed (π:List Nat) (n:Nat) (l l':Array Bool):Prop where
 sz:l.size=n
 sz':l'.size=n
 eq:∀(j i:Nat),π[j]?=some i->l'[j]?=l[i]?
theorem Listed.getD(hp:oN π ops ops'){l l':Array Bool}(h:Listed π ops.size l l')(i:Nat):l'.getD ((π.idxOf? i).getD ops.size) false=l.getD i false:=by
 cases hx:π.idxOf? i with
 |some j=>
  have:=h.eq j i (KZ hx);simp only[aw,l9,this]
 |none=>
  have hi:ops.size<=i:=by
   rcases cV i ops.size with hlt|hge
   ·obtain⟨j,hj⟩:=hp.AG i hlt;exact absurd (gz hj) (K0 hx)
   ·exact hge
  simp only[Option.getD_none,l9];rw[ri (by rw[h.sz'];exact bH _),ri (by rw[h.sz];exact hi)]
theorem mem_ready{ops:Array Oper}{l:Array Bool}{i:Nat}:i∈Region.ready .any ops l↔i<ops.size/\l.getD i true=false/\∃o,ops[i]?=some o/\(o.after.all fun e=> !Region.binds .any e||l.getD e.on false)=true:=by
 unfold Region.ready;rw[List.mem_filter,Du];constructor
 ·rintro ⟨h1,h2⟩
  rw[bz,fK]at h2;refine⟨h1,h2.1,ops[i],by simp[h1],?_⟩;have:=h2.2;rw[uy h1]at this;simpa using this
 ·rintro ⟨h1,h2,o,h3,h4⟩
  refine⟨h1,?_⟩;rw[bz,fK];refine⟨h2,?_⟩;rw[h3];simpa using h4
theorem K1(hp:oN π ops ops'){l l':Array Bool}(h:Listed π ops.size l l')(o:Oper):
 ((rM π ops.size o).after.all fun e=> !Region.binds .any e||l'.getD e.on false)=(o.after.all fun e=> !Region.binds .any e||l.getD e.on false):=by
 have key:∀(L:List Edge),(((L.filter (Region.binds .any)).map fun e=>({e with on:=(π.idxOf? e.on).getD ops.size}:Edge)).all fun e=> !Region.binds .any e||l'.getD e.on false)=L.all fun e=> !Region.binds .any e||l.getD e.on false:=by
  intro L
  induction L with
  |nil=>rfl
  |cons e r ih=>
   rw[List.filter_cons,List.all_cons,<-ih];cases hb:Region.binds .any e with
   |false=>simp
   |true=>
    have hb':Region.binds .any {e with on:=(π.idxOf? e.on).getD ops.size}=true:=hb;simp only[od,gV,List.all_cons,hb',h.getD hp]
 have:=key o.after.toList;simp only[rM];rw[<-Array.all_toList,<-Array.all_toList,Array.toList_map,Array.toList_filter];exact this
theorem E5(hp:oN π ops ops'){l l':Array Bool}(h:Listed π ops.size l l'){i j:Nat}(hj:π[j]?=some i):j∈Region.ready .any ops' l'↔i∈Region.ready .any ops l:=by
 obtain⟨o,ho,ho'⟩:=hp.ops j i hj;have hi:i<ops.size:=(js.1 ho).1;have hj':j<ops'.size:=(js.1 ho').1;have hl:l'.getD j true=l.getD i true:=by simp only[l9,h.eq j i hj]
 rw[mem_ready,mem_ready,hl];constructor
 ·rintro ⟨-,h2,o1,h3,h4⟩
  rw[ho']at h3;simp only[aj]at h3;subst h3;rw[K1 hp h]at h4;exact⟨hi,h2,o,ho,h4⟩
 ·rintro ⟨-,h2,o1,h3,h4⟩
  rw[ho]at h3;simp only[aj]at h3;subst h3;exact⟨hj',h2,_,ho',by rw[K1 hp h];exact h4⟩
theorem XL(hp:oN π ops ops')(tm:Array Value)(i:Nat):yielded ops' tm ((π.idxOf? i).getD ops.size)=yielded ops tm i:=by
 unfold yielded;have:(ops'[(π.idxOf? i).getD ops.size]?).bind (·.dst)=(ops[i]?).bind (·.dst):=by
  cases hx:π.idxOf? i with
  |some j=>
   obtain⟨o,ho,ho'⟩:=hp.ops j i (KZ hx);simp only[aw];rw[ho,ho'];rfl
  |none=>
   have hi:ops.size<=i:=by
    rcases cV i ops.size with hlt|hge
    ·obtain⟨j,hj⟩:=hp.AG i hlt;exact absurd (gz hj) (K0 hx)
    ·exact hge
   simp only[Option.getD_none];rw[ri (by rw[hp.len'];exact bH _),ri hi]
 rw[this]
theorem XM(hp:oN π ops ops')(tm:Array Value)(o:Oper):Region.wanted (rM π ops.size o) (yielded ops' tm)=Region.wanted o (yielded ops tm):=by
 unfold Region.wanted rM;cases hg:o.guard with
 |none=>rfl
 |some g=>simp only[gk,XL hp]
theorem XN(hp:oN π ops ops'){i j:Nat}(hj:π[j]?=some i){K:Act->World->Prop}{a:Act}{w:World}(h:wpOp P ops' Q j K a w):wpOp P ops Q i K a w:=by
 obtain⟨o,ho,ho'⟩:=hp.ops j i hj;unfold wpOp at h⊢;rw[ho']at h;rw[ho];dsimp only at h⊢;rw[XM hp]at h;exact h
theorem Listed.set(hp:oN π ops ops'){l l':Array Bool}(h:Listed π ops.size l l'){i j:Nat}(hj:π[j]?=some i):Listed π ops.size (l.setIfInBounds i true) (l'.setIfInBounds j true):=by
 refine⟨by simp[h.sz],by simp[h.sz'],fun j' i' hj'=>?_⟩;rw[m6,m6];have hb:j<l'.size↔i<l.size:=by
  have:=h.eq j i hj;constructor
  ·intro hlt;rcases cV i l.size with h1|h1
   ·exact h1
   ·rw[ri h1,uy hlt]at this;cases this
  ·intro hlt;rcases cV j l'.size with h1|h1
   ·exact h1
   ·rw[ri h1,uy hlt]at this;cases this
 by_cases e:j=j'
 ·subst e;rw[hj]at hj';simp only[aj]at hj';subst hj';simp only[od];by_cases h1:j<l'.size
  ·rw[aO h1,aO (hb.1 h1)]
  ·rw[aX h1,aX (fun h2=>h1 (hb.2 h2))]
 ·have e':i≠i':=fun e2=>by subst e2;exact e (hp.inj j j' i hj hj')
  rw[aX e,aX e'];exact h.eq j' i' hj'
theorem XO(hp:oN π ops ops'):∀(fuel:Nat)(l l':Array Bool)(a:Act)(w:World),Listed π ops.size l l'->wpAny P .any ops' Q fuel l' a w->wpAny P .any ops Q fuel l a w:=by
 have nil:∀{l l':Array Bool},Listed π ops.size l l'->Region.ready .any ops l=[]->Region.ready .any ops' l'=[]:=fun{l l'} h he=>by
  apply List.eq_nil_iff_forall_not_mem.2;intro j hj;have hjn:j<π.length:=by rw[hp.len,<-hp.len'];exact(mem_ready.1 hj).1
  have:=(E5 hp h (bY hjn)).1 hj;rw[he]at this;cases this
 have nil':∀{l l':Array Bool},Listed π ops.size l l'->Region.ready .any ops' l'=[]->Region.ready .any ops l=[]:=fun{l l'} h he=>by
  apply List.eq_nil_iff_forall_not_mem.2;intro i hi;obtain⟨j,hj⟩:=hp.AG i (mem_ready.1 hi).1;have:=(E5 hp h hj).2 hi;rw[he]at this;cases this
 intro fuel
 induction fuel with
 |zero=>
  intro l l' a w h hw;exact⟨nil' h hw.1,hw.2⟩
 |succ fuel ih=>
  intro l l' a w h hw;refine⟨fun he=>hw.1 (nil h he),fun i hi=>?_⟩;obtain⟨j,hj⟩:=hp.AG i (mem_ready.1 hi).1;refine XN hp hj (wpOp_mono (fun a w=>ih _ _ a w (h.set hp hj)) (hw.2 j ((E5 hp h hj).2 hi)))
end
end Go.V
namespace Go.V
open Go
variable {K :cK}{ρ ρ':List Value}{S S':Nat->Prop}{w w':World}{H H':List (Ob K)}
def Tr(cx:Cx K)(n0:Nat)(c:Code)(st:St K)(e:Ex)(st':St K):Prop:=
 ∀(ρ:List Value)(S:Nat->Prop)(a:Act)(w:World),n0<=st.H.length->Sat cx ρ S a w st->
  c.wp cx.P (fun e' a' w'=>e'=e.mf/\n0<=st'.H.length/\∃ρ' S',Sat cx ρ' S' a' w' st'/\Step cx.D n0 ρ S st.H w ρ' S' st'.H w') a w
theorem Step.drew{D:bg K}{n0 n:Nat}{ρ ρ':List Value}{S S':Nat->Prop}{w w':World}{H H':List (Ob K)}(h:Step D n0 ρ S H {w with drawn:=n} ρ' S' H' w'):Step D n0 ρ S H w ρ' S' H' w':=
 have g:∀b,Own D {w with drawn:=n} ρ H b->Own D w ρ H b:=fun b h=>h.old fun _ _=>rfl
 ⟨h.os,h.tape,h.output,h.size,fun b hb hn=>h.old b hb fun hO=>hn (g b hO),fun b hb=>(h.own b hb).imp (g b) id,h.s1,fun b hb=>(h.s2 b hb).imp id (Or.imp (g b) id),h.pre⟩
theorem Sat.drawn{cx:Cx K}{a:Act}{st:St K}(h:Sat cx ρ S a w st)(n:Nat):Sat cx ρ S a {w with drawn:=n} st:=
 ⟨h.heap.world (bH _) (fun _ _=>rfl) (fun _ _=>rfl),eJ.mono (w:=w) (w':={w with drawn:=n}) (fun _ h=>h) (fun _ _=>rfl) (fun _ _ h=>h) h.slots,h.defers⟩
theorem K2{cx:Cx K}{ops:List Oper}:∀(l:List Oper)(st st':St K)(wr wr':List Nat),kA cx ops l st wr=some (st',wr')->kC st.tm wr->kC st'.tm wr'
 |[],st,st',wr,wr',h,ho=>by simp only[kA,aj,aF]at h;obtain⟨rfl,rfl⟩:=h;exact ho
 |o::r,st,st',wr,wr',h,ho=>by
  simp only[kA]at h;split at h
  ·rename_i st1 gG h1;refine K2 r st1 st' gG wr' h ?_;unfold rL at h1;split at h1
   ·rename_i v H1 c hsv;obtain⟨-,-,p3⟩:=oM h1;rcases p3 with⟨e1,e2,e3⟩|⟨d,e1,e2,e3,e4,e5⟩
    ·rw[e2,e3];exact ho
    ·rw[e4,e5];exact ho.put (se hsv)
   ·cases h1
  ·cases h
theorem XP{cx:Cx K}{op:Op}(h:il cx op=true):mi cx op=true:=by
 unfold mi;split
 ·rfl
 ·simp only[il]at h;simp[h]
 ·simp only[il,bz]at h;simp[h.1]
 ·exact h
theorem E6{cx:Cx K}{ops:List Oper}{π:List Nat}{st st':St K}(h:wX cx ops π st=some st'):wW π ops.length=true/\ng cx (permuted π ops) st=some st':=by
 unfold wX at h;split at h
 ·rename_i hp;exact⟨hp,h⟩
 ·cases h
theorem K3{cx:Cx K}{ops:List Oper}{st st':St K}(h:DT cx ops st=some st'):ng cx ops st=some st'\/∃π,wW π ops.length=true/\ng cx (permuted π ops) st=some st':=by
 unfold DT at h;split at h
 ·split at h
  ·rename_i r hr;simp only[aj]at h;subst h;exact .inl hr
  ·exact .inr ⟨_,E6 h⟩
 ·split at h
  ·rename_i r hr;simp only[aj]at h;subst h;exact .inr ⟨_,E6 hr⟩
  ·exact .inr ⟨_,E6 h⟩
theorem K4{cx:Cx K}(hD:bu cx.D)(hc:aZ cx){n0:Nat}{ops:Array Oper}{st st':St K}(h:ng cx ops.toList st=some st'):
 (st'.ok=true->st.ok=true)/\(st'.ok=true->dr st.tm->dr st'.tm/\∀(ρ:List Value)(S:Nat->Prop)(a:Act)(w:World),n0<=st.H.length->Sat cx ρ S a w st->
   wpAny cx.P .any ops (fun e' a' w'=>e'=Ex.normal.mf/\n0<=st'.H.length/\∃ρ' S',Sat cx ρ' S' a' w' st'/\Step cx.D n0 ρ S st.H w ρ' S' st'.H w') ops.size (Array.replicate ops.size false) a {w with drawn:=w.drawn+1}):=by
 unfold ng at h;split at h
 ·rename_i hsm;simp only[bz]at hsm;split at h
  ·rename_i s1 wr hr;simp only[aj]at h;subst h;have hk:=ER _ _ _ _ _ _ hr;refine⟨fun hok=>(hk hok).1,fun hok h0=>?_⟩;obtain⟨vals,hd,hwr⟩:=Xp hr hok;have hH:=(hk hok).2;have EU:∀(i:Nat) o,ops.toList[i]?=some o->mi cx o.op=true:=fun i o ho=>
    ig.1 hsm.1 o (gz ho)
   have lp:kC s1.tm wr:=fun t g b v e=>by
    rcases vh ops.toList t with hn|⟨k,o,hk1,hk2⟩
    ·rw[hd.rest t hn]at e;exact absurd e (h0 t g b v)
    ·rw[hd.fin k o t hk1 hk2]at e;refine⟨(hwr t).2 ⟨k,o,hk1,hk2⟩,?_⟩;obtain⟨cL,dM,H1,q1,q2,q3,q4,q5⟩:=hd.slot k o hk1;simp only[aj]at e;rw[e]at q1;obtain⟨k',o',-,c2,c3⟩:=q5 g (se q1 g b v rfl);exact(hwr g).2 ⟨k',o',c2,c3⟩
   refine⟨dr.wipe lp,fun ρ S a w hn bn=>?_⟩;have oO:=bn.drawn (w.drawn+1);have hall:ops=ops.toList.toArray:=by simp
   have hmid:Mid cx ops.toList st.tm vals st.H ρ S (Array.replicate ops.size false) a {w with drawn:=w.drawn+1}:=by
    have hf:∀(k:Nat),(Array.replicate ops.size false)[k]?≠some true:=fun k e=>by
     rw[zG]at e;split at e<;>simp at e
    refine⟨oO.heap,oO.defers,oO.slots.len.symm,by simp,fun t v x hn1 h1 h2=>?_,fun k o d x h1 h2=>absurd h2 (hf k),fun k g b y h1=>absurd h1 (hf k),fun k o h1 h2=>absurd h2 (hf k)⟩;have:=oO.slots.ok t v x h1 h2;cases v with
    |opt g b y=>exact absurd h1 (h0 t g b y)
    |_=>exact this
   rw[hH];have key:=Xq hD hc EU hsm.2 hd h0 (n0:=n0) hn (Q:=fun e' a' w'=>e'=Ex.normal.mf/\n0<=st.H.length/\∃ρ' S',Sat cx ρ' S' a' w' ⟨iN s1.tm wr,st.H,s1.ok⟩/\Step cx.D n0 ρ S st.H w ρ' S' st.H w') ops.size (Array.replicate ops.size false) ρ S a {w with drawn:=w.drawn+1} hmid (Kv _) fun ρ' S' a' w' g1 g2 g3 g4=>by
    exact⟨rfl,hn,ρ',S',⟨g1,g2.wipe _ _,g3⟩,g4.drew⟩
   rw[<-hall]at key;exact key
  ·cases h
 ·split at h
  ·rename_i E7;split at h
   ·rename_i s1 wr hr;simp only[aj]at h;subst h;refine⟨fun hok=>E0 _ _ _ _ _ _ _ _ hr hok,fun hok h0=>?_⟩;obtain⟨F,ms,ws,hp⟩:=XE hr hok;have lp:kC s1.tm wr:=fun t g b v e=>by
     rcases vh ops.toList t with hn|⟨k,o,hk1,hk2⟩
     ·rw[hp.rest t fun k o _ h=>hn k o h]at e;exact absurd e (h0 t g b v)
     ·have lM:=(bM.1 hk1).1;rw[hp.fin k o t lM hk1 hk2]at e;refine⟨(hp.lL t).2 ⟨k,o,lM,hk1,hk2⟩,?_⟩;obtain⟨cL,dM,fs⟩:=hp.slot k o lM hk1;simp only[aj]at e;have q1:=fs.slot;rw[e]at q1;have hg:g∈dM:=by
       unfold uQ at q1;split at q1
       ·exact se q1 g b v rfl
       ·split at q1
        ·exact se q1 g b v rfl
        ·cases q1
      obtain⟨k',o',c1,c2,c3⟩:=fs.dM g hg;exact(hp.lL g).2 ⟨k',o',by omega,c2,c3⟩
    refine⟨dr.wipe lp,fun ρ S a w hn bn=>?_⟩;have oO:=bn.drawn (w.drawn+1);have hall:ops=ops.toList.toArray:=by simp
    have hmid:=jA.start hp oO.heap oO.defers oO.slots h0;have XQ:=Step.pad (n:=s1.H.length) (n0:=n0) oO.heap hn;have key:=XK hD hc E7 hp (n0:=n0) hn (Q:=fun e' a' w'=>e'=Ex.normal.mf/\n0<=s1.H.length/\∃ρ' S',Sat cx ρ' S' a' w' ⟨iN s1.tm wr,s1.H,s1.ok⟩/\Step cx.D n0 ρ S st.H w ρ' S' s1.H w') ops.size (Array.replicate ops.toList.length false) _ _ S a {w with drawn:=w.drawn+1} hmid (by have:=Kv ops.toList.length;simpa using this) fun ρ' S' a' w' g1 g2 g3 g4=>by
     have g5:=XQ.trans g4;exact⟨rfl,kX hn hp.len0,ρ',S',⟨g1,g2.wipe _ _,g3⟩,g5.drew⟩
    rw[<-hall]at key;simpa using key
   ·cases h
  ·cases h
theorem vj{cx:Cx K}(hD:bu cx.D)(hc:aZ cx)(hm:cx.P.follows .mixedOrders=true){n0:Nat}{id:Nat}{ops:Array Oper}{draw:Bool}{st st':St K}(h:g9 cx ops.toList draw st=some st'):
 (st'.ok=true->st.ok=true)/\(st'.ok=true->dr st.tm->dr st'.tm/\Tr cx n0 (.region id ops draw) st .normal st'):=by
 unfold g9 at h;split at h
 ·rename_i hdr;subst hdr;rcases K3 h with h|⟨π,hp,h⟩
  ·obtain⟨h1,h2⟩:=K4 (n0:=n0) hD hc h;refine⟨h1,fun hok h0=>⟨(h2 hok h0).1,fun ρ S a w hn bn=>wp_region_any hm ((h2 hok h0).2 ρ S a w hn bn)⟩⟩
  ·have hp':=KY hp;have e:ops.toList.toArray=ops:=by simp
   rw[e]at hp';have h':ng cx ((permuted π ops.toList).toArray).toList st=some st':=h;obtain⟨h1,h2⟩:=K4 (n0:=n0) hD hc h';refine⟨h1,fun hok h0=>⟨(h2 hok h0).1,fun ρ S a w hn bn=>wp_region_any hm ?_⟩⟩;have:=(h2 hok h0).2 ρ S a w hn bn;rw[hp'.len']at this;exact XO hp' _ _ _ _ _ ⟨by simp,by simp,fun j i hj=>by
    obtain⟨o,ho,ho'⟩:=hp'.ops j i hj;have hi:=(js.1 ho).1;have hj':=(js.1 ho').1;rw[hp'.len']at hj';rw[zG,zG,aO hi,aO hj']⟩ this
 ·rename_i hdr;split at h
  ·rename_i s1 wr hr;simp only[aj]at h;subst h;refine⟨fun hok=>EL _ _ _ _ _ hr hok,fun hok h0=>?_⟩;refine⟨dr.wipe (K2 _ _ _ _ _ hr h0.in),fun ρ S a w hn bn=>?_⟩;have hdr':draw=false:=by simpa using hdr
   subst hdr';refine wp_region_list ?_;have key:=J4 (n0:=n0) hD hc ops.toList st s1 [] wr ρ S a w hr hok bn h0.in hn (Q:=fun e' a' w'=>e'=Ex.normal.mf/\n0<=s1.H.length/\∃ρ' S',Sat cx ρ' S' a' w' ⟨iN s1.tm wr,s1.H,s1.ok⟩/\Step cx.D n0 ρ S st.H w ρ' S' s1.H w') fun ρ' S' a' w' g1 g2 g3=>
    ⟨rfl,g3.grow bn.heap g1.heap hn,ρ',S',⟨g1.heap,g1.slots.wipe _ _,g1.defers⟩,g3⟩
   exact key
  ·cases h
theorem E8:∀(wr:List Nat)(tm:List (AV K))(t:Nat),t∉wr->(iN tm wr)[t]?=tm[t]?
 |[],tm,t,h=>rfl
 |d::r,tm,t,h=>by
  simp only[fW,not_or]at h;simp only[iN];split
  ·rw[E8 r _ t h.2,List.getElem?_set_ne (m8 h.1)]
  ·exact E8 r tm t h.2
theorem E9:∀(wr:List Nat)(tm:List (AV K)),(iN tm wr).length=tm.length
 |[],tm=>rfl
 |d::r,tm=>by
  simp only[iN];split
  ·rw[E9 r];simp
  ·exact E9 r tm
theorem XR{q:Bool}{cx:Cx K}{ops:List Oper}{tm:List (AV K)}{wr:List Nat}{o:Oper}{v:AV K}{c:Bool}(hs:il cx o.op=true)(h:gY q cx ops tm H wr o=some (v,H',c)):H'=H:=by
 unfold gY at h;split at h
 ·cases h
 ·split at h
  ·rename_i hy;split at h
   ·cases h
   ·simp only[aj,aF]at h;obtain⟨-,rfl,-⟩:=h;exact J2 hs hy
  ·cases h
 ·split at h
  ·split at h
   ·split at h
    ·split at h
     ·rename_i hy;split at h
      ·cases h
      ·simp only[aj,aF]at h;obtain⟨-,rfl,-⟩:=h;exact J2 hs hy
     ·cases h
    ·simp only[aj,aF]at h;exact h.2.1.symm
   ·cases h
  split at h
  ·cases h
  ·split at h
   ·split at h
    ·simp only[aj,aF]at h;exact h.2.1.symm
    ·cases h
   ·cases h
structure Quiet (st st':St K) (wr:List Nat):Prop where
 H:st'.H=st.H
 len:st'.tm.length=st.tm.length
 rest:∀t,t∉wr->st'.tm[t]?=st.tm[t]?
theorem K5{st st':St K}{wr wr' ds:List Nat}{dst:Option Nat}{v:AV K}{ok:Bool}(h:rK st wr dst v st.H ok=some (st',wr'))(hd:∀d,dst=some d->d∈ds)(hw:∀d∈wr,d∈ds):Quiet st st' ds/\∀d∈wr',d∈ds:=by
 obtain⟨p1,p2,p3⟩:=oM h;rcases p3 with⟨e1,e2,e3⟩|⟨d,e1,e2,e3,e4,e5⟩
 ·exact⟨⟨p1,by rw[e2],fun t _=>by rw[e2]⟩,by rw[e3];exact hw⟩
 ·refine⟨⟨p1,by rw[e4];simp,fun t ht=>?_⟩,fun d' hd'=>?_⟩
  ·rw[e4,List.getElem?_set_ne fun e=>ht (by rw[<-e];exact hd d e1)]
  ·rw[e5]at hd';rcases fW.1 hd' with rfl|h'
   ·exact hd _ e1
   ·exact hw _ h'
theorem Quiet.trans{st st1 st2:St K}{wr:List Nat}(a:Quiet st st1 wr)(b:Quiet st1 st2 wr):Quiet st st2 wr:=
 ⟨b.H.trans a.H,b.len.trans a.len,fun t ht=>(b.rest t ht).trans (a.rest t ht)⟩
theorem Quiet.more{st st1:St K}{wr wr':List Nat}(a:Quiet st st1 wr)(h:∀d∈wr,d∈wr'):Quiet st st1 wr':=⟨a.H,a.len,fun t ht=>a.rest t fun h'=>ht (h t h')⟩
theorem K6{cx:Cx K}{ops:List Oper}{ds:List Nat}:∀(l:List Oper)(st st':St K)(wr wr':List Nat),kA cx ops l st wr=some (st',wr')->(∀o∈l,il cx o.op=true)->(∀o∈l,∀d,o.dst=some d->d∈ds)->(∀d∈wr,d∈ds)->Quiet st st' ds/\∀d∈wr',d∈ds
 |[],st,st',wr,wr',h,_,_,hw=>by simp only[kA,aj,aF]at h;obtain⟨rfl,rfl⟩:=h;exact⟨⟨rfl,rfl,fun _ _=>rfl⟩,hw⟩
 |o::r,st,st',wr,wr',h,hs,hd,hw=>by
  simp only[kA]at h;split at h
  ·rename_i st1 gG h1;unfold rL at h1;split at h1
   ·rename_i v H1 c hsv;have hH:=XR (hs o (by simp)) hsv;subst hH;obtain⟨q1,q2⟩:=K5 h1 (fun d e=>hd o (by simp) d e) hw;obtain⟨q3,q4⟩:=K6 r st1 st' gG wr' h (fun o ho=>hs o (by simp[ho])) (fun o ho=>hd o (by simp[ho])) q2;exact⟨q1.trans q3,q4⟩
   ·cases h1
  ·cases h
theorem K7{cx:Cx K}{L:List Oper}{bs ds:List Nat}:∀(l:List Oper)(i:Nat)(st st':St K)(wr wr':List Nat),lI cx L bs l i st wr=some (st',wr')->(∀o∈l,∀d,o.dst=some d->d∈ds)->(∀d∈wr,d∈ds)->Quiet st st' ds/\∀d∈wr',d∈ds
 |[],i,st,st',wr,wr',h,_,hw=>by simp only[lI,aj,aF]at h;obtain⟨rfl,rfl⟩:=h;exact⟨⟨rfl,rfl,fun _ _=>rfl⟩,hw⟩
 |o::r,i,st,st',wr,wr',h,hd,hw=>by
  simp only[lI]at h;split at h
  ·split at h
   ·rename_i st1 gG h1;obtain⟨q1,q2⟩:=K5 h1 (fun d e=>hd o (by simp) d e) hw;obtain⟨q3,q4⟩:=K7 r _ st1 st' gG wr' h (fun o ho=>hd o (by simp[ho])) q2;exact⟨q1.trans q3,q4⟩
   ·cases h
  ·cases h
theorem Quiet.wipe{st st1:St K}{wr ds:List Nat}(a:Quiet st st1 ds)(h:∀d∈wr,d∈ds):Quiet st ⟨iN st1.tm wr,st1.H,st1.ok⟩ ds:=
 ⟨a.H,by simp[E9,a.len],fun t ht=>by dsimp only;rw[E8 wr _ t fun h'=>ht (h t h')];exact a.rest t ht⟩
theorem AH{cx:Cx K}{ops:List Oper}{draw:Bool}{st:St K}{b:Bool}{s1 s2:St K}:∀(l:List Nat),wY cx ops draw st l=some (b,s1,s2)->
 ∃t,g9 {cx with gs:=[(t,true)]} ops draw st=some s1/\g9 {cx with gs:=[(t,false)]} ops draw st=some s2
 |[],h=>by cases h
 |t::r,h=>by
  unfold wY at h;split at h
  ·rename_i a1 a2 h1 h2;split at h
   ·simp only[aj,aF]at h;obtain⟨-,rfl,rfl⟩:=h;exact⟨t,h1,h2⟩
   ·exact AH r h
  ·exact AH r h
theorem Sat.gs{cx:Cx K}{g:List (Nat×Bool)}{a:Act}{st:St K}(h:Sat cx ρ S a w st):Sat {cx with gs:=g} ρ S a w st:=⟨h.heap,h.slots,h.defers⟩
theorem Sat.XS{cx:Cx K}{g:List (Nat×Bool)}{a:Act}{st:St K}(h:Sat {cx with gs:=g} ρ S a w st):Sat cx ρ S a w st:=⟨h.heap,h.slots,h.defers⟩
theorem Tr.gs{cx:Cx K}{g:List (Nat×Bool)}{n0:Nat}{c:Code}{st st':St K}{e:Ex}(h:Tr {cx with gs:=g} n0 c st e st'):Tr cx n0 c st e st':=fun ρ S a w hn hs=>
 wp_mono (h ρ S a w hn hs.gs) fun e' a' w' ⟨h1,h2,ρ',S',h3,h4⟩=>⟨h1,h2,ρ',S',h3.XS,h4⟩
def gn.All(Q:St K->Prop):gn K->Prop
 |.no=>True
 |.leaf s=>Q s
 |.node _ x y=>x.All Q/\y.All Q
 |.two x y=>Q x/\Q y
theorem gn.Fa{cx:Cx K}{Q:St K->Prop}(hor:∀{R:Type}(a b:Option R)(r:R),cx.wO a b=some r->a=some r\/b=some r):∀(T:gn K),T.All Q->∀{R:Type}{k:St K->Option R}{r:R},T.go cx k=some r->∃s,Q s/\k s=some r
 |.no,_,R,k,r,h=>by cases h
 |.leaf s,hq,R,k,r,h=>⟨s,hq,h⟩
 |.node b x y,hq,R,k,r,h=>by
   cases b with
   |true=>exact gn.Fa hor x hq.1 h
   |false=>exact gn.Fa hor y hq.2 h
 |.two x y,hq,R,k,r,h=>by
   rcases hor _ _ _ h with h|h
   ·exact⟨x,hq.1,h⟩
   ·exact⟨y,hq.2,h⟩
theorem Fb{cx:Cx K}{ops:List Oper}{draw:Bool}{st:St K}{Q:St K->Prop}(h0:∀gs s,g9 {cx with gs:=gs} ops draw st=some s->Q s)
 (h1:∀x gs s,g9 {cx with call:=cx.alt x,mode:=cx.oh x,gs:=gs} ops draw st=some s->Q s):∀(n:Nat)(gs:List (Nat×Bool))(T:gn K),wZ cx ops draw st n gs=some T->T.All Q
 |0,gs,T,h=>by cases h
 |n+1,gs,T,h=>by
  unfold wZ at h;split at h
  ·rename_i s hs;cases h;exact h0 gs s hs
  ·split at h
   ·rename_i s1 s2 e1 e2;cases h;exact⟨h1 true gs s1 e1,h1 false gs s2 e2⟩
   ·split at h
    ·split at h
     ·rename_i x y ex ey;cases h;exact⟨Fb h0 h1 n _ x ex,Fb h0 h1 n _ y ey⟩
     ·cases h
    ·split at h
     ·cases h;trivial
     ·cases h
theorem gn.AI{Q:St K->Prop}:∀(T:gn K),T.All Q->∀{R:Type}{k:St K->Option R}{r:R},T.zT k=some r->∃s,Q s/\k s=some r
 |.no,_,R,k,r,h=>by cases h
 |.leaf s,hq,R,k,r,h=>⟨s,hq,h⟩
 |.node b x y,hq,R,k,r,h=>by
   cases b with
   |true=>exact gn.AI x hq.1 h
   |false=>exact gn.AI y hq.2 h
 |.two x y,hq,R,k,r,h=>by cases h
theorem AK{cx:Cx K}{ops:List Oper}{draw:Bool}{st:St K}{Q:St K->Prop}(h0:∀gs s,g9 {cx with gs:=gs} ops draw st=some s->Q s):
 ∀(n:Nat)(gs:List (Nat×Bool))(T:gn K),w8 cx ops draw st n gs=some T->T.All Q
 |0,gs,T,h=>by cases h
 |n+1,gs,T,h=>by
  unfold w8 at h;split at h
  ·rename_i s hs;cases h;exact h0 gs s hs
  ·split at h
   ·split at h
    ·rename_i x y ex ey;cases h;exact⟨AK h0 n _ x ex,AK h0 n _ y ey⟩
    ·cases h
   ·split at h
    ·cases h;trivial
    ·cases h
theorem Sat.call{cx:Cx K}{g:FuncId->List (AV K)->List (Ob K)->Option (AV K×List (Ob K)×Bool)}{m:FuncId->Mode}{a:Act}{st:St K}(h:Sat cx ρ S a w st):Sat {cx with call:=g,mode:=m} ρ S a w st:=⟨h.heap,h.slots,h.defers⟩
theorem Sat.XT{cx:Cx K}{g:FuncId->List (AV K)->List (Ob K)->Option (AV K×List (Ob K)×Bool)}{m:FuncId->Mode}{a:Act}{st:St K}(h:Sat {cx with call:=g,mode:=m} ρ S a w st):Sat cx ρ S a w st:=⟨h.heap,h.slots,h.defers⟩
theorem Tr.call{cx:Cx K}{g:FuncId->List (AV K)->List (Ob K)->Option (AV K×List (Ob K)×Bool)}{m:FuncId->Mode}{n0:Nat}{c:Code}{st st':St K}{e:Ex}(h:Tr {cx with call:=g,mode:=m} n0 c st e st'):Tr cx n0 c st e st':=fun ρ S a w hn hs=>
 wp_mono (h ρ S a w hn hs.call) fun e' a' w' ⟨h1,h2,ρ',S',h3,h4⟩=>⟨h1,h2,ρ',S',h3.XT,h4⟩
theorem Fe{cx:Cx K}{g:List (Nat×Bool)}:∀(o:Op),il {cx with gs:=g} o=il cx o:=fun o=>by
 unfold il;rfl
theorem AL{cx:Cx K}{id:Nat}{ops:Array Oper}{draw:Bool}{st st':St K}(hs:∀o∈ops.toList,il cx o.op=true)(hr:g9 cx ops.toList draw st=some st'):Quiet st st' (writes (.region id ops draw)):=by
 have hd:∀o∈ops.toList,∀d,o.dst=some d->d∈writes (.region id ops draw):=fun o ho d hd=>by
  simp only[writes,List.mem_filterMap];exact⟨o,ho,hd⟩
 have dq:∀(L:List Oper),(∀o∈L,il cx o.op=true)->(∀o∈L,∀d,o.dst=some d->d∈writes (.region id ops draw))->ng cx L st=some st'->Quiet st st' (writes (.region id ops draw)):=fun L hs hd hr=>by
  unfold ng at hr;split at hr
  ·split at hr
   ·rename_i s1 wr h1;simp only[aj]at hr;subst hr;obtain⟨q1,q2⟩:=K7 _ _ _ _ _ _ h1 hd (by simp);exact q1.wipe q2
   ·cases hr
  ·rename_i hnq;split at hr
   ·rename_i E7;exact absurd (by rw[bz];exact⟨ig.2 fun o ho=>XP (hs o ho),E7⟩) hnq
   ·cases hr
 unfold g9 at hr;split at hr
 ·rcases K3 hr with hr|⟨π,hp,hr⟩
  ·exact dq _ hs hd hr
  ·have hp':=KY hp;have src:∀o∈permuted π ops.toList,∃o1∈ops.toList,o=rM π ops.toList.length o1:=fun o ho=>by
    obtain⟨j,hj,e⟩:=pV ho;have hjn:j<π.length:=by simpa [permuted]using hj
    obtain⟨o1,h1,h2⟩:=hp'.ops j _ (bY hjn);have h3:(permuted π ops.toList)[j]?=some o:=by rw[bY hj,e]
    have h4:=h3.symm.trans (by simpa using h2);exact⟨o1,gz (by simpa using h1),by simpa using gU h4⟩
   refine dq _ (fun o ho=>?_) (fun o ho d hod=>?_) hr
   ·obtain⟨o1,h1,rfl⟩:=src o ho;exact hs o1 h1
   ·obtain⟨o1,h1,rfl⟩:=src o ho;exact hd o1 h1 d hod
 ·split at hr
  ·rename_i s1 wr h1;simp only[aj]at hr;subst hr;obtain⟨q1,q2⟩:=K6 _ _ _ _ _ h1 hs hd (by simp);exact q1.wipe q2
  ·cases hr
theorem vk{cx:Cx K}:∀(c:Code),simple cx c=true->∀{R:Type}(st:St K)(k:Ex->St K->Option R)(r:R),fw cx c st k=some r->∃st',k .normal st'=some r/\Quiet st st' (writes c)
 |.skip,_,R,st,k,r,h=>⟨st,h,rfl,rfl,fun _ _=>rfl⟩
 |.region id ops draw,hs,R,st,k,r,h=>by
   simp only[fw]at h;have hs':∀o∈ops.toList,il cx o.op=true:=by simpa only[simple,ig]using hs
   split at h
   ·rename_i st' hr;exact⟨st',h,AL hs' hr⟩
   ·split at h
    ·rename_i b s1 s2 hsp;obtain⟨t,h1,h2⟩:=AH _ hsp;cases b with
     |true=>exact⟨s1,h,AL (cx:={cx with gs:=[(t,true)]}) (fun o ho=>by rw[Fe];exact hs' o ho) h1⟩
     |false=>exact⟨s2,h,AL (cx:={cx with gs:=[(t,false)]}) (fun o ho=>by rw[Fe];exact hs' o ho) h2⟩
    ·rw[aO (ig.2 hs')]at h;split at h
     ·rename_i T hT;obtain⟨s,hq,hk⟩:=gn.AI _ (AK (Q:=fun s'=>Quiet st s' (writes (.region id ops draw))) (fun gs s' hr=>AL (cx:={cx with gs:=gs}) (fun o ho=>by rw[Fe];exact hs' o ho) hr) 4 [] T hT) h;exact⟨s,hk,hq⟩
     ·cases h
 |.seq a b,hs,R,st,k,r,h=>by
   simp only[simple,bz]at hs;simp only[fw]at h;obtain⟨s1,h1,q1⟩:=vk a hs.1 st _ r h;obtain⟨s2,h2,q2⟩:=vk b hs.2 s1 k r h1;exact⟨s2,h2,(q1.more fun d hd=>by simp[writes,hd]).trans (q2.more fun d hd=>by simp[writes,hd])⟩
 |.cond c a b,hs,R,st,k,r,h=>by
   have hs':=hs;simp only[simple,bz]at hs;simp only[fw]at h;split at h
   ·rename_i t ht;rw[aO (by simp[hs.1,hs.2])]at h;split at h
    ·rename_i sa sb ha hb;refine⟨_,h,?_⟩;obtain⟨s1,g1,q1⟩:=vk a hs.1 st _ sa ha;obtain⟨s2,g2,q2⟩:=vk b hs.2 st _ sb hb;simp only[uS,aj]at g1 g2;subst g1;subst g2;have hlen:∀(wr:List Nat)(l s t':List (AV K))(n:Nat),s.length=l.length->t'.length=l.length->(iP t wr n l s t').length=l.length:=fun wr l=>by
      induction l with
      |nil=>intro s t' n h1 h2;simp at h1 h2;subst h1;subst h2;rfl
      |cons x l ih=>
       intro s t' n h1 h2;cases s with
       |nil=>simp at h1
       |cons y s=>
        cases t' with
        |nil=>simp at h2
        |cons z t'=>
         simp only[iP,dH];rw[ih s t' (n+1) (by simpa using h1) (by simpa using h2)]
     have hget:∀(wr:List Nat)(l s t':List (AV K))(n i:Nat),s.length=l.length->t'.length=l.length->n+i∉wr->(iP t wr n l s t')[i]?=l[i]?:=fun wr l=>by
      induction l with
      |nil=>intro s t' n i h1 h2 _;simp at h1 h2;subst h1;subst h2;rfl
      |cons x l ih=>
       intro s t' n i h1 h2 hni;cases s with
       |nil=>simp at h1
       |cons y s=>
        cases t' with
        |nil=>simp at h2
        |cons z t'=>
         simp only[iP];cases i with
         |zero=>simp only[Nat.add_zero]at hni;simp[hni]
         |succ i=>
          simp only[List.getElem?_cons_succ];exact ih s t' (n+1) i (by simpa using h1) (by simpa using h2) (by rw[iI,uE 1 i];exact hni)
     refine⟨rfl,hlen _ _ _ _ _ q1.len q2.len,fun i hi=>?_⟩;exact hget _ _ _ _ 0 i q1.len q2.len (by rw[fu];simpa [writes]using hi)
    ·cases h
   ·cases h
 |.block ..,hs,R,st,k,r,h=>by simp[simple]at hs
 |.loop ..,hs,R,st,k,r,h=>by simp[simple]at hs
 |.exit ..,hs,R,st,k,r,h=>by simp[simple]at hs
 |.ret,hs,R,st,k,r,h=>by simp[simple]at hs
 |.scope ..,hs,R,st,k,r,h=>by simp[simple]at hs
 |.rangeFunc ..,hs,R,st,k,r,h=>by simp[simple]at hs
 |.goto ..,hs,R,st,k,r,h=>by simp[simple]at hs
 |.label ..,hs,R,st,k,r,h=>by simp[simple]at hs
end Go.V
namespace Go.V
open Go
variable {K :cK}{ρ ρ':List Value}{S S':Nat->Prop}{w w':World}{H H':List (Ob K)}
def b9(cx:Cx K)(c:Code)(L:bZ K):Prop:=
 ∀(vals:List (AV K))(Hi:List (Ob K))(R:Type)(k:Ex->List (AV K)->List (Ob K)->Option R)(r:R),L.run vals Hi k=some r->
  ∃e vs Ho,k e vs Ho=some r/\Tr cx Hi.length (.loop c) ⟨d4 (List.replicate L.n .any) L.ins vals,Hi,true⟩ e ⟨d4 (List.replicate L.n .any) L.outs vs,Ho,true⟩
def gp(cx:Cx K):Code->Prop
 |.loop c=>∀L,cx.loop (keyOf c)=some L->b9 cx c L
 |.seq a b=>gp cx a/\gp cx b
 |.cond _ a b=>gp cx a/\gp cx b
 |.block _ c=>gp cx c
 |_=>True
theorem XU:∀(b:Bool)(x y:AV K),(merge b x y).iJ=false:=by
 intro b x y;cases x<;>cases y<;>simp only[merge]<;>(try split)<;>rfl
theorem Ff{t:Bool}{wr:List Nat}:∀(l s s':List (AV K))(n i:Nat)(v:AV K),(iP t wr n l s s')[i]?=some v->
 (n+i∉wr/\l[i]?=some v)\/∃x y,s[i]?=some x/\s'[i]?=some y/\v=merge t x y
 |[],s,s',n,i,v,h=>by simp[iP]at h
 |x::l,[],s',n,i,v,h=>by simp[iP]at h
 |x::l,y::s,[],n,i,v,h=>by simp[iP]at h
 |x::l,y::s,z::s',n,0,v,h=>by
  simp only[iP,List.getElem?_cons_zero,aj]at h;subst h;by_cases hc:n∈wr
  ·exact .inr ⟨y,z,rfl,rfl,by simp[hc]⟩
  ·exact .inl ⟨hc,by simp[hc]⟩
 |x::l,y::s,z::s',n,i+1,v,h=>by
  simp only[iP,List.getElem?_cons_succ]at h;rcases Ff l s s' (n+1) i v h with⟨h1,h2⟩|⟨a,b,h1,h2,h3⟩
  ·exact .inl ⟨by rw[uE i 1,<-iI];exact h1,by simpa using h2⟩
  ·exact .inr ⟨a,b,by simpa using h1,by simpa using h2,h3⟩
theorem K8{t:Bool}{wr:List Nat}:∀(l s s':List (AV K))(n:Nat),s.length=l.length->s'.length=l.length->(iP t wr n l s s').length=l.length
 |[],s,s',n,h1,h2=>by cases s<;>cases s'<;>simp[iP]
 |x::l,[],s',n,h1,h2=>by simp at h1
 |x::l,y::s,[],n,h1,h2=>by simp at h2
 |x::l,y::s,z::s',n,h1,h2=>by
  simp only[iP,dH];rw[K8 l s s' (n+1) (by simpa using h1) (by simpa using h2)]
theorem eJ.rep{D:bg K}{tm:List (AV K)}{tmps:Array Value}(h:eJ D ρ S w tm tmps)(h0:dr tm){t:Nat}{v:AV K}{x:Value}(hv:tm[t]?=some v)(hx:tmps[t]?=some x):Rep D ρ S w v x:=by
 have:=h.ok t v x hv hx;cases v with
 |opt g b y=>exact absurd hv (h0 t g b y)
 |_=>exact this
theorem XV{D:bg K}{t:Bool}{wr:List Nat}{l sa sb:List (AV K)}{tmps:Array Value}(hab:dr (cond t sa sb))(la:sa.length=l.length)(lb:sb.length=l.length)(ra:∀t,t∉wr->sa[t]?=l[t]?)(rb:∀t,t∉wr->sb[t]?=l[t]?)
 (h:eJ D ρ S w (cond t sa sb) tmps):eJ D ρ S w (iP t wr 0 l sa sb) tmps:=by
 refine⟨by rw[K8 _ _ _ _ la lb,<-h.len];cases t<;>simp[la,lb],fun i v x hv hx=>?_⟩;rcases Ff l sa sb 0 i v hv with⟨h1,h2⟩|⟨a,b,h1,h2,rfl⟩
 ·rw[fu]at h1;refine .jz ?_;cases t
  ·exact h.rep hab (by rw[ar,rb i h1];exact h2) hx
  ·exact h.rep hab (by rw[af,ra i h1];exact h2) hx
 ·refine .jz (JH (fun e=>?_) fun e=>?_)
  ·subst e;exact h.rep hab h1 hx
  ·subst e;exact h.rep hab h2 hx
theorem XW{t:Bool}{wr:List Nat}{l sa sb:List (AV K)}(h0:dr l):dr (iP t wr 0 l sa sb):=fun i g b v e=>by
 rcases Ff l sa sb 0 i _ e with⟨-,h2⟩|⟨x,y,-,-,h3⟩
 ·exact h0 i g b v h2
 ·have:=XU t x y;rw[<-h3]at this;simp[AV.iJ]at this
theorem sj:∀(ds:List Nat)(vs tm:List (AV K)),(d4 tm ds vs).length=tm.length
 |[],vs,tm=>by simp[d4]
 |d::r,[],tm=>by simp[d4]
 |d::r,v::vs,tm=>by simp only[d4];rw[sj r vs];simp
theorem vl:∀(ds:List Nat)(vs tm:List (AV K))(t:Nat)(v:AV K),(d4 tm ds vs)[t]?=some v->tm[t]?=some v\/∃i:Nat,ds[i]?=some t/\vs[i]?=some v
 |[],vs,tm,t,v,h=>.inl (by simpa [d4]using h)
 |d::r,[],tm,t,v,h=>.inl (by simpa [d4]using h)
 |d::r,x::vs,tm,t,v,h=>by
  simp only[d4]at h;rcases vl r vs _ t v h with h1|⟨i,h1,h2⟩
  ·rcases eB h1 with⟨rfl,rfl,-⟩|⟨-,h1⟩
   ·exact .inr ⟨0,rfl,rfl⟩
   ·exact .inl h1
  ·exact .inr ⟨i+1,by simpa using h1,by simpa using h2⟩
theorem K9{p:AV K->AV K->Prop}:∀(ds:List Nat)(vs vs' tm tm':List (AV K)),vs.length=vs'.length->tm.length=tm'.length->(∀(i:Nat) v v',vs[i]?=some v->vs'[i]?=some v'->p v v')->(∀(t:Nat) v v',tm[t]?=some v->tm'[t]?=some v'->p v v')->
 ∀(t:Nat) v v',(d4 tm ds vs)[t]?=some v->(d4 tm' ds vs')[t]?=some v'->p v v'
 |[],vs,vs',tm,tm',h1,h2,h3,h4,t,v,v',g1,g2=>h4 t v v' (by simpa [d4]using g1) (by simpa [d4]using g2)
 |d::r,[],[],tm,tm',h1,h2,h3,h4,t,v,v',g1,g2=>h4 t v v' (by simpa [d4]using g1) (by simpa [d4]using g2)
 |d::r,[],_::_,tm,tm',h1,h2,h3,h4,t,v,v',g1,g2=>by simp at h1
 |d::r,_::_,[],tm,tm',h1,h2,h3,h4,t,v,v',g1,g2=>by simp at h1
 |d::r,x::vs,x'::vs',tm,tm',h1,h2,h3,h4,t,v,v',g1,g2=>by
  simp only[d4]at g1 g2;refine K9 r vs vs' _ _ (by simpa using h1) (by simpa using h2) (fun i a b ha hb=>h3 (i+1) a b (by simpa using ha) (by simpa using hb)) (fun k a b ha hb=>?_) t v v' g1 g2;rcases eB ha with⟨rfl,rfl,-⟩|⟨hne,ha⟩
  ·rcases eB hb with⟨-,rfl,-⟩|⟨hne,-⟩
   ·exact h3 0 _ _ rfl rfl
   ·exact absurd rfl hne
  ·rcases eB hb with⟨rfl,-⟩|⟨-,hb⟩
   ·exact absurd rfl hne
   ·exact h4 k a b ha hb
theorem sk{f:Nat->Option Nat}:∀(l l':List (AV K)),iL f l=some l'->l'.length=l.length/\∀(i:Nat) v',l'[i]?=some v'->∃v,l[i]?=some v/\eZ f v=some v'
 |[],l',h=>by simp[iL]at h;subst h;simp
 |x::l,l',h=>by
  simp only[iL]at h;split at h
  ·rename_i y m h1 h2;simp only[aj]at h;subst h;obtain⟨g1,g2⟩:=sk l m h2;refine⟨by simp[g1],fun i v' hi=>?_⟩;cases i with
   |zero=>simp at hi;subst hi;exact⟨x,rfl,h1⟩
   |succ i=>simp at hi;obtain⟨v,q1,q2⟩:=g2 i v' hi;exact⟨v,by simpa using q1,q2⟩
  ·cases h
theorem XX{f:Nat->Option Nat}{v v':AV K}(h:eZ f v=some v'):v'.iJ=false:=by
 cases v<;>simp only[eZ,eN,aj]at h<;>first
  |(subst h;rfl)
  |(obtain⟨a,-,rfl⟩:=h;rfl)
  |cases h
theorem La{n:Nat}{ds:List Nat}{l l':List (AV K)}{f:Nat->Option Nat}(h:iL f l=some l'):dr (d4 (List.replicate n .any) ds l'):=fun t g b v e=>by
 rcases vl ds l' _ t _ e with h1|⟨i,-,h2⟩
 ·rw[iF]at h1;split at h1<;>cases h1
 ·obtain⟨v0,-,q⟩:=(sk l l' h).2 i _ h2;have:=XX q;simp[AV.iJ]at this
theorem Fg{D:bg K}{n:Nat}{ds:List Nat}{vs:List (AV K)}{tmps:Array Value}(hn:tmps.size=n)(h:∀(i t:Nat) v x,ds[i]?=some t->vs[i]?=some v->tmps[t]?=some x->Rep D ρ S w v x):eJ D ρ S w (d4 (List.replicate n .any) ds vs) tmps:=
 ⟨by rw[sj];simp[hn],fun t v x hv hx=>.jz (by
   rcases vl ds vs _ t v hv with h1|⟨i,h1,h2⟩
   ·rw[iF]at h1;split at h1
    ·simp at h1;subst h1;exact .any x
    ·cases h1
   ·exact h i t v x h1 h2 hx)⟩
theorem Lc{cx:Cx K}(hD:bu cx.D){c:Code}{L:bZ K}{n0:Nat}{st st':St K}{m:List Nat}{vals vs:List (AV K)}{Hi Ho:List (Ob K)}{e:Ex}(hn:st.tm.length=L.n)(h0:dr st.tm)
 (hin:inLoop st.H (L.ins.map fun t=>st.tm.getD t .any)=some (m,vals,Hi)) (hout:zR L m st vs Ho=some st')
 (htr:Tr cx Hi.length (.loop c) ⟨d4 (List.replicate L.n .any) L.ins vals,Hi,true⟩ e ⟨d4 (List.replicate L.n .any) L.outs vs,Ho,true⟩):dr st'.tm/\Tr cx n0 (.loop c) st e st':=by
 unfold inLoop at hin;split at hin
 ·rename_i hp;split at hin
  ·rename_i jV XY hv hH;simp only[aj,aF]at hin;obtain⟨rfl,rfl,rfl⟩:=hin;unfold zR at hout;split at hout
   ·rename_i vs' gm hvs Et;split at hout
    ·rename_i hle;simp only[aj]at hout;subst hout;refine⟨La hvs,fun ρ S a w hn0 bn=>?_⟩;obtain⟨s1,s2,s3,s4⟩:=JK hD bn.heap hp hH;have hrs:=Eo (ρ:=ρ) (m:=reach st.H 64 (bD (L.ins.map fun t=>st.tm.getD t .any)) []) (fun i h hi=>by rw[bn.heap.len];exact(xi _ hp).1 i h hi);have hsize:a.tmps.size=L.n:=by rw[<-hn,bn.slots.len]
     have fa:Sat cx (qo ρ (reach st.H 64 (bD (L.ins.map fun t=>st.tm.getD t .any)) [])) S a w ⟨d4 (List.replicate L.n .any) L.ins jV,XY,true⟩:=⟨s1,Fg hsize fun i t v x g1 g2 g3=>by
      obtain⟨v0,q1,q2⟩:=(sk _ _ hv).2 i v g2;simp only[gP,g1,gk,aj]at q1;subst q1;refine qm hD s4 _ v x q2 ?_;rw[fB];cases hg:st.tm[t]? with
      |none=>exact .any x
      |some v1=>exact bn.slots.rep h0 hg g3,bn.defers⟩
     refine wp_mono (htr _ S a w (bH _) fa) fun e' a' w'=>?_
     rintro ⟨he,XZ,ρo,So,hso,hst⟩
     obtain⟨j1,j2,j3⟩:=join hD bn.heap hp hrs s2 s3 s1 hso.heap hst XZ Et;refine⟨he,?_,_,So,⟨j1,?_,hso.defers⟩,j2.weaken hn0⟩
     ·have:=j2.grow bn.heap j1 (bH _);dsimp only at this⊢;omega
     ·refine⟨by rw[sj];have:=hso.slots.len;rw[sj]at this;exact this,fun t v x hv' hx=>?_⟩;have hlt:t<(d4 (List.replicate L.n .any) L.outs vs).length:=by
       have:=(bM.1 hv').1;rw[sj]at this⊢;exact this
      have hg:=bY hlt;have hrep:ez cx.D ρo So w' a'.tmps _ x:=hso.slots.ok t _ x hg hx;have hrel:=K9 (p:=fun v v'=>v'=.any\/eZ (fun h=>(fZ (reach st.H 64 (bD (L.ins.map fun t=>st.tm.getD t .any)) []) st.H.length Ho.length)[h]?) v=some v') L.outs vs vs' (List.replicate L.n .any) (List.replicate L.n .any)
       (sk _ _ hvs).1.symm rfl (fun i v v' h1 h2=>by
         obtain⟨v0,q1,q2⟩:=(sk _ _ hvs).2 i v' h2;rw[h1]at q1;simp at q1;subst q1;exact .inr q2) (fun t v v' h1 h2=>by
         rw[iF]at h2;split at h2
         ·simp at h2;exact .inl h2.symm
         ·cases h2) t _ v hg hv'
      rcases hrel with rfl|hrel
      ·exact .jz (.any x)
      ·refine .jz (qm hD j3 _ v x hrel ?_);generalize (d4 (List.replicate L.n .any) L.outs vs)[t]=y at hrep hrel;cases y with
       |opt=>simp[eZ]at hrel
       |_=>exact hrep
    ·cases hout
   ·cases hout
  ·cases hin
 ·cases hin
theorem nr{cx:Cx K}(hD:bu cx.D)(hc:aZ cx)(hm:cx.P.follows .mixedOrders=true):∀(c:Code),gp cx c->∀{R:Type}(st:St K)(k:Ex->St K->Option R)(r:R),fw cx c st k=some r->
 ∃e st',k e st'=some r/\(st'.ok=true->st.ok=true)/\(st'.ok=true->dr st.tm->dr st'.tm/\∀n0,Tr cx n0 c st e st')
 |.skip,_,R,st,k,r,h=>⟨.normal,st,h,id,fun _ h0=>⟨h0,fun n0 ρ S a w hn bn=>wp_skip ⟨rfl,hn,ρ,S,bn,Step.refl⟩⟩⟩
 |.exit id,_,R,st,k,r,h=>⟨.exit id,st,h,fun h=>h,fun _ h0=>⟨h0,fun n0 ρ S a w hn bn=>wp_exit ⟨rfl,hn,ρ,S,bn,Step.refl⟩⟩⟩
 |.ret,_,R,st,k,r,h=>⟨.ret,st,h,fun h=>h,fun _ h0=>⟨h0,fun n0 ρ S a w hn bn=>wp_ret ⟨rfl,hn,ρ,S,bn,Step.refl⟩⟩⟩
 |.region id ops draw,_,R,st,k,r,h=>by
   simp only[fw]at h;split at h
   ·rename_i st' hr;have:=fun n0=>vj (id:=id) (n0:=n0) hD hc hm hr
    exact⟨.normal,st',h,(this 0).1,fun hok h0=>⟨((this 0).2 hok h0).1,fun n0=>((this n0).2 hok h0).2⟩⟩
   ·split at h
    ·rename_i b s1 s2 hsp;obtain⟨t,h1,h2⟩:=AH _ hsp;have key:∀(x:Bool)(s':St K),g9 {cx with gs:=[(t,x)]} ops.toList draw st=some s'->k .normal s'=some r->
      ∃e st',k e st'=some r/\(st'.ok=true->st.ok=true)/\(st'.ok=true->dr st.tm->dr st'.tm/\∀n0,Tr cx n0 (.region id ops draw) st e st'):=fun x s' hr hk=>by
      have:=fun n0=>vj (cx:={cx with gs:=[(t,x)]}) (id:=id) (n0:=n0) hD hc hm hr
      exact⟨.normal,s',hk,(this 0).1,fun hok h0=>⟨((this 0).2 hok h0).1,fun n0=>(((this n0).2 hok h0).2).gs⟩⟩
     cases b with
     |true=>exact key true s1 h1 h
     |false=>exact key false s2 h2 h
    ·split at h
     ·split at h
      ·rename_i T hT;obtain⟨s,⟨hq1,hq2⟩,hk⟩:=gn.AI (Q:=fun s'=>(s'.ok=true->st.ok=true)/\(s'.ok=true->dr st.tm->dr s'.tm/\∀n0,Tr cx n0 (.region id ops draw) st .normal s')) _ (AK (fun gs s' hr=>by
        have:=fun n0=>vj (cx:={cx with gs:=gs}) (id:=id) (n0:=n0) hD hc hm hr
        exact⟨(this 0).1,fun hok h0=>⟨((this 0).2 hok h0).1,fun n0=>(((this n0).2 hok h0).2).gs⟩⟩) 4 [] T hT) h
       exact⟨.normal,s,hk,hq1,hq2⟩
      ·cases h
     ·split at h
      ·rename_i s1 s2 h1 h2;have key:∀(x:Bool)(s':St K),g9 {cx with call:=cx.alt x,mode:=cx.oh x} ops.toList draw st=some s'->k .normal s'=some r->
        ∃e st',k e st'=some r/\(st'.ok=true->st.ok=true)/\(st'.ok=true->dr st.tm->dr st'.tm/\∀n0,Tr cx n0 (.region id ops draw) st e st'):=fun x s' hr hk=>by
        have:=fun n0=>vj (cx:={cx with call:=cx.alt x,mode:=cx.oh x}) (id:=id) (n0:=n0) hD ⟨hc.2.1 x,hc.2⟩ hm hr
        exact⟨.normal,s',hk,(this 0).1,fun hok h0=>⟨((this 0).2 hok h0).1,fun n0=>(((this n0).2 hok h0).2).call⟩⟩
       rcases hc.2.2 _ _ _ _ h with h|h
       ·exact key true s1 h1 h
       ·exact key false s2 h2 h
      ·split at h
       ·rename_i T hT;obtain⟨s,⟨hq1,hq2⟩,hk⟩:=gn.Fa (cx:=cx) (Q:=fun s'=>(s'.ok=true->st.ok=true)/\(s'.ok=true->dr st.tm->dr s'.tm/\∀n0,Tr cx n0 (.region id ops draw) st .normal s')) (fun a b r h=>hc.2.2 _ _ _ _ h) _ (Fb (fun gs s' hr=>by
         have:=fun n0=>vj (cx:={cx with gs:=gs}) (id:=id) (n0:=n0) hD hc hm hr
         exact⟨(this 0).1,fun hok h0=>⟨((this 0).2 hok h0).1,fun n0=>(((this n0).2 hok h0).2).gs⟩⟩) (fun x gs s' hr=>by
         have:=fun n0=>vj (cx:={cx with call:=cx.alt x,mode:=cx.oh x,gs:=gs}) (id:=id) (n0:=n0) hD ⟨hc.2.1 x,hc.2⟩ hm hr
         exact⟨(this 0).1,fun hok h0=>⟨((this 0).2 hok h0).1,fun n0=>Tr.call (Tr.gs (cx:={cx with call:=cx.alt x,mode:=cx.oh x}) (((this n0).2 hok h0).2))⟩⟩) 4 [] T hT) h
        exact⟨.normal,s,hk,hq1,hq2⟩
       ·cases h
 |.seq a b,hl,R,st,k,r,h=>by
   simp only[fw]at h;obtain⟨e1,s1,h1,ok1,t1⟩:=nr hD hc hm a hl.1 st _ r h;cases e1 with
   |normal=>
    obtain⟨e2,s2,h2,ok2,t2⟩:=nr hD hc hm b hl.2 s1 k r h1;refine⟨e2,s2,h2,fun hk=>ok1 (ok2 hk),fun hk h0=>?_⟩;obtain⟨n1,q1⟩:=t1 (ok2 hk) h0;obtain⟨n2,q2⟩:=t2 hk n1;refine⟨n2,fun n0 ρ S a' w hn bn=>wp_seq (wp_mono (q1 n0 ρ S a' w hn bn) ?_)⟩
    rintro e a2 w2 ⟨rfl,hn1,ρ1,S1,fa,hst1⟩
    refine wp_mono (q2 n0 ρ1 S1 a2 w2 hn1 fa) ?_
    rintro e a3 w3 ⟨rfl,hn2,ρ2,S2,xz,hst2⟩
    exact⟨rfl,hn2,ρ2,S2,xz,hst1.trans hst2⟩
   |exit id=>
    refine⟨.exit id,s1,h1,ok1,fun hk h0=>⟨(t1 hk h0).1,fun n0 ρ S a' w hn bn=>wp_seq (wp_mono ((t1 hk h0).2 n0 ρ S a' w hn bn) ?_)⟩⟩
    rintro e a2 w2 ⟨rfl,q⟩
    exact⟨rfl,q⟩
   |ret=>
    refine⟨.ret,s1,h1,ok1,fun hk h0=>⟨(t1 hk h0).1,fun n0 ρ S a' w hn bn=>wp_seq (wp_mono ((t1 hk h0).2 n0 ρ S a' w hn bn) ?_)⟩⟩
    rintro e a2 w2 ⟨rfl,q⟩
    exact⟨rfl,q⟩
 |.cond c a b,hl,R,st,k,r,h=>by
   simp only[fw]at h;split at h
   ·rename_i t ht;have hev:∀{ρ S a' w},Sat cx ρ S a' w st->a'.eval c=.bool t:=fun{ρ S a' w} bn=>by
     have:=Ak bn.slots (gs:=[]) (fun p hp=>by simp at hp) c;rw[ht]at this;generalize a'.eval c=y at this;cases this;rfl
    split at h
    ·rename_i hs;simp only[bz]at hs;split at h
     ·rename_i sa sb ha hb;obtain⟨s1,g1,q1⟩:=vk a hs.1 st _ sa ha;obtain⟨s2,g2,q2⟩:=vk b hs.2 st _ sb hb;simp only[uS,aj]at g1 g2;subst g1;subst g2;obtain⟨e1,s1',c1,ok1,t1⟩:=nr hD hc hm a hl.1 st _ s1 ha;obtain⟨e2,s2',c2,ok2,t2⟩:=nr hD hc hm b hl.2 st _ s2 hb;cases e1<;>simp only[uS,aj]at c1<;>try cases c1
      cases e2<;>simp only[uS,aj]at c2<;>try cases c2
      have hks:∀{x y:Bool},((x|| !t)&&(y||t))=true->(t=true->x=true)/\(t=false->y=true):=fun{x y} hk=>by
       cases t<;>simpa using hk
      refine⟨.normal,_,h,fun hk=>?_,fun hk h0=>⟨XW h0,fun n0 ρ S a' w hn bn=>wp_cond (hev bn) ?_⟩⟩
      ·cases ht':t
       ·exact ok2 ((hks hk).2 ht')
       ·exact ok1 ((hks hk).1 ht')
      ·have fin:∀e' a' w',(e'=Ex.normal.mf/\n0<=(cond t s1 s2).H.length/\∃ρ' S',Sat cx ρ' S' a' w' (cond t s1 s2)/\Step cx.D n0 ρ S st.H w ρ' S' (cond t s1 s2).H w')->dr (cond t s1.tm s2.tm)->
        (e'=Ex.normal.mf/\n0<=st.H.length/\∃ρ' S',Sat cx ρ' S' a' w' ⟨iP t (writes a++writes b) 0 st.tm s1.tm s2.tm,st.H,(s1.ok|| !t)&&(s2.ok||t)⟩/\Step cx.D n0 ρ S st.H w ρ' S' st.H w'):=by
        rintro e' a2 w2 ⟨he,hn1,ρ1,S1,fa,hst1⟩ hno
        have hH:(cond t s1 s2).H=st.H:=by cases t;exact q2.H;exact q1.H
        rw[hH]at hn1 hst1;refine⟨he,hn1,ρ1,S1,⟨by have:=fa.heap;rw[hH]at this;exact this,?_,fa.defers⟩,hst1⟩;exact XV hno q1.len q2.len (fun i hi=>q1.rest i fun h'=>hi (by simp[h'])) (fun i hi=>q2.rest i fun h'=>hi (by simp[h'])) (by have:=fa.slots;cases t<;>exact this)
       cases ht':t<;>rw[ht']at fin
       ·obtain⟨n2,r2⟩:=t2 ((hks hk).2 ht') h0;exact wp_mono (r2 n0 ρ S a' w hn bn) fun e' a2 w2 q=>fin e' a2 w2 q n2
       ·obtain⟨n1,r1⟩:=t1 ((hks hk).1 ht') h0;exact wp_mono (r1 n0 ρ S a' w hn bn) fun e' a2 w2 q=>fin e' a2 w2 q n1
     ·cases h
    ·cases t
     ·obtain⟨e,s,h1,ok1,t1⟩:=nr hD hc hm b hl.2 st k r h;exact⟨e,s,h1,ok1,fun hk h0=>⟨(t1 hk h0).1,fun n0 ρ S a' w hn bn=>wp_cond (hev bn) ((t1 hk h0).2 n0 ρ S a' w hn bn)⟩⟩
     ·obtain⟨e,s,h1,ok1,t1⟩:=nr hD hc hm a hl.1 st k r h;exact⟨e,s,h1,ok1,fun hk h0=>⟨(t1 hk h0).1,fun n0 ρ S a' w hn bn=>wp_cond (hev bn) ((t1 hk h0).2 n0 ρ S a' w hn bn)⟩⟩
   ·cases h
 |.block id c,hl,R,st,k,r,h=>by
   simp only[fw]at h;obtain⟨e1,s1,h1,ok1,t1⟩:=nr hD hc hm c hl st _ r h;cases e1 with
   |normal=>
    refine⟨.normal,s1,h1,ok1,fun hk h0=>⟨(t1 hk h0).1,fun n0 ρ S a' w hn bn=>wp_block (wp_mono ((t1 hk h0).2 n0 ρ S a' w hn bn) ?_)⟩⟩
    rintro e a2 w2 ⟨rfl,q⟩
    exact⟨rfl,q⟩
   |ret=>
    refine⟨.ret,s1,h1,ok1,fun hk h0=>⟨(t1 hk h0).1,fun n0 ρ S a' w hn bn=>wp_block (wp_mono ((t1 hk h0).2 n0 ρ S a' w hn bn) ?_)⟩⟩
    rintro e a2 w2 ⟨rfl,q⟩
    exact⟨rfl,q⟩
   |exit i=>
    dsimp only at h1;split at h1
    ·rename_i hid;refine⟨.normal,s1,h1,ok1,fun hk h0=>⟨(t1 hk h0).1,fun n0 ρ S a' w hn bn=>wp_block (wp_mono ((t1 hk h0).2 n0 ρ S a' w hn bn) ?_)⟩⟩
     rintro e a2 w2 ⟨rfl,q⟩
     subst hid;show(if i=i then _ else _)
     rw[aO rfl];exact⟨rfl,q⟩
    ·rename_i hid;refine⟨.exit i,s1,h1,ok1,fun hk h0=>⟨(t1 hk h0).1,fun n0 ρ S a' w hn bn=>wp_block (wp_mono ((t1 hk h0).2 n0 ρ S a' w hn bn) ?_)⟩⟩
     rintro e a2 w2 ⟨rfl,q⟩
     show(if i=id then _ else _)
     rw[aX hid];exact⟨rfl,q⟩
 |.loop c,hl,R,st,k,r,h=>by
   simp only[fw]at h;split at h
   ·rename_i L hL;split at h
    ·rename_i hn;split at h
     ·rename_i m vals Hi hin;obtain⟨e,vs,Ho,h1,htr⟩:=hl L hL vals Hi R _ r h;split at h1
      ·rename_i st' hout;refine⟨e,st',h1,?_,fun hk h0=>?_⟩
       ·unfold zR at hout;split at hout
        ·split at hout
         ·simp only[aj]at hout;subst hout;exact id
         ·cases hout
        ·cases hout
       ·exact⟨(Lc (n0:=0) hD hn h0 hin hout htr).1,fun n0=>(Lc (n0:=n0) hD hn h0 hin hout htr).2⟩
      ·cases h1
     ·cases h
    ·cases h
   ·cases h
 |.scope ..,_,R,st,k,r,h=>by simp[fw]at h
 |.rangeFunc ..,_,R,st,k,r,h=>by simp[fw]at h
 |.goto ..,_,R,st,k,r,h=>by simp[fw]at h
 |.label ..,_,R,st,k,r,h=>by simp[fw]at h
 |.refuse ..,_,R,st,k,r,h=>by simp[fw]at h
end Go.V
