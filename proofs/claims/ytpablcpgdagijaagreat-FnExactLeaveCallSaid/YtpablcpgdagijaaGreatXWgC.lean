/-
  ONE OPERATION IN ITS FRAME; A REGION IN THE ORDER OF THE TEXT.
-/
import Derived.Test.YtpablcpgdagijaaGreatXWgB
set_option linter.unusedVariables false
namespace Go.V
open Go
variable {K :bL}{ρ ρ':List Value}{S S':Nat->Prop}{w w':World}{H H':List (Ob K)}
theorem Dh{D:aT K}{P:Program}{o:Oper}{a:Act}{v:AV K}(h:Does D P ρ S H w (execOp a.eval o) v H'){k:Act->World->Prop}{Q:Exit->Act->World->Prop}
 (hk:∀u ρ' S' w',aD D ρ' S' w' H'->Rep D ρ' S' w' v u->Step D H.length ρ S H w ρ' S' H' w'->k (a.put o.dst u) w'):o.wp P a w k Q:=by
 obtain⟨n,u,w',ρ',h1,h2,h3,h4,h5⟩:=h;unfold Oper.wp;rw[h1];rcases h2 with rfl|⟨rfl,rfl⟩
 ·exact hk u ρ' S w' h3 h4 h5
 ·exact hk _ ρ' S w' h3 h4 h5
theorem Di{q:Bool}{cx:Cx K}(hD:aX cx.D)(hc:aE cx)(hs:aD cx.D ρ S w H){a:Act}{tm:List (AV K)}(hsl:cF cx.D ρ S w tm a.tmps){gs:List (Nat×Bool)}(hg:∀p∈gs,a.tmps[p.1]?=some (.bool p.2)){o:Oper}{v:AV K}{c:Bool}{t:List Nat}
 (h:dV q cx tm gs H o.type o.op=some (v,H',c,t)) (hc1:c=true) {k:Act->World->Prop} {Q:Exit->Act->World->Prop}
 (hk:∀u ρ' S' w',aD cx.D ρ' S' w' H'->Rep cx.D ρ' S' w' v u->Step cx.D H.length ρ S H w ρ' S' H' w'->k (a.put o.dst u) w'):o.wp cx.P a w k Q:=by
 have hev:=xm hsl hg;unfold dV at h;split at h
 ·
  rename_i cnd x y hop;have key:∀(b:Bool)(gx gy:List (Nat×Bool)),a.eval cnd=.bool b->(b=true->∀p∈gx,a.tmps[p.1]?=some (.bool p.2))->(b=false->∀p∈gy,a.tmps[p.1]?=some (.bool p.2))->v=merge b (ca tm gx x) (ca tm gy y)->H'=H->o.wp cx.P a w k Q:=by
   intro b gx gy hb h1 h2 hv hH;subst hH;unfold Oper.wp execOp;rw[hop];dsimp only;have:(do pure (.value (if<-asBool (a.eval cnd)then a.eval x else a.eval y)):Sem Next).run cx.P w=.ok (.value (if b then a.eval x else a.eval y)) w:=by rw[hb];simp[asBool]
   rw[this];refine hk _ ρ S w hs ?_ Step.refl;rw[hv];refine Oy (fun e=>?_) (fun e=>?_)
   ·subst e;exact xm hsl (h1 rfl) x
   ·subst e;exact xm hsl (h2 rfl) y
  split at h
  ·rename_i tt b hcv;have hb:=hev (.tmp tt);rw[hcv]at hb;have hb':=eP hb;split at h
   ·rename_i b0 _;simp only[Option.some.injEq,Prod.mk.injEq]at h;obtain⟨hv,hH,hcc,-⟩:=h;rw[hc1]at hcc;have hbb:b=b0:=by simpa using hcc
    subst hbb;subst hH;unfold Oper.wp execOp;rw[hop];dsimp only;have:(do pure (.value (if<-asBool (a.eval (.tmp tt))then a.eval x else a.eval y)):Sem Next).run cx.P w=.ok (.value (if b then a.eval x else a.eval y)) w:=by rw[hb'];simp[asBool]
    rw[this];refine hk _ ρ S w hs ?_ Step.refl;rw[<-hv];cases b
    ·exact hev y
    ·exact hev x
   simp only[Option.some.injEq,Prod.mk.injEq]at h;obtain⟨hv,hH,-,-⟩:=h;have hget:a.tmps[tt]?=some (.bool b):=by
    simp only[Act.eval,Array.getD_eq_getD_getElem?]at hb';cases hh:a.tmps[tt]? with
    |none=>rw[hh]at hb';simp[undef]at hb'
    |some z=>rw[hh]at hb';simp at hb';rw[hb']
   exact key b _ _ hb' (fun e p hp=>by subst e;rcases List.mem_cons.1 hp with rfl|hp;exact hget;exact hg p hp) (fun e p hp=>by subst e;rcases List.mem_cons.1 hp with rfl|hp;exact hget;exact hg p hp) hv.symm hH.symm
  ·rename_i cv b hcv;simp only[Option.some.injEq,Prod.mk.injEq]at h;obtain⟨hv,hH,-,-⟩:=h;have hb:=hev (.const cv);rw[hcv]at hb;exact key b _ _ (eP hb) (fun _=>hg) (fun _=>hg) hv.symm hH.symm
  ·cases h
 ·
  rename_i f args ats hop;have hf:=hev f;split at h
  ·rename_i g caps hfv;have hcall:=h;rw[hc1]at hcall
   ·skip
    rw[hfv]at hf;generalize hF:a.eval f=F at hf;cases hf with
    |fn hl hr=>
     rename_i cs;have hargs:=(N3 (fun x=>ji hs _ _ (hev x)) args.toList).append (⟨hl,hr⟩:aI cx.D ρ S w caps cs);obtain⟨⟨fn,hfn,hname,hbody⟩,gG⟩:=aca hD hc hs hcall hargs;unfold Oper.wp execOp;rw[hop];dsimp only;have hrun:(do let d<-resolve a.eval {callee:=.value f,args:=args,argTypes:=ats} o.type;invoke d.target d.args:Sem Next).run cx.P w=.ok (.enter g (args.toList.map a.eval++cs).toArray) w:=by
      simp only[resolve,hF,Deferred.ofValue,Sem.run_bind,Sem.run_pure,Result.andThen_ok,invoke,callFunc,run_program];rw[hfn];simp only[hname,hbody,Bool.false_eq_true,if_false,Sem.run_pure];congr 2;apply Array.ext';simp
     rw[hrun,Oper.upon_enter];refine gG.mono ?_
     rintro e w' ⟨u,ρ',S',rfl,h1,h2,h3⟩
     exact hk u ρ' S' w' h1 h2 h3
  ·cases h
 ·
  rename_i x hop;have hrun:∀(v':AV K),Rep cx.D ρ S w v' (a.eval x)->v=v'->H'=H->o.wp cx.P a w k Q:=fun v' h1 h2 h3=>by
   subst h2;subst h3;unfold Oper.wp execOp;rw[hop];exact hk _ ρ S w hs h1 Step.refl
  split at h
  ·rename_i hq;split at h
   ·split at h
    ·rename_i c _;simp only[Option.some.injEq,Prod.mk.injEq]at h;obtain⟨rfl,rfl,rfl,rfl⟩:=h;simp only[Bool.and_eq_true]at hq;have hx:x=.const (.slice none 0 0):=by
      have:=hq.2;unfold BZ at this;split at this
      ·rfl
      ·cases this
     obtain⟨n1,n2⟩:=Cb hs c (cx.deep c);unfold Oper.wp execOp;rw[hop,hx];exact hk (Value.slice none 0 0) _ S w n1 (.sl (by rw[List.getElem?_append_right (by rw[hs.len];exact Nat.le_refl _)];simp[hs.len])) n2
    ·simp only[Option.some.injEq,Prod.mk.injEq]at h;exact hrun _ (hev x) h.1.symm h.2.1.symm
   ·simp only[Option.some.injEq,Prod.mk.injEq]at h;exact hrun _ (hev x) h.1.symm h.2.1.symm
  ·simp only[Option.some.injEq,Prod.mk.injEq]at h;exact hrun _ (ji hs _ _ (hev x)) h.1.symm h.2.1.symm
 ·split at h
  ·rename_i v1 c1 hp;simp only[Option.some.injEq,Prod.mk.injEq]at h;obtain⟨rfl,rfl,rfl,rfl⟩:=h;obtain⟨u,hu,hr⟩:=N4 hD hs (fun x=>ji hs _ _ (hev x)) hp hc1;unfold Oper.wp;rw[hu];exact hk u ρ S w hs hr Step.refl
  ·split at h
   ·obtain⟨rfl,u,w1,S1,g1,g2,g3,g4⟩:=abO hD hs (fun x=>ji hs _ _ (hev x)) h hc1;unfold Oper.wp;rw[g1];exact hk u ρ S1 w1 g2 g3 g4
   ·split at h
    ·cases h
    split at h
    ·rename_i hov;simp only[Option.some.injEq]at h;rw[h]at hov;exact Dh (ab8 hD hs hev hov) fun u ρ' S' w' a1 a2 a3=>hk u ρ' S' w' a1 a2 a3
    split at h
    ·rename_i hct;simp only[Option.some.injEq]at h;rw[h]at hct;exact Dh (abN hs hev hct hc1) fun u ρ' S' w' a1 a2 a3=>hk u ρ' S' w' a1 a2 a3
    ·obtain⟨S1,H1,g1,g2,g3⟩:=ab5 hD hs hev h hc1;refine Dh g3 fun u ρ' S' w' a1 a2 a3=>hk u ρ' S' w' a1 a2 ?_
     rw[g2]at a3;exact g1.trans a3
theorem Dj{cx:Cx K}{f:FuncId}{args:List (AV K)}{v:AV K}{c:Bool}{t:List Nat}(hcall:fP cx .plain H f args=some (v,H',c,t)):H'=H:=by
 unfold fP at hcall;dsimp only at hcall;split at hcall
 ·split at hcall
  ·split at hcall
   ·simp only[Option.some.injEq,Prod.mk.injEq]at hcall;exact hcall.2.1.symm
   ·cases hcall
  ·cases hcall
 ·cases hcall
theorem acb{cx:Cx K}{ev:Operand->AV K}{op:Op}{v:AV K}{c:Bool}{t:List Nat}(h:nG cx ev H op=some (v,H',c,t)):H'=H:=by
 unfold nG at h;split at h
 ·split at h
  ·cases h
  ·split at h
   ·split at h
    ·split at h
     ·simp only[Option.some.injEq,Prod.mk.injEq]at h;exact h.2.1.symm
     ·cases h
    ·cases h
   ·cases h
 ·cases h
theorem oa{cx:Cx K}{tm:List (AV K)}{gs:List (Nat×Bool)}{T:TypeId}{op:Op}{v:AV K}{c:Bool}{t:List Nat}(h:dV true cx tm gs H T op=some (v,H',c,t)):H'=H:=by
 unfold dV at h;split at h
 ·split at h
  ·split at h
   ·simp only[Option.some.injEq,Prod.mk.injEq]at h;exact h.2.1.symm
   ·simp only[Option.some.injEq,Prod.mk.injEq]at h;exact h.2.1.symm
  ·simp only[Option.some.injEq,Prod.mk.injEq]at h;exact h.2.1.symm
  ·cases h
 ·split at h
  ·unfold rH at h;simp only[Bool.not_true,Bool.and_false,Bool.false_eq_true,if_false]at h;unfold jP at h;split at h
   ·exact Dj h
   ·split at h
    ·rename_i r hr;simp only[Option.some.injEq]at h;subst h;exact Dj hr
    ·simp at h
   all_goals simp at h
  ·cases h
 ·simp only[Bool.not_true,Bool.false_and,Bool.false_eq_true,if_false,Option.some.injEq,Prod.mk.injEq]at h;exact h.2.1.symm
 ·split at h
  ·simp only[Option.some.injEq,Prod.mk.injEq]at h;exact h.2.1.symm
  ·simp only[if_true]at h;exact acb h
theorem OR{q:Bool}{cx:Cx K}{tm:List (AV K)}{gs:List (Nat×Bool)}{T:TypeId}{op:Op}{v:AV K}{c:Bool}{t:List Nat}(hs:dO cx op=true)(h:dV q cx tm gs H T op=some (v,H',c,t)):H'=H:=by
 cases q with
 |true=>exact oa h
 |false=>
 unfold dV at h;split at h
 ·split at h
  ·split at h
   ·simp only[Option.some.injEq,Prod.mk.injEq]at h;exact h.2.1.symm
   ·simp only[Option.some.injEq,Prod.mk.injEq]at h;exact h.2.1.symm
  ·simp only[Option.some.injEq,Prod.mk.injEq]at h;exact h.2.1.symm
  ·cases h
 ·rename_i f args ats;cases f<;>simp only[dO]at hs<;>try (cases hs;done)
  rename_i g;simp only[ca]at h;have hm:cx.mode g=.plain/\(cx.opn=false\/cx.lz=true):=by simpa using hs
  unfold rH at h;have Dk:(cx.opn&& !cx.lz&& !false)=false:=by rcases hm.2 with e|e<;>simp[e]
  rw[Dk]at h;simp only[Bool.false_eq_true,if_false]at h
  replace hm:=hm.1
  unfold jP at h;rw[hm]at h;exact Dj h
 ·simp only[dO,Bool.not_eq_true']at hs;rw[hs]at h;simp only[Bool.and_false,Bool.false_eq_true,if_false,Option.some.injEq,Prod.mk.injEq]at h;exact h.2.1.symm
 ·split at h
  ·simp only[Option.some.injEq,Prod.mk.injEq]at h;exact h.2.1.symm
  ·rw[hs]at h;simp at h
end Go.V
namespace Go.V
open Go
variable {K :bL}{ρ ρ':List Value}{S S':Nat->Prop}{w w':World}{H H':List (Ob K)}
theorem xx{ops:List Oper}{o:Oper}{tmps:Array Value}{g:Nat}{wt:Bool}(h:guardOf ops o=some (some (g,wt))):
 Region.wanted o (yielded ops.toArray tmps)=true↔tmps[g]?=some (.bool wt):=by
 unfold guardOf at h;split at h
 ·cases h
 ·rename_i j w1 hgd;split at h
  ·rename_i og hog;split at h
   ·rename_i t ht;simp only[Option.some.injEq,Prod.mk.injEq]at h;obtain⟨rfl,rfl⟩:=h;have acd:ops.toArray[j]?=some og:=by simpa using hog
    simp only[Region.wanted,hgd,yielded,acd,Option.bind_some,ht];cases hv:tmps[t]? with
    |none=>simp
    |some z=>cases z<;>simp
   ·cases h
  ·cases h
theorem ace{ops:List Oper}{o:Oper}{y:Nat->Option Bool}(h:guardOf ops o=some none):Region.wanted o y=true:=by
 unfold guardOf at h;split at h
 ·rename_i hg;simp[Region.wanted,hg]
 ·split at h
  ·split at h<;>cases h
  ·cases h
theorem xy{q:Bool}{cx:Cx K}(hD:aX cx.D)(hc:aE cx)(hs:aD cx.D ρ S w H){a:Act}{tm:List (AV K)}(hsl:cF cx.D ρ S w tm a.tmps){ops:List Oper}{wr:List Nat}{o:Oper}{v:AV K}{c:Bool}
 (h:cD q cx ops tm H wr o=some (v,H',c)) (hc1:c=true) {k:Act->World->Prop} {Q:Exit->Act->World->Prop}
 (hk:∀u ρ' S' w',aD cx.D ρ' S' w' H'->cA cx.D ρ' S' w' a.tmps v u->Step cx.D H.length ρ S H w ρ' S' H' w'->k (a.put o.dst u) w'):
 if Region.wanted o (yielded ops.toArray a.tmps)then o.wp cx.P a w k Q else k (a.put o.dst undef) w:=by
 unfold cD at h;split at h
 ·cases h
 ·rename_i hgd;rw[if_pos (ace hgd)];split at h
  ·rename_i v1 H1 c1 t1 hy;split at h
   ·cases h
   simp only[Option.some.injEq,Prod.mk.injEq]at h;obtain⟨rfl,rfl,rfl⟩:=h;exact Di hD hc hs hsl (gs:=[]) (fun p hp=>by simp at hp) hy hc1 fun u ρ' S' w' h1 h2 h3=>hk u ρ' S' w' h1 (.dQ h2) h3
  ·cases h
 ·rename_i g wt hgd;split at h
  ·rename_i b0 hkn;split at h
   ·rename_i b u9;have hval:a.tmps[g]?=some (.bool b):=by
     have hlt:g<a.tmps.size:=by rw[<-hsl.len];exact(List.getElem?_eq_some_iff.1 u9).1
     have hx:=Array.getElem?_eq_getElem hlt;have:=hsl.ok g _ _ u9 hx;rw[hx,eP this]
    split at h
    ·rename_i hbw;split at h
     ·rename_i v1 H1 c1 t1 hy;split at h
      ·cases h
      simp only[Option.some.injEq,Prod.mk.injEq]at h;obtain⟨rfl,rfl,rfl⟩:=h;simp only[Bool.and_eq_true,beq_iff_eq]at hc1;obtain⟨hc1,rfl⟩:=hc1;rw[if_pos ((xx hgd).2 (by rw[hval,hbw]))];exact Di hD hc hs hsl (gs:=[]) (fun p hp=>by simp at hp) hy hc1 fun u ρ' S' w' h1 h2 h3=>hk u ρ' S' w' h1 (.dQ h2) h3
     ·cases h
    ·rename_i hbw;simp only[Option.some.injEq,Prod.mk.injEq]at h;obtain⟨rfl,rfl,rfl⟩:=h;have hbb:b=b0:=by simpa using hc1
     rw[if_neg (fun hh=>hbw (by have:=(xx hgd).1 hh;rw[hval]at this;simp at this;rw[<-hbb];exact this))];exact hk undef ρ S w hs (.dQ (.any _)) Step.refl
   ·cases h
  split at h
  ·cases h
  ·rename_i b hb;split at h
   ·rename_i hsm;simp only[Bool.and_eq_true]at hsm;split at h
    ·rename_i v1 H1 c1 t1 hy;simp only[Option.some.injEq,Prod.mk.injEq]at h;obtain⟨rfl,rfl,rfl⟩:=h;have hbt:=Oo hsl 6 g wt b hb;by_cases hw:a.tmps[g]?=some (.bool wt)
     ·rw[if_pos ((xx hgd).2 hw)];have hb1:b=true:=hbt.2 hw;subst hb1;have hc1':c1=true:=by simpa using hc1
      have hH:H1=H:=oa hy;subst hH;exact Di hD hc hs hsl (gs:=[(g,wt)]) (fun p hp=>by simp at hp;subst hp;exact hw) hy hc1' fun u ρ' S' w' h1 h2 h3=>hk u ρ' S' w' h1 (.inl ⟨hw,h2⟩) h3
     ·rw[if_neg (fun hh=>hw ((xx hgd).1 hh))];exact hk undef ρ S w hs (.inr ⟨hw,rfl⟩) Step.refl
    ·cases h
   ·cases h
theorem od{q:Bool}{cx:Cx K}{ops:List Oper}{tm:List (AV K)}{wr:List Nat}{o:Oper}{v:AV K}{c:Bool}(h:cD q cx ops tm H wr o=some (v,H',c)):∀g wt v1,v=.opt g wt v1->g∈wr:=by
 intro g' wt' v' e;unfold cD at h;split at h
 ·cases h
 ·split at h
  ·split at h
   ·cases h
   ·rename_i hno;simp only[Option.some.injEq,Prod.mk.injEq]at h;obtain⟨rfl,rfl,rfl⟩:=h;subst e;simp[AV.dU]at hno
  ·cases h
 ·rename_i g wt hgd;split at h
  ·split at h
   ·split at h
    ·split at h
     ·split at h
      ·cases h
      ·rename_i hno;simp only[Option.some.injEq,Prod.mk.injEq]at h;obtain⟨rfl,rfl,rfl⟩:=h;subst e;simp[AV.dU]at hno
     ·cases h
    ·simp only[Option.some.injEq,Prod.mk.injEq]at h;obtain⟨rfl,-,-⟩:=h;cases e
   ·cases h
  split at h
  ·cases h
  ·split at h
   ·rename_i hsm;simp only[Bool.and_eq_true]at hsm;split at h
    ·simp only[Option.some.injEq,Prod.mk.injEq]at h;obtain⟨rfl,rfl,rfl⟩:=h;simp only[AV.opt.injEq]at e;obtain⟨rfl,rfl,rfl⟩:=e;simpa using hsm.2
    ·cases h
   ·cases h
def fu(tm:List (AV K))(wr:List Nat):Prop:=∀(t g:Nat) b v,tm[t]?=some (.opt g b v)->t∈wr/\g∈wr
structure Sat (cx:Cx K) (ρ:List Value) (S:Nat->Prop) (a:Act) (w:World) (st:St K):Prop where
 heap:aD cx.D ρ S w st.H
 slots:cF cx.D ρ S w st.tm a.tmps
 defers:a.defers=[]
theorem cA.put{D:aT K}{tmps:Array Value}{d:Nat}{u:Value}{v:AV K}{x:Value}(h:cA D ρ S w tmps v x)(hv:∀g b y,v=.opt g b y->g≠d):cA D ρ S w (tmps.setIfInBounds d u) v x:=by
 cases v<;>first|exact h|skip
 rename_i g b y;have hg:=hv g b y rfl;simp only[cA,Array.getElem?_setIfInBounds,if_neg (Ne.symm hg)]at h⊢;exact h
theorem cF.put{D:aT K}{tm:List (AV K)}{tmps:Array Value}{wr:List Nat}(h:cF D ρ S w tm tmps)(ho:fu tm wr){d:Nat}(hd:d∉wr){v:AV K}{u:Value}(hv:cA D ρ S w tmps v u)(sj:∀g b y,v=.opt g b y->g∈wr):
 cF D ρ S w (tm.set d v) (tmps.setIfInBounds d u):=by
 refine⟨by simp[h.len],fun t v' x hv' hx=>?_⟩;rw[Array.getElem?_setIfInBounds]at hx;rcases cI hv' with⟨rfl,rfl,hl⟩|⟨hne,hv'⟩
 ·rw[if_pos rfl]at hx;split at hx
  ·simp at hx;subst hx;exact hv.put fun g b y e=>fun he=>hd (he ▸ sj g b y e)
  ·cases hx
 ·rw[if_neg (Ne.symm hne)]at hx;exact(h.ok t v' x hv' hx).put fun g b y e=>fun he=>hd (he ▸ (ho t g b y (by rw[<-e];exact hv')).2)
theorem fu.put{tm:List (AV K)}{wr:List Nat}(ho:fu tm wr){d:Nat}{v:AV K}(sj:∀g b y,v=.opt g b y->g∈wr):fu (tm.set d v) (d::wr):=fun t g b y h=>by
 rcases cI h with⟨rfl,rfl,-⟩|⟨-,h⟩
 ·exact⟨by simp,List.mem_cons_of_mem _ (sj g b y rfl)⟩
 ·exact⟨List.mem_cons_of_mem _ (ho t g b y h).1,List.mem_cons_of_mem _ (ho t g b y h).2⟩
theorem Step.grow{D:aT K}{n:Nat}(hs:aD D ρ S w H)(hs':aD D ρ' S' w' H')(st:Step D n ρ S H w ρ' S' H' w')(hn:n<=H.length):n<=H'.length:=by
 rcases Nat.eq_zero_or_pos n with h|h
 ·omega
 ·have h1:=st.pre (n-1) (by omega);rw[List.getElem?_eq_getElem (show n-1<ρ.length by rw[hs.len];omega)]at h1;have:=(List.getElem?_eq_some_iff.1 h1).1;rw[hs'.len]at this;omega
theorem Step.uw{D:aT K}(hs:aD D ρ S w H)(st:Step D H.length ρ S H w ρ' S' H' w'):∀(h:Nat) r,ρ[h]?=some r->ρ'[h]?=some r:=fun h r hr=>by
 rw[st.pre h (by rw[<-hs.len];exact(List.getElem?_eq_some_iff.1 hr).1)];exact hr
theorem iL{st:St K}{wr:List Nat}{dst:Option Nat}{v:AV K}{ok:Bool}{st':St K}{wr':List Nat}(h:lE st wr dst v H ok=some (st',wr')):
 st'.H=H/\st'.ok=ok/\((dst=none/\st'.tm=st.tm/\wr'=wr)\/∃d,dst=some d/\d∉wr/\d<st.tm.length/\st'.tm=st.tm.set d v/\wr'=d::wr):=by
 unfold lE at h;split at h
 ·simp only[Option.some.injEq,Prod.mk.injEq]at h;obtain⟨rfl,rfl⟩:=h;exact⟨rfl,rfl,.inl ⟨rfl,rfl,rfl⟩⟩
 ·rename_i d;split at h
  ·cases h
  ·rename_i hc;simp only[Bool.or_eq_true,decide_eq_true_eq,not_or,List.contains_eq_mem]at hc;simp only[Option.some.injEq,Prod.mk.injEq]at h;obtain⟨rfl,rfl⟩:=h;exact⟨rfl,rfl,.inr ⟨d,rfl,hc.1,by omega,rfl,rfl⟩⟩
theorem Sat.put{cx:Cx K}{a:Act}{st st':St K}{wr wr':List Nat}{o:Oper}{v:AV K}{ok:Bool}{u:Value}{n0:Nat}(aV:Sat cx ρ S a w st)(ho:fu st.tm wr)(hp:lE st wr o.dst v H' ok=some (st',wr'))
 (sj:∀g b y,v=.opt g b y->g∈wr) (hs':aD cx.D ρ' S' w' H') (hv:cA cx.D ρ' S' w' a.tmps v u) (hst:Step cx.D st.H.length ρ S st.H w ρ' S' H' w'):
 Sat cx ρ' S' (a.put o.dst u) w' st'/\fu st'.tm wr':=by
 obtain⟨h1,h2,h3⟩:=iL hp;have hsl:=aV.slots.mono hst.s1 (hst.nP aV.heap) (hst.uw aV.heap);rcases h3 with⟨e1,e2,e3⟩|⟨d,e1,e2,e3,e4,e5⟩
 ·rw[e1];exact⟨⟨by rw[h1];exact hs',by rw[e2];exact hsl,aV.defers⟩,by rw[e2,e3];exact ho⟩
 ·rw[e1];exact⟨⟨by rw[h1];exact hs',by rw[e4];exact hsl.put ho e2 hv sj,aV.defers⟩,by rw[e4,e5];exact ho.put sj⟩
theorem acf{cx:Cx K}{ops:List Oper}{st st':St K}{wr wr':List Nat}{o:Oper}(h:nH cx ops st wr o=some (st',wr'))(hok:st'.ok=true):st.ok=true:=by
 unfold nH at h;split at h
 ·obtain⟨-,h2,-⟩:=iL h;rw[h2]at hok;simp only[Bool.and_eq_true]at hok;exact hok.2
 ·cases h
theorem Dl{cx:Cx K}{ops:List Oper}:∀(l:List Oper)(st st':St K)(wr wr':List Nat),fS cx ops l st wr=some (st',wr')->st'.ok=true->st.ok=true
 |[],st,st',wr,wr',h,hok=>by simp only[fS,Option.some.injEq,Prod.mk.injEq]at h;rw[h.1];exact hok
 |o::r,st,st',wr,wr',h,hok=>by
  simp only[fS]at h;split at h
  ·rename_i st1 di h1;exact acf h1 (Dl r st1 st' di wr' h hok)
  ·cases h
theorem OS{cx:Cx K}(hD:aX cx.D)(hc:aE cx){ops:List Oper}{n0:Nat}{Q:Exit->Act->World->Prop}:∀(l:List Oper)(st st':St K)(wr wr':List Nat)(ρ:List Value)(S:Nat->Prop)(a:Act)(w:World),
 fS cx ops l st wr=some (st',wr')->st'.ok=true->Sat cx ρ S a w st->fu st.tm wr->n0<=st.H.length->
 (∀ρ' S' a' w',Sat cx ρ' S' a' w' st'->fu st'.tm wr'->Step cx.D n0 ρ S st.H w ρ' S' st'.H w'->Q .normal a' w')->wpList cx.P ops.toArray Q l a w
 |[],st,st',wr,wr',ρ,S,a,w,h,hok,aV,ho,hn,hq=>by
   simp only[fS,Option.some.injEq,Prod.mk.injEq]at h;obtain⟨rfl,rfl⟩:=h;exact hq ρ S a w aV ho Step.refl
 |o::r,st,st',wr,wr',ρ,S,a,w,h,hok,aV,ho,hn,hq=>by
  simp only[fS]at h;split at h
  ·rename_i st1 di h1;have hok1:=Dl r st1 st' di wr' h hok;have h1':=h1;unfold nH at h1';split at h1'
   ·rename_i v H1 c hsv;obtain⟨p1,p2,p3⟩:=iL h1';rw[p2]at hok1;simp only[Bool.and_eq_true]at hok1;refine wpList_step fun k hk=>xy hD hc aV.heap aV.slots hsv hok1.1 fun u ρ1 S1 w1 q1 q2 q3=>hk _ _ ?_
    obtain⟨s1,s2⟩:=aV.put (n0:=n0) ho h1' (od hsv) q1 q2 q3;have hg:=q3.grow aV.heap q1 (Nat.le_refl _);refine OS (n0:=n0) hD hc r st1 st' di wr' ρ1 S1 _ w1 h hok s1 s2 (by rw[p1];omega) fun ρ' S' a' w' g1 g2 g3=>hq ρ' S' a' w' g1 g2 ?_
    rw[p1]at g3;exact(q3.weaken hn).trans g3
   ·cases h1'
  ·cases h
def bK(tm:List (AV K)):Prop:=∀(t g:Nat) b v,tm[t]?≠some (.opt g b v)
theorem bK.in{tm:List (AV K)}(h:bK tm):fu tm []:=fun t g b v e=>absurd e (h t g b v)
theorem cF.wipe{D:aT K}{tmps:Array Value}:∀(wr:List Nat)(tm:List (AV K)),cF D ρ S w tm tmps->cF D ρ S w (dW tm wr) tmps
 |[],tm,h=>h
 |d::r,tm,h=>by
  simp only[dW];split
  ·refine cF.wipe r _ ⟨by simp[h.len],fun t v x hv hx=>?_⟩;rcases cI hv with⟨rfl,rfl,-⟩|⟨-,hv⟩
   ·exact .dQ (.any x)
   ·exact h.ok t v x hv hx
  ·exact cF.wipe r tm h
theorem Dm:∀(wr:List Nat)(tm:List (AV K))(t:Nat)(v:AV K),(dW tm wr)[t]?=some v->v.dU=true->t∉wr/\tm[t]?=some v
 |[],tm,t,v,h,hv=>⟨by simp,h⟩
 |d::r,tm,t,v,h,hv=>by
  simp only[dW]at h;split at h
  ·obtain⟨h1,h2⟩:=Dm r _ t v h hv;rcases cI h2 with⟨rfl,rfl,-⟩|⟨hne,h2⟩
   ·simp[AV.dU]at hv
   ·exact⟨by simp[hne,h1],h2⟩
  ·rename_i hno;obtain⟨h1,h2⟩:=Dm r _ t v h hv;refine⟨?_,h2⟩;simp only[List.mem_cons,not_or];refine⟨fun e=>?_,h1⟩;subst e;cases v<;>simp[AV.dU]at hv;exact hno _ _ _ h2
theorem bK.wipe{tm:List (AV K)}{wr:List Nat}(h:fu tm wr):bK (dW tm wr):=fun t g b v e=>by
 obtain⟨h1,h2⟩:=Dm wr tm t _ e rfl;exact h1 (h t g b v h2).1
end Go.V
namespace Go.V
open Go
variable {K :bL}{ρ ρ':List Value}{S S':Nat->Prop}{w w':World}{H H':List (Ob K)}
def OT(L:List Oper)(t:Nat):Prop:=∀(k:Nat) o,L[k]?=some o->o.dst≠some t
theorem xz{bits:Nat}:∀(L:List Oper)(i:Nat)(tm:List (AV K))(t:Nat)(v:AV K),(cf bits L i tm)[t]?=some v->v≠.any->
 tm[t]?=some v/\∀(k:Nat) o,L[k]?=some o->o.dst=some t->bits.testBit (i+k)=true
 |[],i,tm,t,v,h,_=>⟨h,fun k o ho=>by simp at ho⟩
 |o::r,i,tm,t,v,h,hv=>by
  simp only[cf]at h;obtain⟨h1,h2⟩:=xz r (i+1) _ t v h hv;have hrest:∀(k:Nat) o',(o::r)[k]?=some o'->o'.dst=some t->k≠0->bits.testBit (i+k)=true:=fun k o' ho' hd hk=>by
   obtain⟨k',rfl⟩:=Nat.exists_eq_succ_of_ne_zero hk;have:=h2 k' o' (by simpa using ho') hd;rw[show i+(k'+1)=i+1+k' by omega];exact this
  split at h1
  ·rename_i d hd;split at h1
   ·rename_i hb;refine⟨h1,fun k o' ho' hd'=>?_⟩;by_cases hk:k=0
    ·subst hk;simpa using hb
    ·exact hrest k o' ho' hd' hk
   ·rename_i hb;rcases cI h1 with⟨rfl,rfl,-⟩|⟨hne,h1⟩
    ·exact absurd rfl hv
    ·refine⟨h1,fun k o' ho' hd'=>?_⟩;by_cases hk:k=0
     ·subst hk;simp at ho';subst ho';rw[hd]at hd';simp at hd';exact absurd hd'.symm hne
     ·exact hrest k o' ho' hd' hk
  ·rename_i hd;refine⟨h1,fun k o' ho' hd'=>?_⟩;by_cases hk:k=0
   ·subst hk;simp at ho';subst ho';rw[hd]at hd';cases hd'
   ·exact hrest k o' ho' hd' hk
theorem xA{bits:Nat}:∀(L:List Oper)(i:Nat)(tm:List (AV K)),(cf bits L i tm).length=tm.length
 |[],i,tm=>rfl
 |o::r,i,tm=>by
  simp only[cf];rw[xA r];split
  ·split<;>simp
  ·rfl
theorem OU{i:Nat}:∀(bs:List Nat)(k0 k:Nat),(tX i k0 bs).testBit k=true->∃j:Nat,k=k0+j/\((bs[j]?).getD 0).testBit i=true
 |[],k0,k,h=>by simp[tX]at h
 |b::r,k0,k,h=>by
  simp only[tX,Nat.testBit_or,Bool.or_eq_true]at h;rcases h with h|h
  ·cases hb:b.testBit i with
   |false=>rw[hb]at h;simp at h
   |true=>
    rw[hb]at h;simp only[cond_true,Nat.testBit_two_pow,decide_eq_true_eq]at h;exact⟨0,by omega,by simpa using hb⟩
  ·obtain⟨j,h1,h2⟩:=OU r (k0+1) k h;exact⟨j+1,by omega,by simpa using h2⟩
theorem Dn{bs:List Nat}{i k:Nat}(h:(cr bs i).testBit k=true):(bs.getD i 0).testBit k=true\/(bs.getD k 0).testBit i=true:=by
 simp only[cr,Nat.testBit_or,Bool.or_eq_true]at h;rcases h with h|h
 ·exact .inl h
 ·obtain⟨j,h1,h2⟩:=OU _ _ _ h;rw[Nat.zero_add]at h1;subst h1;right;rw[List.getD_eq_getElem?_getD];exact h2
theorem Dp:∀(L:List Oper)(acc:List Nat)(i:Nat),i<acc.length->(cM L acc).getD i 0=acc.getD i 0
 |[],acc,i,_=>rfl
 |o::r,acc,i,h=>by
  simp only[cM];rw[Dp r _ i (by simp;omega)];simp only[List.getD_eq_getElem?_getD];rw[List.getElem?_append_left h]
theorem OV{acc:List Nat}{k:Nat}:∀(es:List Edge)(s:Nat),(es.foldl (fun s e=>s|||2^e.on|||acc.getD e.on 0) s).testBit k=true->s.testBit k=true\/∃e∈es,k=e.on\/(acc.getD e.on 0).testBit k=true
 |[],s,h=>.inl h
 |e::r,s,h=>by
  rcases OV r _ h with h|⟨e',he',h⟩
  ·simp only[Nat.testBit_or,Bool.or_eq_true]at h;rcases h with(h|h)|h
   ·exact .inl h
   ·rw[Nat.testBit_two_pow]at h;exact .inr ⟨e,by simp,.inl (by simpa using h.symm:e.on=k).symm⟩
   ·exact .inr ⟨e,by simp,.inr h⟩
  ·exact .inr ⟨e',by simp[he'],h⟩
theorem OW:∀(L:List Oper)(acc:List Nat)(j:Nat)(o:Oper),L[j]?=some o->ec L acc.length=true->
 ∀k,((cM L acc).getD (acc.length+j) 0).testBit k=true->∃e∈o.after,k=e.on\/((cM L acc).getD e.on 0).testBit k=true
 |[],acc,j,o,h,_,k,_=>by simp at h
 |x::r,acc,0,o,h,he,k,hk=>by
  simp at h;subst h;simp only[cM]at hk⊢;rw[Dp r _ _ (by simp)]at hk;simp only[List.getD_eq_getElem?_getD,Nat.add_zero]at hk;rw[List.getElem?_append_right (Nat.le_refl _)]at hk;simp only[Nat.sub_self,List.getElem?_cons_zero,Option.getD_some]at hk;simp only[ec,Bool.and_eq_true,List.all_eq_true,decide_eq_true_eq]at he;rcases OV x.after.toList 0 (by simpa only[List.getD_eq_getElem?_getD]using hk)with h|⟨e,h1,h2⟩
  ·simp at h
  ·refine⟨e,by simpa using h1,h2.imp id fun h=>?_⟩;rw[Dp r _ _ (by have:=(he.1 e h1).1;simp;omega)];rw[List.getD_eq_getElem?_getD,List.getElem?_append_left (he.1 e h1).1,<-List.getD_eq_getElem?_getD];exact h
 |x::r,acc,j+1,o,h,he,k,hk=>by
  simp only[cM]at hk⊢;simp only[ec,Bool.and_eq_true]at he;have:=OW r (acc++[x.after.toList.foldl (fun s e=>s|||2^e.on|||acc.getD e.on 0) 0]) j o (by simpa using h) (by simpa using he.2) k (by
   rw[show acc.length+(j+1)=(acc++[x.after.toList.foldl (fun s e=>s|||2^e.on|||acc.getD e.on 0) 0]).length+j by simp;omega]at hk;exact hk)
  exact this
theorem sk:∀(L:List Oper)(n i:Nat)(o:Oper),ec L n=true->L[i]?=some o->∀e∈o.after,e.on<n+i/\Region.binds .any e=true
 |[],n,i,o,_,h=>by simp at h
 |x::r,n,0,o,h,ho=>by
  simp at ho;subst ho;simp only[ec,Bool.and_eq_true,List.all_eq_true,decide_eq_true_eq]at h;intro e he;exact h.1 e (by simpa using he)
 |x::r,n,i+1,o,h,ho=>by
  simp only[ec,Bool.and_eq_true]at h;intro e he;have:=sk r (n+1) i o h.2 (by simpa using ho) e he;exact⟨by omega,this.2⟩
theorem gJ{L:List Oper}(he:ec L 0=true){T:Nat->Prop}(hT:∀(i:Nat) o,L[i]?=some o->T i->∀e∈o.after,T e.on):
 ∀(i:Nat)(o:Oper),L[i]?=some o->(∀e∈o.after,T e.on)->∀k,((cM L []).getD i 0).testBit k=true->T k/\k<i:=by
 intro i
 induction i using Nat.strongRecOn with
 |_ i ih=>
  intro o ho hoe k hk;obtain⟨e,h1,h2⟩:=OW L [] i o ho he k (by simpa using hk);have hlt:=(sk L 0 i o he ho e h1).1;rw[Nat.zero_add]at hlt;rcases h2 with rfl|h2
  ·exact⟨hoe e h1,hlt⟩
  ·have hi:i<L.length:=(List.getElem?_eq_some_iff.1 ho).1;have hg:=List.getElem?_eq_getElem (show e.on<L.length by omega);obtain⟨a,b⟩:=ih e.on hlt _ hg (hT e.on _ hg (hoe e h1)) k h2;exact⟨a,by omega⟩
structure xB (cx:Cx K) (L:List Oper) (bs:List Nat) (H:List (Ob K)) (aW cB:List (AV K)) (vals:Nat->AV K):Prop where
 len:cB.length=aW.length
 uniq:∀(i j:Nat) o o' d,L[i]?=some o->L[j]?=some o'->o.dst=some d->o'.dst=some d->i=j
 inb:∀(i:Nat) o d,L[i]?=some o->o.dst=some d->d<aW.length
 fin:∀(i:Nat) o d,L[i]?=some o->o.dst=some d->cB[d]?=some (vals i)
 rest:∀t,OT L t->cB[t]?=aW[t]?
 slot:∀(i:Nat) o,L[i]?=some o->∃bp bP H1,cD true cx L (cf (cr bs i) L 0 bp) H bP o=some (vals i,H1,true)/\bp.length=aW.length/\
  (∀(k:Nat) o' d,L[k]?=some o'->o'.dst=some d->k<i->bp[d]?=some (vals k))/\(∀t,(∀(k:Nat) o,k<i->L[k]?=some o->o.dst≠some t)->bp[t]?=aW[t]?)/\∀d∈bP,∃(k:Nat)(o':Oper),k<i/\L[k]?=some o'/\o'.dst=some d
structure OX (cx:Cx K) (L:List Oper) (bs:List Nat) (H:List (Ob K)) (aW:List (AV K)) (vals:Nat->AV K) (n:Nat) (tm:List (AV K)) (wr:List Nat):Prop where
 len:tm.length=aW.length
 uniq:∀(i j:Nat) o o' d,i<n->j<n->L[i]?=some o->L[j]?=some o'->o.dst=some d->o'.dst=some d->i=j
 inb:∀(i:Nat) o d,i<n->L[i]?=some o->o.dst=some d->d<aW.length
 fin:∀(i:Nat) o d,i<n->L[i]?=some o->o.dst=some d->tm[d]?=some (vals i)
 rest:∀t,(∀(k:Nat) o,k<n->L[k]?=some o->o.dst≠some t)->tm[t]?=aW[t]?
 eN:∀d,d∈wr↔∃(k:Nat)(o':Oper),k<n/\L[k]?=some o'/\o'.dst=some d
 slot:∀(i:Nat) o,i<n->L[i]?=some o->∃bp bP H1,cD true cx L (cf (cr bs i) L 0 bp) H bP o=some (vals i,H1,true)/\bp.length=aW.length/\
  (∀(k:Nat) o' d,L[k]?=some o'->o'.dst=some d->k<i->bp[d]?=some (vals k))/\(∀t,(∀(k:Nat) o,k<i->L[k]?=some o->o.dst≠some t)->bp[t]?=aW[t]?)/\∀d∈bP,∃(k:Nat)(o':Oper),k<i/\L[k]?=some o'/\o'.dst=some d
theorem Dq{cx:Cx K}{L:List Oper}{bs:List Nat}:∀(l:List Oper)(i:Nat)(st st':St K)(wr wr':List Nat),ia cx L bs l i st wr=some (st',wr')->st'.ok=true->st.ok=true/\st'.H=st.H
 |[],i,st,st',wr,wr',h,hok=>by simp only[ia,Option.some.injEq,Prod.mk.injEq]at h;rw[h.1];exact⟨hok,rfl⟩
 |o::r,i,st,st',wr,wr',h,hok=>by
  simp only[ia]at h;split at h
  ·split at h
   ·rename_i st1 di hp;obtain⟨p1,p2,-⟩:=iL hp;obtain⟨q1,q2⟩:=Dq r (i+1) st1 st' di wr' h hok;rw[p2]at q1;simp only[Bool.and_eq_true]at q1;exact⟨q1.2,by rw[q2,p1]⟩
   ·cases h
  ·cases h
theorem OY{cx:Cx K}{L:List Oper}{bs:List Nat}{H:List (Ob K)}{aW:List (AV K)}:∀(l:List Oper)(n:Nat)(st st':St K)(wr wr':List Nat)(vals:Nat->AV K),ia cx L bs l n st wr=some (st',wr')->st'.ok=true->st.H=H->
 (∀j,l[j]?=L[n+j]?)->n+l.length=L.length->OX cx L bs H aW vals n st.tm wr->∃db,OX cx L bs H aW db L.length st'.tm wr'
 |[],n,st,st',wr,wr',vals,h,hok,hH,hl,hn,hp=>by
   simp only[ia,Option.some.injEq,Prod.mk.injEq]at h;obtain⟨rfl,rfl⟩:=h;simp at hn;subst hn;exact⟨vals,hp⟩
 |o::r,n,st,st',wr,wr',vals,h,hok,hH,hl,hn,hp=>by
  have hLn:L[n]?=some o:=by have:=hl 0;simpa using this.symm
  simp only[ia]at h;split at h
  ·rename_i v H1 c hsv;split at h
   ·rename_i st1 di hput;obtain⟨p1,p2,p3⟩:=iL hput;have hok1:=(Dq r (n+1) st1 st' di wr' h hok).1;rw[p2]at hok1;simp only[Bool.and_eq_true]at hok1;obtain⟨rfl,-⟩:=hok1;rw[hH]at hsv
    let db:Nat->AV K:=fun i=>if i=n then v else vals i
    have hv':∀i,i<n->db i=vals i:=fun i hi=>by simp[db,show i≠n by omega]
    have hvn:db n=v:=by simp[db]
    have ux:∃bp bP H1,cD true cx L (cf (cr bs n) L 0 bp) H bP o=some (db n,H1,true)/\bp.length=aW.length/\
     (∀(k:Nat) o' d,L[k]?=some o'->o'.dst=some d->k<n->bp[d]?=some (db k))/\(∀t,(∀(k:Nat) o,k<n->L[k]?=some o->o.dst≠some t)->bp[t]?=aW[t]?)/\∀d∈bP,∃(k:Nat)(o':Oper),k<n/\L[k]?=some o'/\o'.dst=some d:=
     ⟨st.tm,wr,H1,by rw[hvn];exact hsv,hp.len,fun k o' d h1 h2 h3=>by rw[hv' k h3];exact hp.fin k o' d h3 h1 h2,fun t ht=>hp.rest t fun k o' hk h1=>ht k o' hk h1,fun d hd=>(hp.eN d).1 hd⟩
    have iM:∀(i:Nat) o,i<n+1->L[i]?=some o->∃bp bP H1,cD true cx L (cf (cr bs i) L 0 bp) H bP o=some (db i,H1,true)/\bp.length=aW.length/\
     (∀(k:Nat) o' d,L[k]?=some o'->o'.dst=some d->k<i->bp[d]?=some (db k))/\(∀t,(∀(k:Nat) o,k<i->L[k]?=some o->o.dst≠some t)->bp[t]?=aW[t]?)/\∀d∈bP,∃(k:Nat)(o':Oper),k<i/\L[k]?=some o'/\o'.dst=some d:=fun i o1 hi ho1=>by
     by_cases hin:i=n
     ·subst hin;rw[hLn]at ho1;simp at ho1;subst ho1;exact ux
     ·obtain⟨bp,bP,H2,a1,a2,a3,a4,a5⟩:=hp.slot i o1 (by omega) ho1;exact⟨bp,bP,H2,by rw[hv' i (by omega)];exact a1,a2,fun k o' d h1 h2 h3=>by rw[hv' k (by omega)];exact a3 k o' d h1 h2 h3,a4,a5⟩
    refine OY r (n+1) st1 st' di wr' db h hok (by rw[p1];exact hH) (fun j=>by have:=hl (j+1);simp only[List.getElem?_cons_succ]at this;rw[this];congr 1;omega) (by simp at hn;omega) ?_;rcases p3 with⟨e1,e2,e3⟩|⟨d,e1,e2,e3,e4,e5⟩
    ·refine⟨by rw[e2];exact hp.len,fun i j o1 o2 d hi hj h1 h2 h3 h4=>?_,fun i o1 d hi h1 h2=>?_,fun i o1 d hi h1 h2=>?_,fun t ht=>by rw[e2];exact hp.rest t fun k o' hk=>ht k o' (by omega),fun d=>?_,iM⟩
     ·have hin:i≠n:=fun e=>by subst e;rw[hLn]at h1;simp at h1;subst h1;rw[e1]at h3;cases h3
      have hjn:j≠n:=fun e=>by subst e;rw[hLn]at h2;simp at h2;subst h2;rw[e1]at h4;cases h4
      exact hp.uniq i j o1 o2 d (by omega) (by omega) h1 h2 h3 h4
     ·have hin:i≠n:=fun e=>by subst e;rw[hLn]at h1;simp at h1;subst h1;rw[e1]at h2;cases h2
      exact hp.inb i o1 d (by omega) h1 h2
     ·have hin:i≠n:=fun e=>by subst e;rw[hLn]at h1;simp at h1;subst h1;rw[e1]at h2;cases h2
      rw[e2,hv' i (by omega)];exact hp.fin i o1 d (by omega) h1 h2
     ·rw[e3,hp.eN d];constructor
      ·rintro ⟨k,o',hk,h1,h2⟩;exact⟨k,o',by omega,h1,h2⟩
      ·rintro ⟨k,o',hk,h1,h2⟩
       have hkn:k≠n:=fun e=>by subst e;rw[hLn]at h1;simp at h1;subst h1;rw[e1]at h2;cases h2
       exact⟨k,o',by omega,h1,h2⟩
    ·have hnew:∀(k:Nat) o',k<n->L[k]?=some o'->o'.dst≠some d:=fun k o' hk h1 h2=>e2 ((hp.eN d).2 ⟨k,o',hk,h1,h2⟩)
     have hdn:∀{o1:Oper}{d1:Nat},L[n]?=some o1->o1.dst=some d1->d1=d:=fun{o1 d1} h1 h2=>by rw[hLn]at h1;simp at h1;subst h1;rw[e1]at h2;simpa using h2.symm
     refine⟨by rw[e4];simp[hp.len],fun i j o1 o2 d1 hi hj h1 h2 h3 h4=>?_,fun i o1 d1 hi h1 h2=>?_,fun i o1 d1 hi h1 h2=>?_,fun t ht=>?_,fun d1=>?_,iM⟩
     ·by_cases hin:i=n<;>by_cases hjn:j=n
      ·omega
      ·subst hin;have:=hdn h1 h3;subst this;exact absurd h4 (hnew j o2 (by omega) h2)
      ·subst hjn;have:=hdn h2 h4;subst this;exact absurd h3 (hnew i o1 (by omega) h1)
      ·exact hp.uniq i j o1 o2 d1 (by omega) (by omega) h1 h2 h3 h4
     ·by_cases hin:i=n
      ·subst hin;have:=hdn h1 h2;subst this;rw[<-hp.len];exact e3
      ·exact hp.inb i o1 d1 (by omega) h1 h2
     ·rw[e4];by_cases hin:i=n
      ·subst hin;have:=hdn h1 h2;subst this;rw[List.getElem?_set,if_pos rfl,if_pos e3,hvn]
      ·have hne:d1≠d:=fun e=>by subst e;exact hnew i o1 (by omega) h1 h2
       rw[List.getElem?_set,if_neg (Ne.symm hne),hv' i (by omega)];exact hp.fin i o1 d1 (by omega) h1 h2
     ·have hne:d≠t:=fun e=>by subst e;exact ht n o (by omega) hLn e1
      rw[e4,List.getElem?_set,if_neg hne];exact hp.rest t fun k o' hk=>ht k o' (by omega)
     ·rw[e5,List.mem_cons,hp.eN d1];constructor
      ·rintro (rfl|⟨k,o',hk,h1,h2⟩)
       ·exact⟨n,o,by omega,hLn,e1⟩
       ·exact⟨k,o',by omega,h1,h2⟩
      ·rintro ⟨k,o',hk,h1,h2⟩
       by_cases hkn:k=n
       ·subst hkn;exact .inl (hdn h1 h2)
       ·exact .inr ⟨k,o',by omega,h1,h2⟩
   ·cases h
  ·cases h
theorem acg{cx:Cx K}{L:List Oper}{bs:List Nat}{st st':St K}{wr':List Nat}(h:ia cx L bs L 0 st []=some (st',wr'))(hok:st'.ok=true):
 ∃vals,xB cx L bs st.H st.tm st'.tm vals/\∀d,d∈wr'↔∃(k:Nat)(o':Oper),L[k]?=some o'/\o'.dst=some d:=by
 obtain⟨vals,hp⟩:=OY (aW:=st.tm) L 0 st st' [] wr' (fun _=>.any) h hok rfl (fun j=>by simp) (by simp)
  ⟨rfl,fun i j _ _ _ hi=>by omega,fun i _ _ hi=>by omega,fun i _ _ hi=>by omega,fun t _=>rfl,fun d=>by simp,fun i _ hi=>by omega⟩
 have hlt:∀{i:Nat}{o:Oper},L[i]?=some o->i<L.length:=fun h=>(List.getElem?_eq_some_iff.1 h).1
 refine⟨vals,⟨hp.len,fun i j o o' d h1 h2=>hp.uniq i j o o' d (hlt h1) (hlt h2) h1 h2,fun i o d h1=>hp.inb i o d (hlt h1) h1,fun i o d h1=>hp.fin i o d (hlt h1) h1,fun t ht=>hp.rest t fun k o _=>ht k o,fun i o h1=>hp.slot i o (hlt h1) h1⟩,fun d=>?_⟩;rw[hp.eN d];exact⟨fun⟨k,o',_,h1,h2⟩=>⟨k,o',h1,h2⟩,fun⟨k,o',h1,h2⟩=>⟨k,o',hlt h1,h1,h2⟩⟩
end Go.V
namespace Go.V
open Go
variable {K :bL}{ρ ρ':List Value}{S S':Nat->Prop}{w w':World}{H H':List (Ob K)}
structure Mid (cx:Cx K) (L:List Oper) (aW:List (AV K)) (vals:Nat->AV K) (H:List (Ob K)) (ρ:List Value) (S:Nat->Prop) (listed:Array Bool) (a:Act) (w:World):Prop where
 heap:aD cx.D ρ S w H
 defers:a.defers=[]
 size:a.tmps.size=aW.length
 fw:listed.size=L.length
 base:∀(t:Nat) v x,(∀(k:Nat) o,L[k]?=some o->o.dst=some t->listed[k]?≠some true)->aW[t]?=some v->a.tmps[t]?=some x->Rep cx.D ρ S w v x
 done:∀(k:Nat) o d x,L[k]?=some o->listed[k]?=some true->o.dst=some d->a.tmps[d]?=some x->cA cx.D ρ S w a.tmps (vals k) x
 opts:∀(k g:Nat) b y,listed[k]?=some true->vals k=.opt g b y->∃(k':Nat)(o':Oper),L[k']?=some o'/\o'.dst=some g/\listed[k']?=some true
 closed:∀(k:Nat) o,L[k]?=some o->listed[k]?=some true->∀e∈o.after,listed[e.on]?=some true
theorem ka(L:List Oper)(t:Nat):OT L t\/∃(k:Nat)(o:Oper),L[k]?=some o/\o.dst=some t:=by
 by_cases h:∃(k:Nat)(o:Oper),L[k]?=some o/\o.dst=some t
 ·exact .inr h
 ·exact .inl fun k o h1 h2=>h ⟨k,o,h1,h2⟩
theorem OZ{q:Bool}{cx:Cx K}{ops:List Oper}{tm:List (AV K)}{wr:List Nat}{o:Oper}{g:Nat}{b:Bool}{y:AV K}{c:Bool}(h:cD q cx ops tm H wr o=some (.opt g b y,H',c)):∃v,tm[g]?=some v/\v≠.any:=by
 unfold cD at h;split at h
 ·cases h
 ·split at h
  ·split at h
   ·cases h
   ·rename_i hno;simp only[Option.some.injEq,Prod.mk.injEq]at h;obtain⟨rfl,-⟩:=h;simp[AV.dU]at hno
  ·cases h
 ·rename_i g' w1 hgd;split at h
  ·split at h
   ·split at h
    ·split at h
     ·split at h
      ·cases h
      ·rename_i hno;simp only[Option.some.injEq,Prod.mk.injEq]at h;obtain⟨rfl,-⟩:=h;simp[AV.dU]at hno
     ·cases h
    ·simp only[Option.some.injEq,Prod.mk.injEq]at h;obtain⟨h,-⟩:=h;cases h
   ·cases h
  split at h
  ·cases h
  ·rename_i e hgv;split at h
   ·split at h
    ·simp only[Option.some.injEq,Prod.mk.injEq,AV.opt.injEq]at h;obtain⟨⟨rfl,rfl,rfl⟩,-⟩:=h;simp only[rz]at hgv;split at hgv
     ·rename_i bb hv;exact⟨_,hv,by simp⟩
     ·rename_i g1 w1 bb hv;exact⟨_,hv,by simp⟩
     ·cases hgv
    ·cases h
   ·cases h
theorem oe{listed:Array Bool}{j:Nat}:listed.getD j true=false↔listed[j]?=some false:=by
 rw[Array.getD_eq_getD_getElem?];cases h:listed[j]? with
 |none=>simp
 |some b=>cases b<;>simp
theorem xC{listed:Array Bool}{j:Nat}:listed.getD j false=true↔listed[j]?=some true:=by
 rw[Array.getD_eq_getD_getElem?];cases h:listed[j]? with
 |none=>simp
 |some b=>cases b<;>simp
theorem Mid.slots{cx:Cx K}{L:List Oper}{aW cB:List (AV K)}{vals:Nat->AV K}{bs:List Nat}(hbs:bs=cM L [])(he:ec L 0=true){listed:Array Bool}{a:Act}
 (hm:Mid cx L aW vals H ρ S listed a w) (hd:xB cx L bs H aW cB vals) (h0:bK aW) {j:Nat} {o:Oper} (ho:L[j]?=some o) (cJ:listed[j]?=some false) (dK:∀e∈o.after,listed[e.on]?=some true) {bp:List (AV K)} (hl:bp.length=aW.length)
 (h1:∀(k:Nat) o' d,L[k]?=some o'->o'.dst=some d->k<j->bp[d]?=some (vals k)) (h2:∀t,(∀(k:Nat) o,k<j->L[k]?=some o->o.dst≠some t)->bp[t]?=aW[t]?):cF cx.D ρ S w (cf (cr bs j) L 0 bp) a.tmps/\
   ∀(t:Nat) v,(cf (cr bs j) L 0 bp)[t]?=some v->v≠.any->(∀(k:Nat) o',k<j->L[k]?=some o'->o'.dst≠some t)\/∃(k:Nat)(o':Oper),L[k]?=some o'/\o'.dst=some t/\listed[k]?=some true:=by
 have key:∀(t:Nat) v,(cf (cr bs j) L 0 bp)[t]?=some v->v≠.any->(((∀(k:Nat) o',k<j->L[k]?=some o'->o'.dst≠some t)/\(∀(k:Nat) o,L[k]?=some o->o.dst=some t->listed[k]?≠some true))/\aW[t]?=some v)\/∃(k:Nat)(o':Oper),L[k]?=some o'/\o'.dst=some t/\listed[k]?=some true/\v=vals k:=fun t v hv hne=>by
  obtain⟨g1,g2⟩:=xz L 0 bp t v hv hne;rcases ka L t with hn|⟨k,o',hk,hkd⟩
  ·exact .inl ⟨⟨fun k o' _ h=>hn k o' h,fun k o' h h'=>absurd h' (hn k o' h)⟩,by rw[<-h2 t fun k o' _ h=>hn k o' h];exact g1⟩
  ·have hb:=g2 k o' hk hkd;rw[Nat.zero_add,hbs]at hb;rcases Dn hb with hb|hb
   ·obtain⟨c1,c2⟩:=gJ he (T:=fun i=>listed[i]?=some true) (fun i o hi ed=>hm.closed i o hi ed) j o ho dK k hb;have:=h1 k o' t hk hkd c2;rw[g1]at this;exact .inr ⟨k,o',hk,hkd,c1,by simpa using this⟩
   ·have c0:=(gJ he (T:=fun _=>True) (fun _ _ _ _ _ _=>trivial) k o' hk (fun _ _=>trivial) j hb).2;have hun:listed[k]?≠some true:=fun hlk=>by
     have:=(gJ he (T:=fun i=>listed[i]?=some true) (fun i o hi ed=>hm.closed i o hi ed) k o' hk (hm.closed k o' hk hlk) j hb).1;rw[cJ]at this;cases this
    have fx:∀(k':Nat) o1,L[k']?=some o1->o1.dst=some t->k'=k:=fun k' o1 h1 h2=>hd.uniq k' k o1 o' t h1 hk h2 hkd
    have hlt:∀(k':Nat) o1,k'<j->L[k']?=some o1->o1.dst≠some t:=fun k' o1 hk' h1 h2=>by have:=fx k' o1 h1 h2;omega
    exact .inl ⟨⟨hlt,fun k' o1 h1 h2=>by rw[fx k' o1 h1 h2];exact hun⟩,by rw[<-h2 t hlt];exact g1⟩
 refine⟨⟨by rw[xA,hl,hm.size],fun t v x hv hx=>?_⟩,fun t v hv hne=>?_⟩
 ·by_cases hne:v=.any
  ·subst hne;exact .dQ (.any x)
  ·rcases key t v hv hne with⟨⟨-,hn⟩,g⟩|⟨k,o',hk,hkd,hlk,rfl⟩
   ·exact .dQ (hm.base t v x hn g hx)
   ·exact hm.done k o' t x hk hlk hkd hx
 ·rcases key t v hv hne with⟨⟨hn,-⟩,-⟩|⟨k,o',hk,hkd,hlk,-⟩
  ·exact .inl hn
  ·exact .inr ⟨k,o',hk,hkd,hlk⟩
theorem Mid.put{cx:Cx K}{L:List Oper}{aW cB:List (AV K)}{vals:Nat->AV K}{bs:List Nat}{listed:Array Bool}{a:Act}(hm:Mid cx L aW vals H ρ S listed a w)(hd:xB cx L bs H aW cB vals){j:Nat}{o:Oper}(ho:L[j]?=some o)
 (hj:listed[j]?=some false) (dK:∀e∈o.after,listed[e.on]?=some true) {u:Value} (hs':aD cx.D ρ' S' w' H) (hst:Step cx.D H.length ρ S H w ρ' S' H w') (hv:cA cx.D ρ' S' w' a.tmps (vals j) u)
 (eD:∀g b y,vals j=.opt g b y->∃(k':Nat)(o':Oper),L[k']?=some o'/\o'.dst=some g/\listed[k']?=some true):Mid cx L aW vals H ρ' S' (listed.setIfInBounds j true) (a.put o.dst u) w':=by
 have hjs:j<listed.size:=(Array.getElem?_eq_some_iff.1 hj).1;have hget:∀(k:Nat),(listed.setIfInBounds j true)[k]?=some true↔(k=j\/listed[k]?=some true):=fun k=>by
  rw[Array.getElem?_setIfInBounds];by_cases hk:j=k
  ·subst hk;simp[hjs]
  ·rw[if_neg hk];simp[Ne.symm hk]
 have hmono:∀{v:AV K}{x:Value},Rep cx.D ρ S w v x->Rep cx.D ρ' S' w' v x:=fun h=>h.mono hst.s1 (hst.nP hm.heap) (hst.uw hm.heap)
 have uy:∀{v:AV K}{x:Value}{tmps:Array Value},cA cx.D ρ S w tmps v x->cA cx.D ρ' S' w' tmps v x:=fun h=>h.mono hst.s1 (hst.nP hm.heap) (hst.uw hm.heap)
 have hclosed:∀(k:Nat) o1,L[k]?=some o1->(listed.setIfInBounds j true)[k]?=some true->∀e∈o1.after,(listed.setIfInBounds j true)[e.on]?=some true:=fun k o1 hk hlk e he=>by
  rw[hget]at hlk⊢;rcases hlk with rfl|hlk
  ·rw[ho]at hk;simp at hk;subst hk;exact .inr (dK e he)
  ·exact .inr (hm.closed k o1 hk hlk e he)
 have lV:∀(k g:Nat) b y,(listed.setIfInBounds j true)[k]?=some true->vals k=.opt g b y->∃(k':Nat)(o':Oper),L[k']?=some o'/\o'.dst=some g/\(listed.setIfInBounds j true)[k']?=some true:=fun k g b y hlk hvk=>by
  rw[hget]at hlk;rcases hlk with rfl|hlk
  ·obtain⟨k',o',h1,h2,h3⟩:=eD g b y hvk;exact⟨k',o',h1,h2,(hget k').2 (.inr h3)⟩
  ·obtain⟨k',o',h1,h2,h3⟩:=hm.opts k g b y hlk hvk;exact⟨k',o',h1,h2,(hget k').2 (.inr h3)⟩
 cases hdst:o.dst with
 |none=>
  refine⟨hs',hm.defers,hm.size,by simp[hm.fw],fun t v x h1 h2 h3=>hmono (hm.base t v x (fun k o1 hk hd1 hl=>h1 k o1 hk hd1 ((hget k).2 (.inr hl))) h2 h3),fun k o1 d x hk hlk hd1 hx=>?_,lV,hclosed⟩;rw[hget]at hlk;rcases hlk with rfl|hlk
  ·rw[ho]at hk;simp at hk;subst hk;rw[hdst]at hd1;cases hd1
  ·exact uy (hm.done k o1 d x hk hlk hd1 hx)
 |some d=>
  have hne:∀{k:Nat}{o1:Oper},L[k]?=some o1->listed[k]?=some true->o1.dst≠some d:=fun{k o1} hk hlk hd1=>by
   have:=hd.uniq k j o1 o d hk ho hd1 hdst;subst this;rw[hj]at hlk;cases hlk
  refine⟨hs',hm.defers,by simp[Act.put,hm.size],by simp[hm.fw],fun t v x h1 h2 h3=>?_,fun k o1 d1 x hk hlk hd1 hx=>?_,lV,hclosed⟩
  ·have:d≠t:=fun e=>by subst e;exact h1 j o ho hdst ((hget j).2 (.inl rfl))
   simp only[Act.put,Array.getElem?_setIfInBounds,if_neg this]at h3;exact hmono (hm.base t v x (fun k o1 hk hd1 hl=>h1 k o1 hk hd1 ((hget k).2 (.inr hl))) h2 h3)
  ·rw[hget]at hlk;simp only[Act.put]at hx⊢;rw[Array.getElem?_setIfInBounds]at hx;rcases hlk with rfl|hlk
   ·rw[ho]at hk;simp at hk;subst hk;rw[hdst]at hd1;simp at hd1;subst hd1;rw[if_pos rfl]at hx;split at hx
    ·simp at hx;subst hx;refine hv.put fun g b y e he=>?_
     obtain⟨k',o',h1,h2,h3⟩:=eD g b y e;subst he;exact hne h1 h3 h2
    ·cases hx
   ·have hdd:d≠d1:=fun e=>by subst e;exact hne hk hlk hd1
    rw[if_neg hdd]at hx;refine(uy (hm.done k o1 d1 x hk hlk hd1 hx)).put fun g b y e he=>?_
    obtain⟨k',o',h1,h2,h3⟩:=hm.opts k g b y hlk e;subst he;exact hne h1 h3 h2
def todo(listed:Array Bool):Nat:=(listed.toList.filter fun b=> !b).length
theorem Ds{listed:Array Bool}{j:Nat}(h:listed[j]?=some false):todo (listed.setIfInBounds j true)+1=todo listed:=by
 have key:∀(l:List Bool)(j:Nat),l[j]?=some false->((l.set j true).filter fun b=> !b).length+1=(l.filter fun b=> !b).length:=fun l=>by
  induction l with
  |nil=>intro j h;simp at h
  |cons x r ih=>
   intro j h;cases j with
   |zero=>simp at h;subst h;simp
   |succ j=>
    have:=ih j (by simpa using h);simp only[List.set_cons_succ,List.filter_cons];cases x
    ·simp only[Bool.not_false,if_true,List.length_cons];omega
    ·simp only[Bool.not_true,Bool.false_eq_true,if_false];omega
 simp only[todo,Array.toList_setIfInBounds];exact key _ _ (by simpa using h)
theorem Dt{listed:Array Bool}(h:todo listed=0){j:Nat}:listed[j]?≠some false:=fun hj=>by
 have hm:false∈listed.toList:=by
  rw[List.mem_iff_getElem?];exact⟨j,by simpa using hj⟩
 have:false∈listed.toList.filter fun b=> !b:=by simp[hm]
 rw[List.eq_nil_of_length_eq_zero h]at this;cases this
theorem Du{L:List Oper}(he:ec L 0=true){listed:Array Bool}(hl:listed.size=L.length)(hr:Region.ready .any L.toArray listed=[]):∀(i:Nat),i<L.length->listed[i]?=some true:=by
 intro i
 induction i using Nat.strongRecOn with
 |_ i ih=>
  intro hi;have ho:=List.getElem?_eq_getElem hi;cases hb:listed[i]? with
  |none=>rw[Array.getElem?_eq_none_iff]at hb;omega
  |some b=>
   cases b with
   |true=>rfl
   |false=>
    have:i∈Region.ready .any L.toArray listed:=mem_ready.2 ⟨oe.2 hb,L[i],by simp[hi],fun e jk _=>by
     have:=(sk L 0 i _ he ho e jk).1;exact xC.2 (ih e.on (by omega) (by omega))⟩
    rw[hr]at this;cases this
theorem ach{cx:Cx K}(hD:aX cx.D)(hc:aE cx){L:List Oper}(Dv:∀(i:Nat) o,L[i]?=some o->fR cx o.op=true)(he:ec L 0=true){aW cB:List (AV K)}{vals:Nat->AV K}(hd:xB cx L (cM L []) H aW cB vals)(h0:bK aW)
 {n0:Nat} (hn:n0<=H.length) {Q:Exit->Act->World->Prop}:∀(fuel:Nat)(listed:Array Bool)(ρ:List Value)(S:Nat->Prop)(a:Act)(w:World),Mid cx L aW vals H ρ S listed a w->todo listed<=fuel->
 (∀ρ' S' a' w',aD cx.D ρ' S' w' H->cF cx.D ρ' S' w' cB a'.tmps->a'.defers=[]->Step cx.D n0 ρ S H w ρ' S' H w'->Q .normal a' w')->wpAny cx.P .any L.toArray Q fuel listed a w:=by
 have hfin:∀(listed:Array Bool)(ρ:List Value)(S:Nat->Prop)(a:Act)(w:World),Mid cx L aW vals H ρ S listed a w->Region.ready .any L.toArray listed=[]->cF cx.D ρ S w cB a.tmps:=fun listed ρ S a w hm hr=>by
  have hall:=Du he hm.fw hr;refine⟨by rw[hd.len,hm.size],fun t v x hv hx=>?_⟩;rcases ka L t with hnd|⟨k,o,hk,hkd⟩
  ·rw[hd.rest t hnd]at hv;exact .dQ (hm.base t v x (fun k o hk hkd=>absurd hkd (hnd k o hk)) hv hx)
  ·rw[hd.fin k o t hk hkd]at hv;simp only[Option.some.injEq]at hv;subst hv;exact hm.done k o t x hk (hall k (List.getElem?_eq_some_iff.1 hk).1) hkd hx
 intro fuel
 induction fuel with
 |zero=>
  intro listed ρ S a w hm ht hq;have hr:Region.ready .any L.toArray listed=[]:=by
   cases hh:Region.ready .any L.toArray listed with
   |nil=>rfl
   |cons j r=>
    have:j∈Region.ready .any L.toArray listed:=by rw[hh];simp
    exact absurd (oe.1 (mem_ready.1 this).1) (Dt (by omega))
  exact⟨hr,hq ρ S a w hm.heap (hfin listed ρ S a w hm hr) hm.defers Step.refl⟩
 |succ fuel ih=>
  intro listed ρ S a w hm ht hq;refine⟨fun hr=>hq ρ S a w hm.heap (hfin listed ρ S a w hm hr) hm.defers Step.refl,fun j hj=>?_⟩;obtain⟨iI,o,hoj,hall⟩:=mem_ready.1 hj;have cJ:=oe.1 iI;have ho:L[j]?=some o:=by simpa using hoj
  have dK:∀e∈o.after,listed[e.on]?=some true:=fun e jk=>xC.1 (hall e jk (sk L 0 j o he ho e jk).2)
  obtain⟨bp,bP,H1,s1,s2,s3,s4,s5⟩:=hd.slot j o ho;obtain⟨hsl,hkn⟩:=hm.slots rfl he hd h0 ho cJ dK s2 s3 s4;have hH1:H1=H:=by
   have hsm:=Dv j o ho;unfold cD at s1;split at s1
   ·cases s1
   ·split at s1
    ·rename_i hy;split at s1
     ·cases s1
     ·simp only[Option.some.injEq,Prod.mk.injEq]at s1;obtain⟨-,rfl,-⟩:=s1;exact oa hy
    ·cases s1
   ·split at s1
    ·split at s1
     ·split at s1
      ·split at s1
       ·rename_i hy;split at s1
        ·cases s1
        ·simp only[Option.some.injEq,Prod.mk.injEq]at s1;obtain⟨-,rfl,-⟩:=s1;exact oa hy
       ·cases s1
      ·simp only[Option.some.injEq,Prod.mk.injEq]at s1;exact s1.2.1.symm
     ·cases s1
    split at s1
    ·cases s1
    ·split at s1
     ·split at s1
      ·simp only[Option.some.injEq,Prod.mk.injEq]at s1;exact s1.2.1.symm
      ·cases s1
     ·cases s1
  subst hH1;have eD:∀g b y,vals j=.opt g b y->∃(k':Nat)(o':Oper),L[k']?=some o'/\o'.dst=some g/\listed[k']?=some true:=fun g b y e=>by
   rw[e]at s1;obtain⟨v,g1,g2⟩:=OZ s1;rcases hkn g v g1 g2 with hn'|h
   ·obtain⟨k,o',hk,h2,h3⟩:=s5 g (od s1 g b y rfl);exact absurd h3 (hn' k o' hk h2)
   ·exact h
  have hw:=xy hD hc hm.heap hsl (ops:=L) s1 rfl (k:=wpAny cx.P .any L.toArray Q fuel (listed.setIfInBounds j true)) (Q:=Q) fun u ρ1 S1 w1 q1 q2 q3=>by
   have hm1:=hm.put hd ho cJ dK q1 q3 q2 eD;refine ih _ ρ1 S1 _ w1 hm1 (by have:=Ds cJ;omega) fun ρ' S' a' w' g1 g2 g3 g4=>hq ρ' S' a' w' g1 g2 g3 ((q3.weaken hn).trans g4)
  unfold wpOp;rw[hoj];dsimp only;split
  ·rename_i hwt;rw[if_pos hwt]at hw;exact .inl hw
  ·rename_i hwt;rw[if_neg hwt]at hw;exact hw
theorem Dw(n:Nat):todo (Array.replicate n false)<=n:=by
 simp only[todo,Array.toList_replicate];exact Nat.le_trans (List.length_filter_le _ _) (by simp)
end Go.V
namespace Go.V
open Go
variable {K :bL}{ρ ρ':List Value}{S S':Nat->Prop}{w w':World}{H H':List (Ob K)}{D:aT K}
theorem uz{bits:Nat}:∀(l:List (Ob K))(i k:Nat),(dX bits i l)[k]?=(l[k]?).map fun o=>if bits.testBit (i+k)then .dead else o
 |[],i,k=>by simp[dX]
 |o::r,i,0=>by simp[dX]
 |o::r,i,k+1=>by
  simp only[dX,List.getElem?_cons_succ];rw[uz r (i+1) k,show i+1+k=i+(k+1) by omega]
theorem uA{bits:Nat}:∀(l:List (Ob K))(i:Nat),(dX bits i l).length=l.length
 |[],i=>rfl
 |o::r,i=>by simp only[dX,List.length_cons,uA r]
theorem xE{bits:Nat}:∀(l l':List (Ob K))(i:Nat),l.length<=l'.length->(fq bits i l l').length=l'.length
 |[],l',i,_=>by simp[fq]
 |o::r,[],i,h=>by simp at h
 |o::r,o'::r',i,h=>by
  simp only[fq,List.length_cons];rw[xE r r' (i+1) (by simpa using h)]
theorem xF{bits:Nat}:∀(l l':List (Ob K))(i k:Nat),l.length<=l'.length->(fq bits i l l')[k]?=if k<l.length/\bits.testBit (i+k)=true then l[k]? else l'[k]?
 |[],l',i,k,_=>by simp[fq]
 |o::r,[],i,k,h=>by simp at h
 |o::r,o'::r',i,0,h=>by
  simp only[fq,List.getElem?_cons_zero,List.length_cons,Nat.add_zero];by_cases hb:bits.testBit i=true<;>simp[hb]
 |o::r,o'::r',i,k+1,h=>by
  simp only[fq,List.getElem?_cons_succ,List.length_cons,Nat.add_lt_add_iff_right];rw[xF r r' (i+1) k (by simpa using h),show i+1+k=i+(k+1) by omega]
theorem oh{n:Nat}:∀{l:List (AV K)}{i:Nat}{v:AV K},jc n l=true->l[i]?=some v->v.upto n=true
 |[],i,v,_,h=>by simp at h
 |x::r,0,v,h,hv=>by simp at hv;subst hv;simp only[jc,Bool.and_eq_true]at h;exact h.1
 |x::r,i+1,v,h,hv=>by simp only[jc,Bool.and_eq_true]at h;exact oh h.2 (by simpa using hv)
theorem Rep.take(hD:aX D){n:Nat}{v:AV K}{x:Value}(h:Rep D ρ S w v x):v.upto n=true->Rep D (ρ.take n) S w v x:=by
 have tk:∀{k:Nat}{r:Value},k<n->ρ[k]?=some r->(ρ.take n)[k]?=some r:=fun hk hr=>by rw[List.getElem?_take,if_pos hk];exact hr
 induction h with
 |any v=>exact fun _=>.any v
 |int k n=>exact fun _=>.int k n
 |bool b=>exact fun _=>.bool b
 |str s=>exact fun _=>.str s
 |bN=>exact fun _=>.bN
 |bO=>exact fun _=>.bO
 |mp r=>exact fun _=>.mp r
 |fn hl _ ih=>exact fun hu=>.fn hl fun i v x h1 h2=>ih i v x h1 h2 (oh (by simpa [AV.upto]using hu) h1)
 |fU=>exact fun _=>.fU
 |np hp=>exact fun hu=>.np (tk (by simpa [AV.upto]using hu) hp)
 |ptr hp=>exact fun hu=>.ptr (tk (by simpa [AV.upto]using hu) hp)
 |sl hp hk=>exact fun hu=>.sl (tk (by simpa [AV.upto]using hu) hp) hk
 |ep hp hi=>exact fun hu=>.ep (tk (by simpa [AV.upto]using hu) hp) hi
 |vw hp h1 h2 ha=>exact fun hu=>.vw (tk (by simpa [AV.upto]using hu) hp) h1 h2 ha
 |cK a cap=>exact fun _=>.cK a cap
 |au val h1 h2 h3 h4 h5 ih=>exact fun _=>(Rep.au val h1 h2 h3 h4 h5).closed hD rfl
 |rp vs h1 h2 h3 h4 ih=>exact fun _=>(Rep.rp vs h1 h2 h3 h4).closed hD rfl
 |agg hl _ ih=>exact fun hu=>.agg hl fun i v x h1 h2=>ih i v x h1 h2 (oh (by simpa [AV.upto]using hu) h1)
 |bc hl _ ih=>exact fun hu=>.bc hl fun i v x h1 h2=>ih i v x h1 h2 (oh (by simpa [AV.upto]using hu) h1)
theorem aI.aci(hD:aX D){n:Nat}{l:List (AV K)}{vs:List Value}(h:aI D ρ S w l vs)(hu:jc n l=true):aI D (ρ.take n) S w l vs:=
 ⟨h.1,fun i v x h1 h2=>(h.2 i v x h1 h2).take hD (oh hu h1)⟩
def dummy:Value:=.bool false
theorem Rep.mono'(hS:∀b,S b->S' b)(hw:∀b,S b->w'.heap[b]?=w.heap[b]?)(hρ:∀(h:Nat) r,ρ[h]?=some r->r≠dummy->ρ'[h]?=some r){v:AV K}{x:Value}
 (h:Rep D ρ S w v x):Rep D ρ' S' w' v x:=by
 induction h with
 |any v=>exact .any v
 |int k n=>exact .int k n
 |bool b=>exact .bool b
 |str s=>exact .str s
 |bN=>exact .bN
 |bO=>exact .bO
 |mp r=>exact .mp r
 |fn hl _ ih=>exact .fn hl ih
 |fU=>exact .fU
 |np hp=>exact .np (hρ _ _ hp (by simp[dummy]))
 |ptr hp=>exact .ptr (hρ _ _ hp (by simp[dummy]))
 |sl hp hk=>exact .sl (hρ _ _ hp (by rintro rfl;cases hk)) hk
 |ep hp hi=>exact .ep (hρ _ _ hp (by simp[dummy])) hi
 |vw hp h1 h2 ha=>exact .vw (hρ _ _ hp (by simp[dummy])) h1 h2 ha
 |cK a cap=>exact .cK a cap
 |au val h1 h2 h3 h4 _ ih=>exact .au val (hS _ h1) h2 h3 (fun i hi=>(h4 i hi).keep (hw _ h1)) ih
 |rp vs h1 h2 h3 _ ih=>exact .rp vs (hS _ h1) h2 (h3.keep (hw _ h1)) ih
 |agg hl _ ih=>exact .agg hl ih
 |bc hl _ ih=>exact .bc hl ih
theorem aI.mono'(hS:∀b,S b->S' b)(hw:∀b,S b->w'.heap[b]?=w.heap[b]?)(hρ:∀(h:Nat) r,ρ[h]?=some r->r≠dummy->ρ'[h]?=some r){l:List (AV K)}{vs:List Value}
 (h:aI D ρ S w l vs):aI D ρ' S' w' l vs:=⟨h.1,fun i v x hv hx=>(h.2 i v x hv hx).mono' hS hw hρ⟩
theorem cV.take(hD:aX D){n:Nat}{o:Ob K}{r:Value}(h:cV D ρ S w o r)(hu:o.upto n=true):cV D (ρ.take n) S w o r:=by
 cases o with
 |dead=>trivial
 |cT c l=>exact Rep.closed hD h rfl
 |box cs=>
  obtain⟨b,vs,T,h1,h2,h3,h4⟩:=h;exact⟨b,vs,T,h1,h2,h3.aci hD hu,h4⟩
 |arr c l=>
  rcases h with h|⟨b,o,cap,vs,T,fr,h1,h2,h3,h4,h5,h6⟩
  ·exact .inl h
  ·exact .inr ⟨b,o,cap,vs,T,fr,h1,h2,h3,h4,h5,fun i x hx=>(h6 i x hx).closed hD (hD.closed _ _)⟩
 |tree c l=>exact h
 |opn c l i off cs=>exact gB.keep (fun j v u hv hr=>hr.take hD (oh hu hv)) (fun _ _=>rfl) h
 |dt c x=>exact⟨h.1.closed hD rfl,h.2⟩
 |bf t m l=>exact h
theorem cV.mono'(hS:∀b,S b->S' b)(hw:∀b,S b->w'.heap[b]?=w.heap[b]?)(hρ:∀(h:Nat) r,ρ[h]?=some r->r≠dummy->ρ'[h]?=some r){o:Ob K}{r:Value}(h:cV D ρ S w o r)
 (hb:∀b,o.live=true->bj D w o r b->w'.heap[b]?=w.heap[b]?):cV D ρ' S' w' o r:=by
 cases o with
 |dead=>trivial
 |cT c l=>exact Rep.mono' hS hw hρ h
 |box cs=>
  obtain⟨b,vs,T,rfl,h2,h3,h4⟩:=h;exact⟨b,vs,T,rfl,by rw[hb b rfl rfl];exact h2,h3.mono' hS hw hρ,h4⟩
 |arr c l=>
  rcases h with h|⟨b,o,cap,vs,T,fr,rfl,h2,h3,h4,h5,h6⟩
  ·exact .inl h
  ·exact .inr ⟨b,o,cap,vs,T,fr,rfl,by rw[hb b rfl rfl];exact h2,h3,h4,h5,fun i x hx=>(h6 i x hx).mono' hS hw hρ⟩
 |tree c l=>exact Tree.mono h fun k hk=>hb k rfl hk
 |opn c l i off cs=>exact gB.keep (fun _ _ _ _ hr=>hr.mono' hS hw hρ) (fun k hk=>hb k rfl hk) h
 |dt c x=>exact⟨h.1.mono' hS hw hρ,h.2⟩
 |bf t m l=>
  obtain⟨b,rfl,h1,h2⟩:=h;exact⟨b,rfl,by rw[hb b rfl rfl];exact h1,h2⟩
structure View (n:Nat) (H Hv:List (Ob K)):Prop where
 len:Hv.length=n
 le:n<=H.length
 ob:∀(h:Nat) o,Hv[h]?=some o->o=.dead\/H[h]?=some o
 up:∀(h:Nat) o,Hv[h]?=some o->o.upto n=true
theorem View.lt{n:Nat}{H Hv:List (Ob K)}(v:View n H Hv){h:Nat}{o:Ob K}(ho:Hv[h]?=some o):h<n:=by
 have:=(List.getElem?_eq_some_iff.1 ho).1;rw[v.len]at this;exact this
theorem View.live{n:Nat}{H Hv:List (Ob K)}(v:View n H Hv){h:Nat}{o:Ob K}(ho:Hv[h]?=some o)(hl:o.live=true):H[h]?=some o:=by
 rcases v.ob h o ho with rfl|h
 ·cases hl
 ·exact h
theorem View.own{n:Nat}{H Hv:List (Ob K)}(v:View n H Hv){b:Nat}(h:Own D w (ρ.take n) Hv b):Own D w ρ H b:=by
 obtain⟨h,o,r,h1,h2,h3,h4⟩:=h;rw[List.getElem?_take,if_pos (v.lt h1)]at h3;exact⟨h,o,r,v.live h1 h2,h2,h3,h4⟩
theorem aD.view(hD:aX D){n:Nat}{H Hv:List (Ob K)}(hs:aD D ρ S w H)(v:View n H Hv):aD D (ρ.take n) S w Hv:={
 len:=by rw[List.length_take,hs.len,v.len];have:=v.le;omega
 ob:=fun h o r ho hr=>by
  rw[List.getElem?_take,if_pos (v.lt ho)]at hr;rcases v.ob h o ho with rfl|h1
  ·trivial
  ·exact(hs.ob h o r h1 hr).take hD (v.up h o ho)
 ct:=fun h h' o o' r r' b h1 h2 h3 h4 h5 h6 h7 h8=>by
  rw[List.getElem?_take,if_pos (v.lt h1)]at h3;rw[List.getElem?_take,if_pos (v.lt h5)]at h7;exact hs.ct h h' o o' r r' b (v.live h1 h2) h2 h3 h4 (v.live h5 h6) h6 h7 h8
 lt:=fun b hb=>hs.lt b (v.own hb)
 slt:=hs.slt
 base:=hs.base}
structure Joined (n m:Nat) (H Hv H1 Hf:List (Ob K)):Prop where
 le:n<=m
 len1:H1.length=m
 len:Hf.length=H.length
 O0:m<=H.length
 ob:∀(h:Nat) o,Hf[h]?=some o->(h<m/\H1[h]?=some o)\/(H[h]?=some o/\((h<n/\Hv[h]?=some .dead)\/m<=h))
theorem O1{n m:Nat}{ρ ρ1:List Value}(hl:ρ1.length=m)(hm:m<=ρ.length)(k:Nat):(ρ1++ρ.drop m)[k]?=if k<m then ρ1[k]? else ρ[k]?:=by
 by_cases h:k<m
 ·rw[if_pos h,List.getElem?_append_left (by omega)]
 ·rw[if_neg h,List.getElem?_append_right (by omega),List.getElem?_drop];congr 1;omega
theorem aD.join{n m n0:Nat}{H Hv H1 Hf:List (Ob K)}{ρ1:List Value}{S1:Nat->Prop}{w1:World}(hs:aD D ρ S w H)(v:View n H Hv)(hs1:aD D ρ1 S1 w1 H1)(st:Step D n (ρ.take n) S Hv w ρ1 S1 H1 w1)(j:Joined n m H Hv H1 Hf)
 (hd:∀h,n<=h->h<m->ρ[h]?=some dummy) (hn0:n0<=n):aD D (ρ1++ρ.drop m) S1 w1 Hf/\Step D n0 ρ S H w (ρ1++ρ.drop m) S1 Hf w1/\∀(h:Nat) r,ρ[h]?=some r->r≠dummy->(ρ1++ρ.drop m)[h]?=some r:=by
 have hl1:ρ1.length=m:=by rw[hs1.len,j.len1]
 have acj:m<=ρ.length:=by rw[hs.len];exact j.O0
 have hρ:∀k,(ρ1++ρ.drop m)[k]?=if k<m then ρ1[k]? else ρ[k]?:=O1 (n:=n) hl1 acj
 have hpre:∀h,h<n->ρ1[h]?=ρ[h]?:=fun h hh=>by rw[st.pre h hh,List.getElem?_take,if_pos hh]
 have hmono:∀(h:Nat) r,ρ[h]?=some r->r≠dummy->(ρ1++ρ.drop m)[h]?=some r:=fun h r hr hne=>by
  rw[hρ];by_cases h1:h<m
  ·rw[if_pos h1];by_cases h2:h<n
   ·rw[hpre h h2];exact hr
   ·rw[hd h (by omega) h1]at hr;exact absurd (Option.some.inj hr).symm hne
  ·rw[if_neg h1];exact hr
 have hun:∀{h:Nat}{o:Ob K}{r:Value}{b:Nat},H[h]?=some o->o.live=true->ρ[h]?=some r->bj D w o r b->((h<n/\Hv[h]?=some .dead)\/m<=h)->¬Own D w (ρ.take n) Hv b:=fun{h o r b} h1 h2 h3 h4 h5 ho=>by
  obtain⟨h',o',r',g1,g2,g3,g4⟩:=ho;have g3':ρ[h']?=some r':=by rw[List.getElem?_take,if_pos (v.lt g1)]at g3;exact g3
  have e:=hs.ct h h' o o' r r' b h1 h2 h3 h4 (v.live g1 g2) g2 g3' g4;subst e;rcases h5 with⟨-,h5⟩|h5
  ·rw[g1]at h5;simp at h5;subst h5;cases g2
  ·have:=v.lt g1;have:=j.le;omega
 have hblk:∀{h:Nat}{o:Ob K}{r:Value}{b:Nat},H[h]?=some o->o.live=true->ρ[h]?=some r->bj D w o r b->b<w.heap.size/\¬S b:=fun{h o r b} h1 h2 h3 h4=>hs.lt b ⟨h,o,r,h1,h2,h3,h4⟩
 have hkp:∀{h:Nat}{o:Ob K}{r:Value},H[h]?=some o->o.live=true->ρ[h]?=some r->((h<n/\Hv[h]?=some .dead)\/m<=h)->∀b,bj D w o r b->w1.heap[b]?=w.heap[b]?:=fun{h o r} h1 h2 h3 h5 b h4=>st.old b (hblk h1 h2 h3 h4).1 (hun h1 h2 h3 h4 h5)
 have hrr:∀{h:Nat}{o:Ob K}{r:Value},H[h]?=some o->((h<n/\Hv[h]?=some .dead)\/m<=h)->(ρ1++ρ.drop m)[h]?=some r->ρ[h]?=some r:=fun{h o r} _ h5 hr=>by
  rw[hρ]at hr;rcases h5 with⟨h5,-⟩|h5
  ·rw[if_pos (by have:=j.le;omega),hpre h h5]at hr;exact hr
  ·rw[if_neg (by omega)]at hr;exact hr
 have hown:∀b,Own D w1 (ρ1++ρ.drop m) Hf b->Own D w1 ρ1 H1 b\/∃(h:Nat)(o:Ob K)(r:Value),H[h]?=some o/\o.live=true/\ρ[h]?=some r/\bj D w o r b/\((h<n/\Hv[h]?=some .dead)\/m<=h):=fun b hb=>by
  obtain⟨h,o,r,g1,g2,g3,g4⟩:=hb;rcases j.ob h o g1 with⟨k1,k2⟩|⟨k1,k2⟩
  ·rw[hρ,if_pos k1]at g3;exact .inl ⟨h,o,r,k2,g2,g3,g4⟩
  ·exact .inr ⟨h,o,r,k1,g2,hrr k1 k2 g3,g4.old (hkp k1 g2 (hrr k1 k2 g3) k2),k2⟩
 have hnew:∀b,Own D w1 ρ1 H1 b->Own D w (ρ.take n) Hv b\/w.heap.size<=b:=st.own;refine⟨⟨?_,?_,?_,?_,hs1.slt,hs1.base⟩,⟨st.os,st.tape,st.output,st.size,fun b hb ho=>st.old b hb fun h=>ho (v.own h),fun b hb=>?_,st.s1,fun b hb=>?_,fun h hh=>?_⟩,hmono⟩
 ·rw[List.length_append,List.length_drop,hl1,hs.len,j.len];have:=j.O0;omega
 ·intro h o r g1 g2;rcases j.ob h o g1 with⟨k1,k2⟩|⟨k1,k2⟩
  ·rw[hρ,if_pos k1]at g2;refine(hs1.ob h o r k2 g2).mono' (fun _ h=>h) (fun _ _=>rfl) (fun h' r' hr' _=>?_) (fun _ _ _=>rfl);have:h'<m:=by have:=(List.getElem?_eq_some_iff.1 hr').1;omega
   rw[hρ,if_pos this];exact hr'
  ·have g2':=hrr k1 k2 g2;exact(hs.ob h o r k1 g2').mono' st.s1 (fun b hb=>st.old b (hs.slt b hb) fun ho=>(hs.lt b (v.own ho)).2 hb) hmono fun b hl hbk=>st.old b (hblk k1 hl g2' hbk).1 (hun k1 hl g2' hbk k2)
 ·intro h h' o o' r r' b g1 g2 g3 g4 g5 g6 g7 g8;rcases j.ob h o g1 with⟨k1,k2⟩|⟨k1,k2⟩<;>rcases j.ob h' o' g5 with⟨l1,l2⟩|⟨l1,l2⟩
  ·rw[hρ,if_pos k1]at g3;rw[hρ,if_pos l1]at g7;exact hs1.ct h h' o o' r r' b k2 g2 g3 g4 l2 g6 g7 g8
  ·rw[hρ,if_pos k1]at g3;have Dx:=hrr l1 l2 g7;have g8:=g8.old (hkp l1 g6 Dx l2);rcases hnew b ⟨h,o,r,k2,g2,g3,g4⟩with ho|ho
   ·exact absurd ho (hun l1 g6 Dx g8 l2)
   ·have:=(hblk l1 g6 Dx g8).1;omega
  ·rw[hρ,if_pos l1]at g7;have g3':=hrr k1 k2 g3;have g4:=g4.old (hkp k1 g2 g3' k2);rcases hnew b ⟨h',o',r',l2,g6,g7,g8⟩with ho|ho
   ·exact absurd ho (hun k1 g2 g3' g4 k2)
   ·have:=(hblk k1 g2 g3' g4).1;omega
  ·exact hs.ct h h' o o' r r' b k1 g2 (hrr k1 k2 g3) (g4.old (hkp k1 g2 (hrr k1 k2 g3) k2)) l1 g6 (hrr l1 l2 g7) (g8.old (hkp l1 g6 (hrr l1 l2 g7) l2))
 ·intro b hb;rcases hown b hb with ho|⟨h,o,r,k1,k2,k3,k4,k5⟩
  ·exact hs1.lt b ho
  ·obtain⟨a1,a2⟩:=hblk k1 k2 k3 k4;refine⟨Nat.lt_of_lt_of_le a1 st.size,fun hS=>?_⟩;rcases st.s2 b hS with h1|h1|h1
   ·exact a2 h1
   ·exact hun k1 k2 k3 k4 k5 h1
   ·omega
 ·rcases hown b hb with ho|⟨h,o,r,k1,k2,k3,k4,-⟩
  ·rcases hnew b ho with h1|h1
   ·exact .inl (v.own h1)
   ·exact .inr h1
  ·exact .inl ⟨h,o,r,k1,k2,k3,k4⟩
 ·rcases st.s2 b hb with h1|h1|h1
  ·exact .inl h1
  ·exact .inr (.inl (v.own h1))
  ·exact .inr (.inr h1)
 ·rw[hρ,if_pos (by have:=j.le;omega),hpre h (by omega)]
end Go.V
namespace Go.V
open Go
variable {K :bL}{H H':List (Ob K)}
def ba(T:List Nat)(H H':List (Ob K)):Prop:=H.length<=H'.length/\∀h,h<H.length->h∉T->H'[h]?=H[h]?
theorem ba.refl(T:List Nat)(H:List (Ob K)):ba T H H:=⟨Nat.le_refl _,fun _ _ _=>rfl⟩
theorem ba.app(T:List Nat)(H N:List (Ob K)):ba T H (H++N):=⟨by simp,fun h hh _=>List.getElem?_append_left hh⟩
theorem ba.trans{T:List Nat}{H H1 H2:List (Ob K)}(a:ba T H H1)(b:ba T H1 H2):ba T H H2:=
 ⟨Nat.le_trans a.1 b.1,fun h hh hn=>(b.2 h (Nat.lt_of_lt_of_le hh a.1) hn).trans (a.2 h hh hn)⟩
theorem ba.set{T:List Nat}{H:List (Ob K)}{h:Nat}(o:Ob K)(hT:h∈T):ba T H (H.set h o):=
 ⟨by simp,fun k _ hn=>List.getElem?_set_ne (fun e=>hn (by rw[<-e];exact hT))⟩
theorem ba.more{T T':List Nat}{H H1:List (Ob K)}(a:ba T H H1)(h:∀x∈T,x∈T'):ba T' H H1:=⟨a.1,fun k hk hn=>a.2 k hk fun hm=>hn (h k hm)⟩
theorem Dy(dp:K.U->Bool):∀(cs:List (Option K.U))(l:List (AV K))(H:List (Ob K)),∃N,(thaw dp H cs l).2=H++N
 |[],l,H=>⟨[],by simp[thaw]⟩
 |some c::cs,[],H=>⟨[],by simp[thaw]⟩
 |none::cs,[],H=>⟨[],by simp[thaw]⟩
 |oc::cs,v::r,H=>by
  have keep:thaw dp H (oc::cs) (v::r)=(v::(thaw dp H cs r).1,(thaw dp H cs r).2)->∃N,(thaw dp H (oc::cs) (v::r)).2=H++N:=fun e=>by
   rw[e];exact Dy dp cs r H
  cases oc with
  |none=>exact keep (by cases v<;>rfl)
  |some c=>
   cases v with
   |bO=>
    have e:thaw dp H (some c::cs) (.bO::r)=(.sl H.length::(thaw dp (H++[ib (dp c) c]) cs r).1,(thaw dp (H++[ib (dp c) c]) cs r).2):=rfl;rw[e];obtain⟨N,hN⟩:=Dy dp cs r (H++[ib (dp c) c]);exact⟨ib (dp c) c::N,by simp only;rw[hN];simp⟩
   |_=>exact keep rfl
theorem Dz(T:List Nat)(dp:K.U->Bool)(cs:List (Option K.U))(l:List (AV K))(H:List (Ob K)):ba T H (thaw dp H cs l).2:=by
 obtain⟨N,hN⟩:=Dy dp cs l H;rw[hN];exact ba.app _ _ _
theorem ack{T:List Nat}{h:Nat}(hT:h∈T)(H:List (Ob K)):ba T H (nA H h):=by
 unfold nA;split
 ·exact ba.set _ hT
 ·exact ba.set _ hT
 ·exact ba.refl _ _
theorem xG{T:List Nat}:∀(l:List Nat)(H:List (Ob K)),(∀x∈l,x∈T)->ba T H (eb H l)
 |[],H,_=>ba.refl _ _
 |h::r,H,hT=>(ack (hT h (by simp)) H).trans (xG r _ fun x hx=>hT x (by simp[hx]))
def fX(ev:Operand->AV K)(op:Op):List Nat:=(match op with
    |.store _ p _=>hands (ev p)
    |.convert _ _ x=>hands (ev x)
    |.call {callee:=.builtin .append,args, ..}=>(match args.toList with
      |s::x::_=>hands (ev s)++hands (ev x)
      |[s]=>hands (ev s)
      |[]=>[])
    |.call {callee:=.builtin .clear,args, ..}=>(match args.toList with
      |s::_=>hands (ev s)
      |[]=>[])
    |.call {callee:=.builtin .copy,args, ..}=>(match args.toList with
      |s::_=>hands (ev s)
      |[]=>[])
    |.mapUpdate _ m _ _=>hands (ev m)
    |.mapEntry _ m _=>hands (ev m)
    |.entryStore _ m _ _=>hands (ev m)
    |_=>[])
theorem acm{cx:Cx K}{sT:TypeId}{s x v:AV K}{c:Bool}{t:List Nat}(h:tW cx H sT s x=some (v,H',c,t)):ba (hands s) H H':=by
 unfold tW at h;split at h
 ·split at h
  ·split at h
   ·split at h
    ·split at h
     ·simp only[Option.some.injEq,Prod.mk.injEq]at h;rw[<-h.2.1];exact(ba.set _ (by simp[hands])).trans (ba.app _ _ _)
     ·cases h
    ·cases h
   ·cases h
  ·cases h
 ·cases h
theorem acn{cx:Cx K}{sT:TypeId}{s x v:AV K}{c:Bool}{t:List Nat}(h:wO cx H sT s x=some (v,H',c,t)):ba (hands s) H H':=by
 unfold wO at h;split at h
 ·cases h
 ·split at h
  ·cases h
  ·split at h
   ·split at h
    ·cases h
    ·split at h
     ·simp only[Option.some.injEq,Prod.mk.injEq]at h;rw[<-h.2.1];exact ba.app _ _ _
     ·split at h
      ·split at h
       ·cases h
       ·split at h
        ·simp only[Option.some.injEq,Prod.mk.injEq]at h;rw[<-h.2.1];exact(ba.set _ (by simp[hands])).trans (ba.app _ _ _)
        ·cases h
      ·split at h
       ·simp only[Option.some.injEq,Prod.mk.injEq]at h;rw[<-h.2.1];exact(ba.set _ (by simp[hands])).trans (ba.app _ _ _)
       ·cases h
     ·cases h
   ·cases h
theorem O2{cx:Cx K}{ev:Operand->AV K}{op:Op}{v:AV K}{c:Bool}{t:List Nat}(h:jN cx ev H op=some (v,H',c,t)):ba (fX ev op) H H':=by
 unfold jN at h;split at h
 ·split at h
  ·dsimp only at h;split at h
   ·cases h
   ·simp only[Option.some.injEq,Prod.mk.injEq]at h;rw[<-h.2.1];exact(Dz _ _ _ _ _).trans (ba.app _ _ _)
  ·cases h
 ·split at h
  ·split at h
   ·dsimp only at h;split at h
    ·cases h
    ·simp only[Option.some.injEq,Prod.mk.injEq]at h;rw[<-h.2.1];exact(Dz _ _ _ _ _).trans (ba.app _ _ _)
   ·cases h
  ·split at h
   ·simp only[Option.some.injEq,Prod.mk.injEq]at h;rw[<-h.2.1];exact ba.app _ _ _
   ·cases h
 ·split at h
  ·split at h
   ·simp only[Option.map_eq_some_iff,Prod.mk.injEq]at h;obtain⟨cs,-,-,rfl,-⟩:=h;exact ba.refl _ _
   ·cases h
  ·cases h
 ·split at h
  ·split at h
   ·split at h
    ·rename_i hh off hp;split at h
     ·split at h
      ·dsimp only at h;split at h
       ·cases h
       ·simp only[Option.some.injEq,Prod.mk.injEq]at h;rw[<-h.2.1];refine(Dz _ _ _ _ _).trans (ba.set _ ?_);simp only[fX,hp,hands,List.mem_singleton]
      ·cases h
     ·cases h
    ·rename_i hh st i off hp;split at h
     ·split at h
      ·split at h
       ·simp only[Option.some.injEq,Prod.mk.injEq]at h;rw[<-h.2.1];refine ba.set _ ?_;simp only[fX,hp,hands,List.mem_singleton]
       ·cases h
      ·cases h
     ·cases h
    ·cases h
   ·cases h
  ·cases h
 ·split at h
  ·cases h
  ·split at h
   ·split at h
    ·split at h
     ·simp only[Option.some.injEq,Prod.mk.injEq]at h;rw[<-h.2.1];exact ba.app _ _ _
     ·cases h
    ·cases h
   ·cases h
 ·split at h
  ·cases h
  ·split at h
   ·split at h
    ·split at h
     ·simp only[Option.some.injEq,Prod.mk.injEq]at h;rw[<-h.2.1];exact ba.app _ _ _
     ·cases h
    ·cases h
   ·cases h
 ·split at h
  ·split at h
   ·split at h
    ·split at h
     ·simp only[Option.some.injEq,Prod.mk.injEq]at h;rw[<-h.2.1];exact ba.app _ _ _
     ·cases h
    ·cases h
   ·cases h
  ·split at h
   ·split at h
    ·simp only[Option.some.injEq,Prod.mk.injEq]at h;rw[<-h.2.1];exact ba.refl _ _
    ·cases h
   ·cases h
  ·cases h
 ·split at h
  ·simp only[Option.some.injEq,Prod.mk.injEq]at h;rw[<-h.2.1];exact ba.app _ _ _
  ·simp only[Option.some.injEq,Prod.mk.injEq]at h;rw[<-h.2.1];exact ba.app _ _ _
 ·split at h
  ·rename_i k hT hh ks z hmm hm hks hz;split at h
   ·split at h
    ·simp only[Option.some.injEq,Prod.mk.injEq]at h;rw[<-h.2.1];refine ba.set _ ?_;simp only[fX,hm,hands,List.mem_singleton]
    ·cases h
   ·cases h
  ·cases h
 ·split at h
  ·rename_i k hT hh ks hmm hm hks;split at h
   ·split at h
    ·simp only[Option.some.injEq,Prod.mk.injEq]at h;rw[<-h.2.1];refine ba.set _ ?_;simp only[fX,hm,hands,List.mem_singleton]
    ·cases h
   ·cases h
  ·cases h
 ·split at h
  ·rename_i k hT hh i z hmm hm hi hz;split at h
   ·split at h
    ·simp only[Option.some.injEq,Prod.mk.injEq]at h;rw[<-h.2.1];refine ba.set _ ?_;simp only[fX,hm,hands,List.mem_singleton]
    ·cases h
   ·cases h
  ·cases h
 ·split at h
  ·rename_i s x sT xT ha ht;split at h
   ·cases h
   split at h
   ·refine(acm h).more fun y hy=>?_
    simp only[fX,ha];exact List.mem_append.2 (.inl hy)
   ·refine(acn h).more fun y hy=>?_
    simp only[fX,ha];exact List.mem_append.2 (.inl hy)
  ·cases h
 ·split at h
  ·rename_i x T ha ht;split at h
   ·rename_i h' st lo hi e hx he;split at h
    ·split at h
     ·split at h
      ·simp only[Option.some.injEq,Prod.mk.injEq]at h;rw[<-h.2.1];refine ba.set _ ?_;simp only[fX,ha,hx,hands,List.mem_singleton]
      ·cases h
     ·cases h
    ·cases h
   ·cases h
  ·cases h
 ·split at h
  ·rename_i x y T T2 ha ht;split at h
   ·rename_i h' st lo hi s e hx hy he;split at h
    ·split at h
     ·split at h
      ·simp only[Option.some.injEq,Prod.mk.injEq]at h;rw[<-h.2.1];refine ba.set _ ?_;simp only[fX,ha,hx,hands,List.mem_singleton]
      ·cases h
     ·cases h
    ·cases h
   ·cases h
  ·cases h
 ·cases h
mutual
theorem eO:∀(v:AV K){y:Nat},y∈hands (bW H v)->y∈hands v
 |.sl k,y,h=>by
   simp only[bW]at h;split at h
   ·simp[hands]at h
   ·exact h
 |.vw k a b c,y,h=>by
   simp only[bW]at h;split at h
   ·split at h
    ·simp[hands]at h
    ·exact h
   ·exact h
 |.ptr k o,y,h=>by
   simp only[bW]at h;split at h
   ·simp[hands]at h
   ·exact h
 |.agg l,y,h=>by simp only[bW,hands]at h⊢;exact DC l h
 |.bc l,y,h=>by simp only[bW,hands]at h⊢;exact DC l h
 |.any,y,h|.int _ _,y,h|.bool _,y,h|.str _,y,h|.bN,y,h|.bO,y,h|.mp,y,h|.fn _ _,y,h|.ep _ _ _ _,y,h|.au _ _,y,h|.rp _ _ _,y,h|.np _,y,h|.opt _ _ _,y,h=>by simpa only[bW]using h
theorem DC:∀(l:List (AV K)){y:Nat},y∈bg (gw H l)->y∈bg l
 |[],y,h=>by simpa [gw]using h
 |v::r,y,h=>by
  simp only[gw,bg,List.mem_append]at h⊢;exact h.imp (eO v) (DC r)
end
theorem O3{ev:Operand->AV K}{op:Op}{y:Nat}(h:y∈fX (fun x=>bW H (ev x)) op):y∈fX ev op:=by
 unfold fX at h⊢;split at h
 ·exact eO _ h
 ·exact eO _ h
 ·split at h
  ·rename_i hs;rcases List.mem_append.1 h with h|h
   ·exact List.mem_append.2 (.inl (eO _ h))
   ·exact List.mem_append.2 (.inr (eO _ h))
  ·exact eO _ h
  ·simp at h
 ·split at h
  ·exact eO _ h
  ·simp at h
 ·split at h
  ·exact eO _ h
  ·simp at h
 ·exact eO _ h
 ·exact eO _ h
 ·exact eO _ h
 ·simp at h
theorem uB{T:List Nat}:∀(l:List Nat)(H:List (Ob K)),(∀x∈l,x∈T)->ba T H (cR H l)
 |[],H,_=>ba.refl _ _
 |h::r,H,hT=>(ba.set _ (hT h (by simp))).trans (uB r _ fun x hx=>hT x (by simp[hx]))
theorem O4{c:K.U}{v:AV K}{l:List (K.El c)}{ks:List Nat}(h:jQ H c v=some (l,ks)):∀x∈ks,x∈hands v:=fun x hx=>by
 unfold jQ at h;split at h
 ·simp only[Option.some.injEq,Prod.mk.injEq]at h;obtain⟨rfl,rfl⟩:=h;cases hx
 ·split at h
  ·split at h
   ·simp only[Option.some.injEq,Prod.mk.injEq]at h;obtain⟨-,rfl⟩:=h;simpa [hands]using hx
   ·cases h
  ·cases h
 ·cases h
theorem O5{ev:Operand->AV K}{x:Nat}:∀(l:List (Nat×Operand)),x∈bg (l.map fun p=>bW H (ev p.2))->x∈bg (l.map fun p=>ev p.2)
 |[],h=>h
 |y::r,h=>by
  simp only[List.map_cons,bg,List.mem_append]at h⊢;exact h.imp (eO _) (O5 r)
theorem O6{v:AV K}{a b c d:Nat}(h:bW H v=.ep a b c d):v=.ep a b c d:=by
 cases v<;>simp[bW]at h⊢<;>first|exact h|(split at h<;>first|cases h|(split at h<;>cases h))
theorem aco{cx:Cx K}{ev:Operand->AV K}{op:Op}{v:AV K}{c:Bool}{t:List Nat}(h:lB cx (fun x=>bW H (ev x)) H op=some (v,H',c,t)):ba (ew ev op) H H':=by
 unfold lB at h;split at h
 ·split at h
  ·cases h
  ·split at h
   ·split at h
    ·split at h
     ·split at h
      ·simp only[Option.some.injEq,Prod.mk.injEq]at h;rw[<-h.2.1];exact ba.app _ _ _
      ·cases h
     ·cases h
    ·cases h
   ·cases h
 ·rename_i T len parts;split at h
  ·cases h
  ·split at h
   ·rename_i hty hl;split at h
    ·split at h
     ·split at h
      ·simp only[Option.some.injEq,Prod.mk.injEq]at h;rw[<-h.2.1];refine ba.trans (uB _ _ fun x hx=>?_) (ba.app _ _ _);rw[(xl _ _ _ hl).1]at hx;simp only[ew,eZ,List.append_nil];exact O5 _ hx
      ·cases h
     ·cases h
    ·cases h
   ·cases h
 ·rename_i T p x;split at h
  ·rename_i h0 st i off n0 hp hn;split at h
   ·split at h
    ·split at h
     ·split at h
      ·simp only[Option.some.injEq,Prod.mk.injEq]at h;rw[<-h.2.1];have q1:=O6 hp;have hmem:∀y∈h0::bg (bW H (ev x)).aZ,y∈ew ev (.store T p x):=fun y hy=>by
        simp only[ew,eZ,q1,List.mem_append];rcases List.mem_cons.1 hy with rfl|hy
        ·exact .inr (by simp[hands])
        ·rw[C5]at hy;exact .inl (eO _ hy)
       exact(uB _ _ hmem).trans (ba.set _ (hmem _ (by simp)))
      ·cases h
     ·cases h
    ·cases h
   ·split at h
    ·split at h
     ·split at h
      ·simp only[Option.some.injEq,Prod.mk.injEq]at h;rw[<-h.2.1];have q1:=O6 hp;have hmem:∀y∈h0::bg (bW H (ev x)).aZ,y∈ew ev (.store T p x):=fun y hy=>by
        simp only[ew,eZ,q1,List.mem_append];rcases List.mem_cons.1 hy with rfl|hy
        ·exact .inr (by simp[hands])
        ·rw[C5]at hy;exact .inl (eO _ hy)
       exact(uB _ _ hmem).trans (ba.set _ (hmem _ (by simp)))
      ·cases h
     ·cases h
    ·cases h
   ·cases h
  ·cases h
 ·rename_i args argTypes;split at h
  ·rename_i s x sT xT hargs hat;split at h
   ·cases h
   ·split at h
    ·cases h
    ·split at h
     ·cases h
     ·split at h
      ·split at h
       ·rename_i l ks m ks' hl hm;split at h
        ·simp only[Option.some.injEq,Prod.mk.injEq]at h;rw[<-h.2.1];refine ba.trans (uB _ _ fun y hy=>?_) (ba.app _ _ _);simp only[ew,eZ,hargs,List.nil_append,List.mem_append];rcases List.mem_append.1 hy with hy|hy
         ·exact .inl (eO _ (O4 hl y hy))
         ·exact .inr (eO _ (O4 hm y hy))
        ·cases h
       ·cases h
      ·cases h
  ·cases h
 ·cases h
theorem acp{cx:Cx K}{ev:Operand->AV K}{op:Op}{v:AV K}{c:Bool}{t:List Nat}(h:lF cx ev H op=some (v,H',c,t)):ba (ew ev op) H H':=by
 have e:ew ev op=eZ ev op++fX ev op:=rfl;unfold lF at h;split at h
 ·rename_i r hd;simp only[Option.some.injEq]at h;subst h;exact aco hd
 split at h
 ·refine(O2 h).more fun y hy=>?_
  rw[e,List.mem_append];exact .inr (O3 hy)
 ·have hz:ba (ew ev op) H (eb H (eZ ev op)):=xG _ _ fun x hx=>by rw[e,List.mem_append];exact .inl hx
  split at h
  ·simp only[Option.some.injEq,Prod.mk.injEq]at h;rw[<-h.2.1];exact hz
  ·refine hz.trans ((O2 h).more fun y hy=>?_);rw[e,List.mem_append];exact .inr (O3 hy)
theorem acr{cx:Cx K}{ev:Operand->AV K}{op:Op}{v:AV K}{c:Bool}{t:List Nat}(h:cutV cx ev H op=some (v,H',c,t)):ba (ew ev op) H H':=by
 unfold cutV at h;split at h
 ·split at h
  ·split at h
   ·rename_i hx hy he;split at h
    ·split at h
     ·simp only[Option.some.injEq,Prod.mk.injEq]at h;rw[<-h.2.1];refine ba.trans (ba.set _ ?_) (ba.app _ _ _);simp[ew,eZ,hx]
     ·cases h
    ·split at h
     ·simp only[Option.some.injEq,Prod.mk.injEq]at h;rw[<-h.2.1];refine ba.trans (ba.set _ ?_) (ba.app _ _ _);simp[ew,eZ,hx]
     ·cases h
    ·cases h
   ·cases h
  ·cases h
 ·split at h
  ·split at h
   ·rename_i hx hy he;split at h
    ·split at h
     ·simp only[Option.some.injEq,Prod.mk.injEq]at h;rw[<-h.2.1];refine ba.trans (ba.set _ ?_) (ba.app _ _ _);simp[ew,eZ,hx]
     ·cases h
    ·split at h
     ·simp only[Option.some.injEq,Prod.mk.injEq]at h;rw[<-h.2.1];refine ba.trans (ba.set _ ?_) (ba.app _ _ _);simp[ew,eZ,hx]
     ·cases h
    ·cases h
   ·cases h
  ·cases h
 ·cases h
theorem DD{cx:Cx K}{m:Mode}(hm:m=.dN\/m=.fresh){T:List Nat}{f:FuncId}{args:List (AV K)}{v:AV K}{c:Bool}{t:List Nat}(h:fP cx m H f args=some (v,H',c,t)):ba T H H':=by
 unfold fP at h;rcases hm with rfl|rfl
 ·simp only at h;split at h
  ·split at h
   ·split at h
    ·simp only[Option.some.injEq,Prod.mk.injEq]at h;rw[<-h.2.1];exact ba.app _ _ _
    ·cases h
   ·cases h
  ·cases h
 ·simp only at h;split at h
  ·split at h
   ·split at h
    ·split at h
     ·simp only[Option.some.injEq,Prod.mk.injEq]at h;rw[<-h.2.1];exact ba.app _ _ _
     ·cases h
    ·cases h
   ·cases h
  ·cases h
theorem O7:∀(m:List Nat)(H os:List (Ob K)){T:List Nat},(∀x∈m,x∈T)->ba T H (eu H m os)
 |[],H,os,T,_=>by cases os<;>exact ba.refl _ _
 |h::m,H,[],T,_=>ba.refl _ _
 |h::m,H,o::r,T,hm=>by
  simp only[eu];exact ba.trans (ba.set _ (hm h (by simp))) (O7 m _ r fun x hx=>hm x (by simp[hx]))
theorem O8{cx:Cx K}{T:List Nat}{f:FuncId}{args:List (AV K)}{v:AV K}{c:Bool}{t:List Nat}(h:fP cx .pass H f args=some (v,H',c,t))(hT:∀x∈reach H 64 (bg args) [],x∈T):ba T H H':=by
 unfold fP at h;simp only at h;split at h
 ·cases h
 ·split at h
  ·split at h
   ·split at h
    ·split at h
     ·simp only[Option.some.injEq,Prod.mk.injEq]at h;rw[<-h.2.1];exact ba.trans (O7 _ _ _ hT) (ba.app _ _ _)
     ·cases h
    ·cases h
   ·cases h
  ·cases h
theorem acs{cx:Cx K}{ev:Operand->AV K}{t:TypeId}{p:Operand}{v:AV K}{c:Bool}{ts:List Nat}(h:lD cx ev H (.load t p)=some (v,H',c,ts)):ba (hands (ev p)) H H':=by
 unfold lD at h;simp only at h;split at h
 ·split at h
  ·rename_i hh st i off ag n hp hag hn;split at h
   ·split at h
    ·split at h
     ·simp only[Option.some.injEq,Prod.mk.injEq]at h;rw[<-h.2.1,hp];exact(ba.set _ (by simp[hands])).trans (ba.app _ _ _)
     ·cases h
    ·cases h
   ·cases h
  ·cases h
 ·cases h
theorem acu{cx:Cx K}{tm:List (AV K)}{T t:TypeId}{p:Operand}{v:AV K}{c:Bool}{ts:List Nat}(hn:dO cx (.load t p)=false)(h:dV false cx tm [] H T (.load t p)=some (v,H',c,ts)):
 ba (match iC cx (fun x=>bW H (ca tm [] x)) H (.load t p)with
  |some _=>[]
  |none=>hands (ca tm [] p)) H H':=by
 unfold dV at h;simp only at h;split at h
 ·rename_i v1 c1 hp;rw[hp];simp only[Option.some.injEq,Prod.mk.injEq]at h;rw[<-h.2.1];exact ba.refl _ _
 ·rename_i hp;rw[hp];simp only[Bool.false_eq_true,if_false,hn]at h;split at h
  ·rename_i hov;simp only[Option.some.injEq]at h;rw[h]at hov;exact acs hov
  ·split at h
   ·rename_i hct;simp[cutV]at hct
   ·simp[lF,lB,eZ,jN]at h
theorem acv{cx:Cx K}{tm:List (AV K)}{gs:List (Nat×Bool)}{T:TypeId}{op:Op}{v:AV K}{c:Bool}{t:List Nat}(he:lG cx op=true)(hnl:∀a b,op≠.load a b)(h:dV false cx tm gs H T op=some (v,H',c,t)):ba ((ew (ca tm gs) op++B0 (ca tm gs) op)++rI cx H (ca tm gs) op) H H':=by
 unfold dV at h;split at h
 ·simp[lG]at he
 ·rename_i fo args _;cases fo with
  |func f=>
   have hf:(cx.mode f=.fresh\/(cx.mode f=.pass\/cx.mode f=.fG))/\(cx.opn=false\/cx.lz=true):=by simpa [lG]using he
   have Dk:(cx.opn&& !cx.lz&& !false)=false:=by rcases hf.2 with e|e<;>simp[e]
   have e:ca tm gs (.func f)=(.fn f []:AV K):=rfl;rw[e]at h;simp only[rH,Dk,Bool.false_eq_true,if_false,List.append_nil]at h
   replace hf:=hf.1
   rcases hf with hf|hf|hf
   rotate_left
   ·simp only[jP,hf,Bool.false_eq_true,if_false]at h;refine O8 h fun x hx=>List.mem_append.2 (.inr ?_)
    simp only[rI,hf];exact hx
   ·simp only[jP,hf,Bool.false_eq_true,if_false,nF]at h;refine ba.trans (xG _ _ fun x hx=>List.mem_append.2 (.inr ?_)) (O8 h fun x hx=>List.mem_append.2 (.inr ?_))
    ·simp only[rI,hf];exact List.mem_append.2 (.inl hx)
    ·simp only[rI,hf];exact List.mem_append.2 (.inr hx)
   simp only[jP,hf,Bool.false_eq_true,if_false]at h;split at h
   ·rename_i hc;simp only[Option.some.injEq]at h;rw[h]at hc;exact DD (.inl rfl) hc
   ·split at h
    ·rename_i hc;simp only[Option.some.injEq]at h;rw[h]at hc;exact DD (.inr rfl) hc
    ·unfold nF at h;refine ba.trans (xG _ _ fun x hx=>?_) (DD (.inl rfl) h);refine List.mem_append.2 (.inl (List.mem_append.2 (.inr ?_)));have key:∀l:List Operand,x∈bg (l.map fun y=>bW H (ca tm gs y))->x∈bg (l.map (ca tm gs)):=fun l=>by
      induction l with
      |nil=>exact fun h=>h
      |cons y r ih=>
       simp only[List.map_cons,bg,List.mem_append];exact fun h=>h.imp (eO _) ih
     exact key _ hx
  |_=>simp[lG]at he
 ·simp[lG]at he
 ·split at h
  ·simp only[Option.some.injEq,Prod.mk.injEq]at h;rw[<-h.2.1];exact ba.refl _ _
  ·rw[if_neg (by simp)]at h;split at h
   ·cases h
   ·split at h
    ·rename_i hov;exfalso;unfold lD at hov;split at hov
     ·exact hnl _ _ rfl
     ·cases hov
    split at h
    ·rename_i hct;simp only[Option.some.injEq]at h;rw[h]at hct;exact(acr hct).more fun x hx=>List.mem_append.2 (.inl (List.mem_append.2 (.inl hx)))
    ·exact(acp h).more fun x hx=>List.mem_append.2 (.inl (List.mem_append.2 (.inl hx)))
theorem O9:∀(l:List Nat)(h:Nat),(bitsOf l).testBit h=true↔h∈l
 |[],h=>by simp[bitsOf]
 |k::r,h=>by
  simp only[bitsOf,Nat.testBit_or,Bool.or_eq_true,O9 r,Nat.testBit_two_pow,decide_eq_true_eq,List.mem_cons];exact⟨fun h=>h.imp Eq.symm id,fun h=>h.imp Eq.symm id⟩
theorem Pe{A:Nat}:∀(ws:List Nat)(i h:Nat),(rK A i ws).testBit h=true↔∃(k:Nat)(b:Nat),ws[k]?=some b/\A.testBit (i+k)=false/\b.testBit h=true
 |[],i,h=>by simp[rK]
 |b::r,i,h=>by
  simp only[rK,Nat.testBit_or,Bool.or_eq_true,Pe r];constructor
  ·rintro (h1|⟨k,b',h1,h2,h3⟩)
   ·split at h1
    ·simp at h1
    ·rename_i hA;exact⟨0,b,rfl,by simpa using hA,h1⟩
   ·exact⟨k+1,b',by simpa using h1,by rw[show i+(k+1)=i+1+k by omega];exact h2,h3⟩
  ·rintro ⟨k,b',h1,h2,h3⟩
   cases k with
   |zero=>simp at h1;subst h1;left;rw[if_neg (by simpa using h2)];exact h3
   |succ k=>exact .inr ⟨k,b',by simpa using h1,by rw[show i+1+k=i+(k+1) by omega];exact h2,h3⟩
theorem Pg{A:Nat}{T:List Nat}:∀(ms:List (Nat×Nat))(i:Nat),wR A T i ms=true->∀(k m n:Nat),ms[k]?=some (m,n)->A.testBit (i+k)=false->∀h∈T,h<n->m.testBit h=true
 |[],i,_,k,m,n,h,_=>by simp at h
 |(m0,n0)::r,i,hr,k,m,n,hk,hA=>by
  simp only[wR,Bool.and_eq_true,Bool.or_eq_true,List.all_eq_true,decide_eq_true_eq]at hr;cases k with
  |zero=>
   simp at hk;obtain⟨rfl,rfl⟩:=hk;intro h hT hn;rcases hr.1 with h1|h1
   ·rw[Nat.add_zero]at hA;rw[hA]at h1;cases h1
   ·rcases h1 h hT with h2|h2
    ·omega
    ·exact h2
  |succ k=>exact Pg r (i+1) hr.2 k m n (by simpa using hk) (by rw[show i+1+k=i+(k+1) by omega];exact hA)
end Go.V
namespace Go.V
open Go
variable {K :bL}{H H':List (Ob K)}
theorem Ph{cx:Cx K}{tm:List (AV K)}{T:TypeId}{op:Op}{v:AV K}{c:Bool}{t:List Nat}(he:lG cx op=true)(hq:fR cx op=false)(h:dV false cx tm [] H T op=some (v,H',c,t)):ba (jd cx tm H op) H H':=by
 by_cases hl:∃a b,op=.load a b
 ·obtain⟨a,b,rfl⟩:=hl;have:jd cx tm H (.load a b)=(match iC cx (fun x=>bW H (ca tm [] x)) H (.load a b)with
   |some _=>[]
   |none=>hands (ca tm [] b)):=by unfold jd;rw[hq];rfl
  rw[this];exact acu hq h
 ·have:jd cx tm H op=(ew (ca tm []) op++B0 (ca tm []) op)++rI cx H (ca tm []) op:=by
   unfold jd;rw[hq];simp only[Bool.false_eq_true,if_false];split
   ·rename_i a b;exact absurd ⟨a,b,rfl⟩ hl
   ·rfl
  rw[this];exact acv he (fun a b e=>hl ⟨a,b,e⟩) h
theorem acw{cx:Cx K}{ops:List Oper}{tm:List (AV K)}{wr:List Nat}{o:Oper}{v:AV K}{c:Bool}(h:rJ cx ops tm H wr o=some (v,H',c)):ba (jd cx tm H o.op) H H':=by
 unfold rJ at h;split at h
 ·rename_i hq;have:H'=H:=by
   unfold cD at h;split at h
   ·cases h
   ·split at h
    ·rename_i hy;split at h
     ·cases h
     ·simp only[Option.some.injEq,Prod.mk.injEq]at h;obtain⟨-,rfl,-⟩:=h;exact oa hy
    ·cases h
   ·split at h
    ·split at h
     ·split at h
      ·split at h
       ·rename_i hy;split at h
        ·cases h
        ·simp only[Option.some.injEq,Prod.mk.injEq]at h;obtain⟨-,rfl,-⟩:=h;exact oa hy
       ·cases h
      ·simp only[Option.some.injEq,Prod.mk.injEq]at h;exact h.2.1.symm
     ·cases h
    split at h
    ·cases h
    ·split at h
     ·split at h
      ·simp only[Option.some.injEq,Prod.mk.injEq]at h;exact h.2.1.symm
      ·cases h
     ·cases h
  subst this;exact ba.refl _ _
 ·rename_i hq;split at h
  ·rename_i he;have hq':fR cx o.op=false:=by simpa using hq
   unfold cD at h;split at h
   ·cases h
   ·split at h
    ·rename_i hy;split at h
     ·cases h
     ·simp only[Option.some.injEq,Prod.mk.injEq]at h;obtain⟨-,rfl,-⟩:=h;exact Ph he hq' hy
    ·cases h
   ·split at h
    ·split at h
     ·split at h
      ·split at h
       ·rename_i hy;split at h
        ·cases h
        ·simp only[Option.some.injEq,Prod.mk.injEq]at h;obtain⟨-,rfl,-⟩:=h;exact Ph he hq' hy
       ·cases h
      ·simp only[Option.some.injEq,Prod.mk.injEq]at h;rw[<-h.2.1];exact ba.refl _ _
     ·cases h
    split at h
    ·cases h
    ·split at h
     ·split at h
      ·simp only[Option.some.injEq,Prod.mk.injEq]at h;rw[<-h.2.1];exact ba.refl _ _
      ·cases h
     ·cases h
  ·cases h
structure fy (K:bL) where
 vals:Nat->AV K
 hin:Nat->List (Ob K)
 hout:Nat->List (Ob K)
 mask:Nat->Nat
 T:Nat->List Nat
def fy.W(F:fy K)(k h:Nat):Prop:=h∈F.T k\/((F.hin k).length<=h/\h<(F.hout k).length)
structure sn (cx:Cx K) (L:List Oper) (bs:List Nat) (aW:List (AV K)) (F:fy K) (i:Nat) (o:Oper) (bp:List (AV K)) (bP:List Nat):Prop where
 slot:rJ cx L (cf (cr bs i) L 0 bp) (dX (F.mask i) 0 (F.hin i)) bP o=some (F.vals i,F.hout i,true)
 up:jc (F.hin i).length (cf (cr bs i) L 0 bp)=true
 xH:(dX (F.mask i) 0 (F.hin i)).all (Ob.upto (F.hin i).length)=true
 turns:ba (F.T i) (dX (F.mask i) 0 (F.hin i)) (F.hout i)
 len:bp.length=aW.length
 fin:∀(k:Nat) o' d,L[k]?=some o'->o'.dst=some d->k<i->bp[d]?=some (F.vals k)
 rest:∀t,(∀(k:Nat) o,k<i->L[k]?=some o->o.dst≠some t)->bp[t]?=aW[t]?
 bP:∀d∈bP,∃(k:Nat)(o':Oper),k<i/\L[k]?=some o'/\o'.dst=some d
structure dm (cx:Cx K) (L:List Oper) (bs:List Nat) (H0:List (Ob K)) (aW:List (AV K)) (F:fy K) (n:Nat) (tm:List (AV K)) (H:List (Ob K)) (wr:List Nat) (ms:List (Nat×Nat)) (ws:List Nat):Prop where
 len:tm.length=aW.length
 uniq:∀(i j:Nat) o o' d,i<n->j<n->L[i]?=some o->L[j]?=some o'->o.dst=some d->o'.dst=some d->i=j
 inb:∀(i:Nat) o d,i<n->L[i]?=some o->o.dst=some d->d<aW.length
 fin:∀(i:Nat) o d,i<n->L[i]?=some o->o.dst=some d->tm[d]?=some (F.vals i)
 rest:∀t,(∀(k:Nat) o,k<n->L[k]?=some o->o.dst≠some t)->tm[t]?=aW[t]?
 eN:∀d,d∈wr↔∃(k:Nat)(o':Oper),k<n/\L[k]?=some o'/\o'.dst=some d
 slot:∀(i:Nat) o,i<n->L[i]?=some o->∃bp bP,sn cx L bs aW F i o bp bP
 h0:F.hin 0=H0
 hn:F.hin n=H
 hs:∀i,i<n->F.hin (i+1)=fq (F.mask i) 0 (F.hin i) (F.hout i)/\(F.hin i).length<=(F.hout i).length
 uC:ms.length=n
 uD:ws.length=n
 ms:∀i,i<n->ms[i]?=some (F.mask i,(F.hin i).length)
 ws:∀i,i<n->∃b,ws[i]?=some b/\∀h,b.testBit h=true↔F.W i h
 masks:∀i,i<n->∀h,(∃k,k<i/\(bs.getD i 0).testBit k=false/\F.W k h)->(F.mask i).testBit h=true
 clear:∀k,k<n->∀h∈F.T k,(F.mask k).testBit h=false/\h<(F.hin k).length
 readers:∀k,k<n->∀i,i<k->(bs.getD k 0).testBit i=false->∀h∈F.T k,h<(F.hin i).length->(F.mask i).testBit h=true
theorem DF{cx:Cx K}{L:List Oper}{bs:List Nat}:∀(l:List Oper)(i:Nat)(st st':St K)(wr wr':List Nat)(ms:List (Nat×Nat))(ws:List Nat),jS cx L bs l i st wr ms ws=some (st',wr')->st'.ok=true->st.ok=true
 |[],i,st,st',wr,wr',ms,ws,h,hok=>by simp only[jS,Option.some.injEq,Prod.mk.injEq]at h;rw[h.1];exact hok
 |o::r,i,st,st',wr,wr',ms,ws,h,hok=>by
  simp only[jS]at h;split at h
  ·split at h
   ·cases h
   ·split at h
    ·split at h
     ·rename_i st1 di hp;obtain⟨p1,p2,-⟩:=iL hp;have q1:=DF r (i+1) st1 st' di wr' _ _ h hok;rw[p2]at q1;simp only[Bool.and_eq_true]at q1;exact q1.2
     ·cases h
    ·cases h
  ·cases h
theorem Pj{cx:Cx K}{L:List Oper}{bs:List Nat}{H0:List (Ob K)}{aW:List (AV K)}:∀(l:List Oper)(n:Nat)(st st':St K)(wr wr':List Nat)(ms:List (Nat×Nat))(ws:List Nat)(F:fy K),jS cx L bs l n st wr ms ws=some (st',wr')->st'.ok=true->
 (∀j,l[j]?=L[n+j]?)->n+l.length=L.length->dm cx L bs H0 aW F n st.tm st.H wr ms ws->∃F' ms' ws',dm cx L bs H0 aW F' L.length st'.tm st'.H wr' ms' ws'
 |[],n,st,st',wr,wr',ms,ws,F,h,hok,hl,hn,hp=>by
   simp only[jS,Option.some.injEq,Prod.mk.injEq]at h;obtain⟨rfl,rfl⟩:=h;simp at hn;subst hn;exact⟨F,ms,ws,hp⟩
 |o::r,n,st,st',wr,wr',ms,ws,F,h,hok,hl,hn,hp=>by
  have hLn:L[n]?=some o:=by have:=hl 0;simpa using this.symm
  simp only[jS]at h;split at h
  ·rename_i hup;simp only[Bool.and_eq_true]at hup;split at h
   ·cases h
   ·rename_i v H1 c hsv;split at h
    ·rename_i hrd;simp only[Bool.and_eq_true,decide_eq_true_eq]at hrd;split at h
     ·rename_i st1 di hput;obtain⟨p1,p2,p3⟩:=iL hput;have hok1:=DF r (n+1) st1 st' di wr' _ _ h hok;rw[p2]at hok1;simp only[Bool.and_eq_true]at hok1;obtain⟨rfl,-⟩:=hok1;have acx:=hp.hn
      let mk:=jR bs ws n (cf (cr bs n) L 0 st.tm) st.H.length o.op
      let TT:=jd cx (cf (cr bs n) L 0 st.tm) (dX mk 0 st.H) o.op
      let F':fy K:={vals:=fun i=>if i=n then v else F.vals i,hin:=fun i=>if i=n+1 then fq mk 0 st.H H1 else F.hin i,hout:=fun i=>if i=n then H1 else F.hout i,mask:=fun i=>if i=n then mk else F.mask i,T:=fun i=>if i=n then TT else F.T i}
      have ev:∀i,i<n->F'.vals i=F.vals i:=fun i hi=>by simp[F',show i≠n by omega]
      have eh:∀i,i<=n->F'.hin i=F.hin i:=fun i hi=>by simp[F',show i≠n+1 by omega]
      have eo:∀i,i<n->F'.hout i=F.hout i:=fun i hi=>by simp[F',show i≠n by omega]
      have em:∀i,i<n->F'.mask i=F.mask i:=fun i hi=>by simp[F',show i≠n by omega]
      have eT:∀i,i<n->F'.T i=F.T i:=fun i hi=>by simp[F',show i≠n by omega]
      have nv:F'.vals n=v:=by simp[F']
      have nh:F'.hin n=st.H:=by rw[eh n (Nat.le_refl _)];exact acx
      have Pl:F'.hin (n+1)=fq mk 0 st.H H1:=by simp[F']
      have no:F'.hout n=H1:=by simp[F']
      have nm:F'.mask n=mk:=by simp[F']
      have nT:F'.T n=TT:=by simp[F']
      have eW:∀i,i<n->∀h,F'.W i h↔F.W i h:=fun i hi h=>by unfold fy.W;rw[eT i hi,eh i (by omega),eo i hi]
      have ux:sn cx L bs aW F' n o st.tm wr:=
       {slot:=by rw[nv,no,nm,nh];exact hsv
        up:=by rw[nh];exact hup.1
        xH:=by rw[nm,nh];exact hup.2
        turns:=by rw[nT,nm,nh,no];exact acw hsv
        len:=hp.len
        fin:=fun k o' d h1 h2 h3=>by rw[ev k h3];exact hp.fin k o' d h3 h1 h2
        rest:=fun t ht=>hp.rest t fun k o' hk h1=>ht k o' hk h1
        bP:=fun d hd=>(hp.eN d).1 hd}
      have iM:∀(i:Nat) o1,i<n+1->L[i]?=some o1->∃bp bP,sn cx L bs aW F' i o1 bp bP:=fun i o1 hi ho1=>by
       by_cases hin:i=n
       ·subst hin;rw[hLn]at ho1;simp at ho1;subst ho1;exact⟨_,_,ux⟩
       ·have hlt:i<n:=by omega
        obtain⟨bp,bP,a⟩:=hp.slot i o1 hlt ho1;exact⟨bp,bP,{slot:=by rw[ev i hlt,eo i hlt,em i hlt,eh i (by omega)];exact a.slot,up:=by rw[eh i (by omega)];exact a.up,xH:=by rw[em i hlt,eh i (by omega)];exact a.xH,turns:=by rw[eT i hlt,em i hlt,eh i (by omega),eo i hlt];exact a.turns,len:=a.len,fin:=fun k o' d h1 h2 h3=>by rw[ev k (by omega)];exact a.fin k o' d h1 h2 h3,rest:=a.rest,bP:=a.bP}⟩
      have hmk:∀h,(∃k,k<n/\(bs.getD n 0).testBit k=false/\F'.W k h)->mk.testBit h=true:=fun h=>by
       rintro ⟨k,hk,h2,h3⟩
       rw[show mk=rK (bs.getD n 0) 0 ws|||Nv (cf (cr bs n) L 0 st.tm) st.H.length o.op from rfl,Nat.testBit_or,Bool.or_eq_true];refine .inl ?_;rw[Pe];obtain⟨b',g1,g2⟩:=hp.ws k hk;exact⟨k,b',g1,by simpa using h2,(g2 h).2 ((eW k hk h).1 h3)⟩
      have base:dm cx L bs H0 aW F' (n+1) st1.tm st1.H di (ms++[(mk,st.H.length)]) (ws++[bitsOf (TT++List.range' st.H.length (H1.length-st.H.length))]):=by
       have c1:F'.hin 0=H0:=by rw[eh 0 (by omega)];exact hp.h0
       have c2:F'.hin (n+1)=st1.H:=by rw[Pl,p1]
       have c3:∀i,i<n+1->F'.hin (i+1)=fq (F'.mask i) 0 (F'.hin i) (F'.hout i)/\(F'.hin i).length<=(F'.hout i).length:=fun i hi=>by
        by_cases hin:i=n
        ·subst hin;rw[Pl,nm,nh,no];exact⟨rfl,hrd.2⟩
        ·have hlt:i<n:=by omega
         rw[eh (i+1) (by omega),em i hlt,eh i (by omega),eo i hlt];exact hp.hs i hlt
       have c4:∀i,i<n+1->(ms++[(mk,st.H.length)])[i]?=some (F'.mask i,(F'.hin i).length):=fun i hi=>by
        by_cases hin:i=n
        ·subst hin;rw[nm,nh,List.getElem?_append_right (by rw[hp.uC];exact Nat.le_refl _),hp.uC];simp
        ·have hlt:i<n:=by omega
         rw[em i hlt,eh i (by omega),List.getElem?_append_left (by rw[hp.uC];exact hlt)];exact hp.ms i hlt
       have c5:∀i,i<n+1->∃b,(ws++[bitsOf (TT++List.range' st.H.length (H1.length-st.H.length))])[i]?=some b/\∀h,b.testBit h=true↔F'.W i h:=fun i hi=>by
        by_cases hin:i=n
        ·subst hin;refine⟨bitsOf (TT++List.range' st.H.length (H1.length-st.H.length)),by rw[List.getElem?_append_right (by rw[hp.uD];exact Nat.le_refl _),hp.uD];simp,fun h=>?_⟩;rw[O9,List.mem_append];unfold fy.W;rw[nT,nh,no,List.mem_range'];constructor
         ·rintro (h1|⟨j,h1,h2⟩)
          ·exact .inl h1
          ·exact .inr (by omega)
         ·rintro (h1|⟨h1,h2⟩)
          ·exact .inl h1
          ·exact .inr ⟨h-st.H.length,by omega,by omega⟩
        ·have hlt:i<n:=by omega
         obtain⟨b,g1,g2⟩:=hp.ws i hlt;exact⟨b,by rw[List.getElem?_append_left (by rw[hp.uD];exact hlt)];exact g1,fun h=>(g2 h).trans (eW i hlt h).symm⟩
       have c6:∀i,i<n+1->∀h,(∃k,k<i/\(bs.getD i 0).testBit k=false/\F'.W k h)->(F'.mask i).testBit h=true:=fun i hi hh=>by
        by_cases hin:i=n
        ·subst hin;rw[nm];exact hmk hh
        ·have hlt:i<n:=by omega
         rw[em i hlt];exact fun⟨k,h1,h2,h3⟩=>hp.masks i hlt hh ⟨k,h1,h2,(eW k (by omega) hh).1 h3⟩
       have c7:∀k,k<n+1->∀i,i<k->(bs.getD k 0).testBit i=false->∀h∈F'.T k,h<(F'.hin i).length->(F'.mask i).testBit h=true:=fun k hk i hik hA hh hT hlt=>by
        rw[eh i (by omega)]at hlt;rw[em i (by omega)];by_cases hkn:k=n
        ·subst hkn;rw[nT]at hT;exact Pg ms 0 hrd.1.1 i _ _ (hp.ms i hik) (by simpa using hA) hh hT hlt
        ·rw[eT k (by omega)]at hT;exact hp.readers k (by omega) i hik hA hh hT hlt
       have c8:∀k,k<n+1->∀h∈F'.T k,(F'.mask k).testBit h=false/\h<(F'.hin k).length:=fun k hk hh hT=>by
        by_cases hkn:k=n
        ·subst hkn;rw[nT]at hT;rw[nm,nh];have:=hrd.1.2;rw[List.all_eq_true]at this;have h2:=this hh hT;rw[Bool.and_eq_true,Bool.not_eq_true',decide_eq_true_eq]at h2;exact h2
        ·rw[eT k (by omega)]at hT;rw[em k (by omega),eh k (by omega)];exact hp.clear k (by omega) hh hT
       rcases p3 with⟨e1,e2,e3⟩|⟨d,e1,e2,e3,e4,e5⟩
       ·refine⟨by rw[e2];exact hp.len,fun i j o1 o2 d hi hj h1 h2 h3 h4=>?_,fun i o1 d hi h1 h2=>?_,fun i o1 d hi h1 h2=>?_,fun t ht=>by rw[e2];exact hp.rest t fun k o' hk=>ht k o' (by omega),fun d=>?_,iM,c1,c2,c3,by simp[hp.uC],by simp[hp.uD],c4,c5,c6,c8,c7⟩
        ·have hin:i≠n:=fun e=>by subst e;rw[hLn]at h1;simp at h1;subst h1;rw[e1]at h3;cases h3
         have hjn:j≠n:=fun e=>by subst e;rw[hLn]at h2;simp at h2;subst h2;rw[e1]at h4;cases h4
         exact hp.uniq i j o1 o2 d (by omega) (by omega) h1 h2 h3 h4
        ·have hin:i≠n:=fun e=>by subst e;rw[hLn]at h1;simp at h1;subst h1;rw[e1]at h2;cases h2
         exact hp.inb i o1 d (by omega) h1 h2
        ·have hin:i≠n:=fun e=>by subst e;rw[hLn]at h1;simp at h1;subst h1;rw[e1]at h2;cases h2
         rw[e2,ev i (by omega)];exact hp.fin i o1 d (by omega) h1 h2
        ·rw[e3,hp.eN d];constructor
         ·rintro ⟨k,o',hk,h1,h2⟩;exact⟨k,o',by omega,h1,h2⟩
         ·rintro ⟨k,o',hk,h1,h2⟩
          have hkn:k≠n:=fun e=>by subst e;rw[hLn]at h1;simp at h1;subst h1;rw[e1]at h2;cases h2
          exact⟨k,o',by omega,h1,h2⟩
       ·have hnew:∀(k:Nat) o',k<n->L[k]?=some o'->o'.dst≠some d:=fun k o' hk h1 h2=>e2 ((hp.eN d).2 ⟨k,o',hk,h1,h2⟩)
        have hdn:∀{o1:Oper}{d1:Nat},L[n]?=some o1->o1.dst=some d1->d1=d:=fun{o1 d1} h1 h2=>by rw[hLn]at h1;simp at h1;subst h1;rw[e1]at h2;simpa using h2.symm
        refine⟨by rw[e4];simp[hp.len],fun i j o1 o2 d1 hi hj h1 h2 h3 h4=>?_,fun i o1 d1 hi h1 h2=>?_,fun i o1 d1 hi h1 h2=>?_,fun t ht=>?_,fun d1=>?_,iM,c1,c2,c3,by simp[hp.uC],by simp[hp.uD],c4,c5,c6,c8,c7⟩
        ·by_cases hin:i=n<;>by_cases hjn:j=n
         ·omega
         ·subst hin;have:=hdn h1 h3;subst this;exact absurd h4 (hnew j o2 (by omega) h2)
         ·subst hjn;have:=hdn h2 h4;subst this;exact absurd h3 (hnew i o1 (by omega) h1)
         ·exact hp.uniq i j o1 o2 d1 (by omega) (by omega) h1 h2 h3 h4
        ·by_cases hin:i=n
         ·subst hin;have:=hdn h1 h2;subst this;rw[<-hp.len];exact e3
         ·exact hp.inb i o1 d1 (by omega) h1 h2
        ·rw[e4];by_cases hin:i=n
         ·subst hin;have:=hdn h1 h2;subst this;rw[List.getElem?_set,if_pos rfl,if_pos e3,nv]
         ·have hne:d1≠d:=fun e=>by subst e;exact hnew i o1 (by omega) h1 h2
          rw[List.getElem?_set,if_neg (Ne.symm hne),ev i (by omega)];exact hp.fin i o1 d1 (by omega) h1 h2
        ·have hne:d≠t:=fun e=>by subst e;exact ht n o (by omega) hLn e1
         rw[e4,List.getElem?_set,if_neg hne];exact hp.rest t fun k o' hk=>ht k o' (by omega)
        ·rw[e5,List.mem_cons,hp.eN d1];constructor
         ·rintro (rfl|⟨k,o',hk,h1,h2⟩)
          ·exact⟨n,o,by omega,hLn,e1⟩
          ·exact⟨k,o',by omega,h1,h2⟩
         ·rintro ⟨k,o',hk,h1,h2⟩
          by_cases hkn:k=n
          ·subst hkn;exact .inl (hdn h1 h2)
          ·exact .inr ⟨k,o',by omega,h1,h2⟩
      exact Pj r (n+1) st1 st' di wr' _ _ F' h hok (fun j=>by have:=hl (j+1);simp only[List.getElem?_cons_succ]at this;rw[this];congr 1;omega) (by simp at hn;omega) base
     ·cases h
    ·cases h
  ·cases h
theorem acy{cx:Cx K}{L:List Oper}{bs:List Nat}{st st':St K}{wr':List Nat}(h:jS cx L bs L 0 st [] [] []=some (st',wr'))(hok:st'.ok=true):
 ∃F ms ws,dm cx L bs st.H st.tm F L.length st'.tm st'.H wr' ms ws:=
 Pj (aW:=st.tm) (H0:=st.H) L 0 st st' [] wr' [] [] {vals:=fun _=>.any,hin:=fun _=>st.H,hout:=fun _=>[],mask:=fun _=>0,T:=fun _=>[]} h hok (fun j=>by simp) (by simp)
  ⟨rfl,fun i j _ _ _ hi=>by omega,fun i _ _ hi=>by omega,fun i _ _ hi=>by omega,fun t _=>rfl,fun d=>by simp,fun i _ hi=>by omega,rfl,rfl,fun i hi=>by omega,rfl,rfl,fun i hi=>by omega,fun i hi=>by omega,fun i hi=>by omega,fun i hi=>by omega,fun i hi=>by omega⟩
end Go.V
namespace Go.V
open Go
variable {K :bL}{ρ ρ':List Value}{S S':Nat->Prop}{w w':World}{H H':List (Ob K)}{D:aT K}
section
variable {cx :Cx K}{L:List Oper}{bs:List Nat}{H0:List (Ob K)}{aW cB:List (AV K)}{F:fy K}{HF:List (Ob K)}{wr:List Nat}{ms:List (Nat×Nat)}{ws:List Nat}
theorem dm.lW(hp:dm cx L bs H0 aW F L.length cB HF wr ms ws){i:Nat}(hi:i<L.length):(F.hin (i+1)).length=(F.hout i).length:=by
 obtain⟨h1,h2⟩:=hp.hs i hi;rw[h1,xE _ _ _ h2]
theorem dm.mono(hp:dm cx L bs H0 aW F L.length cB HF wr ms ws):∀{i j:Nat},i<=j->j<=L.length->(F.hin i).length<=(F.hin j).length:=by
 intro i j hij hj
 induction j with
 |zero=>have:i=0:=by omega
        subst this;exact Nat.le_refl _
 |succ j ih=>
  rcases Nat.lt_or_ge i (j+1)with h|h
  ·have h1:=ih (by omega) (by omega);rw[hp.lW (show j<L.length by omega)];exact Nat.le_trans h1 (hp.hs j (by omega)).2
  ·have:i=j+1:=by omega
   subst this;exact Nat.le_refl _
theorem dm.acz(hp:dm cx L bs H0 aW F L.length cB HF wr ms ws){i h:Nat}(hi:i<L.length)(hn:¬F.W i h)(hh:h<(F.hin i).length):(F.hin (i+1))[h]?=(F.hin i)[h]?:=by
 obtain⟨h1,h2⟩:=hp.hs i hi;obtain⟨bp,bP,a⟩:=hp.slot i L[i] hi (List.getElem?_eq_getElem hi);rw[h1,xF _ _ _ _ h2];by_cases hm:h<(F.hin i).length/\(F.mask i).testBit (0+h)=true
 ·rw[if_pos hm]
 ·rw[if_neg hm];have hm':(F.mask i).testBit h=false:=by
   cases hb:(F.mask i).testBit h with
   |false=>rfl
   |true=>exact absurd ⟨hh,by rw[Nat.zero_add];exact hb⟩ hm
  have:=a.turns.2 h (by rw[uA];exact hh) (fun hT=>hn (.inl hT));rw[this,uz,Nat.zero_add,hm'];cases (F.hin i)[h]?<;>simp
theorem dm.stay(hp:dm cx L bs H0 aW F L.length cB HF wr ms ws){i h:Nat}:∀{j:Nat},i<=j->j<=L.length->(∀k,i<=k->k<j->¬F.W k h)->h<(F.hin i).length->(F.hin j)[h]?=(F.hin i)[h]?:=by
 intro j hij hj hn hh
 induction j with
 |zero=>have:i=0:=by omega
        subst this;rfl
 |succ j ih=>
  rcases Nat.lt_or_ge i (j+1)with h1|h1
  ·have h2:=ih (by omega) (by omega) fun k a b=>hn k a (by omega)
   rw[hp.acz (by omega) (hn j (by omega) (by omega)) (Nat.lt_of_lt_of_le hh (hp.mono (by omega) (by omega))),h2]
  ·have:i=j+1:=by omega
   subst this;rfl
theorem dm.maker(hp:dm cx L bs H0 aW F L.length cB HF wr ms ws){j k h:Nat}(hj:j<L.length)(hk:k<L.length)(h1:(F.hin j).length<=h)(h2:h<(F.hout j).length)(h3:(F.hin k).length<=h)(h4:h<(F.hout k).length):j=k:=by
 rcases Nat.lt_trichotomy j k with h|h|h
 ·have:=hp.mono (show j+1<=k by omega) (by omega);rw[hp.lW hj]at this;omega
 ·exact h
 ·have:=hp.mono (show k+1<=j by omega) (by omega);rw[hp.lW hk]at this;omega
theorem dm.made(hp:dm cx L bs H0 aW F L.length cB HF wr ms ws){h:Nat}:∀{j:Nat},j<=L.length->h<(F.hin j).length->H0.length<=h->∃k,k<j/\(F.hin k).length<=h/\h<(F.hout k).length:=by
 intro j hj hh h0
 induction j with
 |zero=>rw[hp.h0]at hh;omega
 |succ j ih=>
  rw[hp.lW (show j<L.length by omega)]at hh;rcases Nat.lt_or_ge h (F.hin j).length with h1|h1
  ·obtain⟨k,a,b⟩:=ih (by omega) h1;exact⟨k,by omega,b⟩
  ·exact⟨j,by omega,h1,hh⟩
end
theorem Pm{p:Nat->Prop}{n:Nat}(hb:∀k,p k->k<n)(h:∃k,p k):∃k,p k/\∀k',p k'->k'<=k:=by
 induction n with
 |zero=>obtain⟨k,hk⟩:=h;exact absurd (hb k hk) (Nat.not_lt_zero _)
 |succ n ih=>
  by_cases hn:p n
  ·exact⟨n,hn,fun k' hk'=>by have:=hb k' hk';omega⟩
  ·exact ih fun k hk=>by
    have:=hb k hk;rcases Nat.lt_or_ge k n with h1|h1
    ·exact h1
    ·have:k=n:=by omega
     subst this;exact absurd hk hn
structure fe (cx:Cx K) (L:List Oper) (bs:List Nat) (aW:List (AV K)) (F:fy K) (H0 HF H:List (Ob K)) (ρ:List Value) (S:Nat->Prop) (listed:Array Bool) (a:Act) (w:World):Prop where
 heap:aD cx.D ρ S w H
 hlen:H.length=HF.length
 defers:a.defers=[]
 size:a.tmps.size=aW.length
 fw:listed.size=L.length
 base:∀(t:Nat) v x,(∀(k:Nat) o,L[k]?=some o->o.dst=some t->listed[k]?≠some true)->aW[t]?=some v->a.tmps[t]?=some x->Rep cx.D ρ S w v x
 done:∀(k:Nat) o d x,L[k]?=some o->listed[k]?=some true->o.dst=some d->a.tmps[d]?=some x->cA cx.D ρ S w a.tmps (F.vals k) x
 opts:∀(k g:Nat) b y,listed[k]?=some true->F.vals k=.opt g b y->∃(k':Nat)(o':Oper),L[k']?=some o'/\o'.dst=some g/\listed[k']?=some true
 closed:∀(k:Nat) o,L[k]?=some o->listed[k]?=some true->∀e∈o.after,listed[e.on]?=some true
 DG:∀h,(∀k,listed[k]?=some true->¬F.W k h)->h<HF.length->(h<H0.length->H[h]?=H0[h]?)/\(H0.length<=h->H[h]?=some .dead)
 DI:∀h k,listed[k]?=some true->F.W k h->(∀k',listed[k']?=some true->F.W k' h->k'<=k)->H[h]?=(F.hin (k+1))[h]?
 Pn:∀h,H0.length<=h->h<HF.length->(∀k,listed[k]?=some true->¬((F.hin k).length<=h/\h<(F.hout k).length))->ρ[h]?=some dummy
section
variable {cx :Cx K}{L:List Oper}{bs:List Nat}{H0:List (Ob K)}{aW cB:List (AV K)}{F:fy K}{HF:List (Ob K)}{wr:List Nat}{ms:List (Nat×Nat)}{ws:List Nat}{listed:Array Bool}{a:Act}
theorem fe.sees(hp:dm cx L bs H0 aW F L.length cB HF wr ms ws)(hm:fe cx L bs aW F H0 HF H ρ S listed a w){j:Nat}(hj:j<L.length)(cJ:listed[j]?=some false)
 (hA:∀k,(bs.getD j 0).testBit k=true->listed[k]?=some true) (hcl:∀i k,listed[i]?=some true->(bs.getD i 0).testBit k=true->listed[k]?=some true) {h:Nat} (hh:h<(F.hin j).length) (hun:(F.mask j).testBit h=false):H[h]?=(F.hin j)[h]?:=by
 have hlt:∀k,listed[k]?=some true->k<L.length:=fun k hk=>by have:=(Array.getElem?_eq_some_iff.1 hk).1;rw[hm.fw]at this;exact this
 have hne:∀k,listed[k]?=some true->k≠j:=fun k hk e=>by subst e;rw[cJ]at hk;cases hk
 have hbef:∀k,k<j->F.W k h->listed[k]?=some true:=fun k hk hw=>by
  cases hb:(bs.getD j 0).testBit k with
  |true=>exact hA k hb
  |false=>have:=hp.masks j hj h ⟨k,hk,hb,hw⟩;rw[hun]at this;cases this
 have haft:∀k,listed[k]?=some true->F.W k h->k<j:=fun k hk hw=>by
  rcases Nat.lt_trichotomy k j with h1|h1|h1
  ·exact h1
  ·exact absurd h1 (hne k hk)
  ·have fA:=hlt k hk;have hlen:=hp.mono (show j<=k by omega) (by omega);rcases hw with hT|⟨h2,-⟩
   ·cases hb:(bs.getD k 0).testBit j with
    |true=>have:=hcl k j hk hb;rw[cJ]at this;cases this
    |false=>have:=hp.readers k fA j h1 hb h hT hh;rw[hun]at this;cases this
   ·omega
 by_cases hex:∃k,listed[k]?=some true/\F.W k h
 ·obtain⟨k,⟨hk1,hk2⟩,hk3⟩:=Pm (p:=fun k=>listed[k]?=some true/\F.W k h) (n:=L.length) (fun k hk=>hlt k hk.1) hex;rw[hm.DI h k hk1 hk2 fun k' a b=>hk3 k' ⟨a,b⟩];have hkj:=haft k hk1 hk2;have hno:∀k',k+1<=k'->k'<j->¬F.W k' h:=fun k' h1 h2 hw=>by have:=hk3 k' ⟨hbef k' h2 hw,hw⟩;omega
  by_cases hl:h<(F.hin (k+1)).length
  ·exact(hp.stay (show k+1<=j by omega) (by omega) hno hl).symm
  ·
   exfalso;have:H0.length<=h:=by have:=hp.mono (show 0<=k+1 by omega) (show k+1<=L.length by omega);rw[hp.h0]at this;omega
   obtain⟨k',g1,g2,g3⟩:=hp.made (show j<=L.length by omega) hh this;by_cases hkk:k+1<=k'
   ·exact hno k' hkk g1 (.inr ⟨g2,g3⟩)
   ·have:=hp.mono (show k'+1<=k+1 by omega) (show k+1<=L.length by omega);rw[hp.lW (show k'<L.length by omega)]at this;omega
 ·have hno:∀k,listed[k]?=some true->¬F.W k h:=fun k a b=>hex ⟨k,a,b⟩
  have oi:∀k,0<=k->k<j->¬F.W k h:=fun k _ hk hw=>hno k (hbef k hk hw) hw
  have hHF:h<HF.length:=by have:=hp.mono (show j<=L.length by omega) (Nat.le_refl _);rw[hp.hn]at this;omega
  obtain⟨g1,g2⟩:=hm.DG h hno hHF;by_cases h0:h<H0.length
  ·rw[g1 h0,hp.stay (Nat.zero_le j) (by omega) oi (by rw[hp.h0];exact h0),hp.h0]
  ·obtain⟨k',a1,a2,a3⟩:=hp.made (show j<=L.length by omega) hh (by omega);exact absurd (.inr ⟨a2,a3⟩) (oi k' (Nat.zero_le _) a1)
end
end Go.V
namespace Go.V
open Go
variable {K :bL}{ρ ρ':List Value}{S S':Nat->Prop}{w w':World}{H H':List (Ob K)}{D:aT K}
theorem cA.take(hD:aX D){n:Nat}{tmps:Array Value}{v:AV K}{x:Value}(h:cA D ρ S w tmps v x)(hu:v.upto n=true):cA D (ρ.take n) S w tmps v x:=by
 cases v with
 |opt g b v=>
  simp only[cA]at h⊢;rcases h with⟨h1,h2⟩|h
  ·exact .inl ⟨h1,h2.take hD (by simpa [AV.upto]using hu)⟩
  ·exact .inr h
 |_=>exact Rep.take hD h hu
theorem cA.mono'{tmps:Array Value}(hS:∀b,S b->S' b)(hw:∀b,S b->w'.heap[b]?=w.heap[b]?)(hρ:∀(h:Nat) r,ρ[h]?=some r->r≠dummy->ρ'[h]?=some r){v:AV K}{x:Value}(h:cA D ρ S w tmps v x):cA D ρ' S' w' tmps v x:=by
 cases v with
 |opt g b v=>
  simp only[cA]at h⊢;rcases h with⟨h1,h2⟩|h
  ·exact .inl ⟨h1,h2.mono' hS hw hρ⟩
  ·exact .inr h
 |_=>exact Rep.mono' hS hw hρ h
section
variable {cx :Cx K}{L:List Oper}{bs:List Nat}{H0:List (Ob K)}{aW cB:List (AV K)}{F:fy K}{HF:List (Ob K)}{wr:List Nat}{ms:List (Nat×Nat)}{ws:List Nat}{listed:Array Bool}{a:Act}
theorem fe.slots(hD:aX cx.D)(hbs:bs=cM L [])(he:ec L 0=true)(hp:dm cx L bs H0 aW F L.length cB HF wr ms ws)(hm:fe cx L bs aW F H0 HF H ρ S listed a w){j:Nat}{o:Oper}(ho:L[j]?=some o)(cJ:listed[j]?=some false)(dK:∀e∈o.after,listed[e.on]?=some true){bp:List (AV K)}{bP:List Nat}
 (fs:sn cx L bs aW F j o bp bP):cF cx.D (ρ.take (F.hin j).length) S w (cf (cr bs j) L 0 bp) a.tmps/\
   ∀(t:Nat) v,(cf (cr bs j) L 0 bp)[t]?=some v->v≠.any->(∀(k:Nat) o',k<j->L[k]?=some o'->o'.dst≠some t)\/∃(k:Nat)(o':Oper),L[k]?=some o'/\o'.dst=some t/\listed[k]?=some true:=by
 have key:∀(t:Nat) v,(cf (cr bs j) L 0 bp)[t]?=some v->v≠.any->(((∀(k:Nat) o',k<j->L[k]?=some o'->o'.dst≠some t)/\(∀(k:Nat) o,L[k]?=some o->o.dst=some t->listed[k]?≠some true))/\aW[t]?=some v)\/∃(k:Nat)(o':Oper),L[k]?=some o'/\o'.dst=some t/\listed[k]?=some true/\v=F.vals k:=fun t v hv hne=>by
  obtain⟨g1,g2⟩:=xz L 0 bp t v hv hne;rcases ka L t with hn|⟨k,o',hk,hkd⟩
  ·exact .inl ⟨⟨fun k o' _ h=>hn k o' h,fun k o' h h'=>absurd h' (hn k o' h)⟩,by rw[<-fs.rest t fun k o' _ h=>hn k o' h];exact g1⟩
  ·have hb:=g2 k o' hk hkd;rw[Nat.zero_add,hbs]at hb;rcases Dn hb with hb|hb
   ·obtain⟨c1,c2⟩:=gJ he (T:=fun i=>listed[i]?=some true) (fun i o hi ed=>hm.closed i o hi ed) j o ho dK k hb;have:=fs.fin k o' t hk hkd c2;rw[g1]at this;exact .inr ⟨k,o',hk,hkd,c1,by simpa using this⟩
   ·have c0:=(gJ he (T:=fun _=>True) (fun _ _ _ _ _ _=>trivial) k o' hk (fun _ _=>trivial) j hb).2;have hun:listed[k]?≠some true:=fun hlk=>by
     have:=(gJ he (T:=fun i=>listed[i]?=some true) (fun i o hi ed=>hm.closed i o hi ed) k o' hk (hm.closed k o' hk hlk) j hb).1;rw[cJ]at this;cases this
    have fx:∀(k':Nat) o1,L[k']?=some o1->o1.dst=some t->k'=k:=fun k' o1 h1 h2=>hp.uniq k' k o1 o' t (List.getElem?_eq_some_iff.1 h1).1 (List.getElem?_eq_some_iff.1 hk).1 h1 hk h2 hkd
    have hlt:∀(k':Nat) o1,k'<j->L[k']?=some o1->o1.dst≠some t:=fun k' o1 hk' h1 h2=>by have:=fx k' o1 h1 h2;omega
    exact .inl ⟨⟨hlt,fun k' o1 h1 h2=>by rw[fx k' o1 h1 h2];exact hun⟩,by rw[<-fs.rest t hlt];exact g1⟩
 refine⟨⟨by rw[xA,fs.len,hm.size],fun t v x hv hx=>?_⟩,fun t v hv hne=>?_⟩
 ·by_cases hne:v=.any
  ·subst hne;exact .dQ (.any x)
  ·have hu:=oh fs.up hv;rcases key t v hv hne with⟨⟨-,hn⟩,g⟩|⟨k,o',hk,hkd,hlk,rfl⟩
   ·exact(cA.dQ (hm.base t v x hn g hx)).take hD hu
   ·exact(hm.done k o' t x hk hlk hkd hx).take hD hu
 ·rcases key t v hv hne with⟨⟨hn,-⟩,-⟩|⟨k,o',hk,hkd,hlk,-⟩
  ·exact .inl hn
  ·exact .inr ⟨k,o',hk,hkd,hlk⟩
theorem fe.view(hp:dm cx L bs H0 aW F L.length cB HF wr ms ws)(hm:fe cx L bs aW F H0 HF H ρ S listed a w){j:Nat}{o:Oper}(hj:j<L.length)(cJ:listed[j]?=some false)
 (hA:∀k,(bs.getD j 0).testBit k=true->listed[k]?=some true) (hcl:∀i k,listed[i]?=some true->(bs.getD i 0).testBit k=true->listed[k]?=some true) {bp:List (AV K)} {bP:List Nat} (fs:sn cx L bs aW F j o bp bP):
 View (F.hin j).length H (dX (F.mask j) 0 (F.hin j)):={
 len:=uA _ _
 le:=by rw[hm.hlen];have:=hp.mono (show j<=L.length by omega) (Nat.le_refl _);rw[hp.hn]at this;exact this
 ob:=fun h o ho=>by
  rw[uz,Nat.zero_add]at ho;cases hb:(F.mask j).testBit h with
  |true=>
   rw[hb]at ho;cases hx:(F.hin j)[h]? with
   |none=>rw[hx]at ho;cases ho
   |some y=>rw[hx]at ho;simp at ho;exact .inl ho.symm
  |false=>
   rw[hb]at ho;cases hx:(F.hin j)[h]? with
   |none=>rw[hx]at ho;cases ho
   |some y=>
    rw[hx]at ho;simp at ho;subst ho;exact .inr (by rw[hm.sees hp hj cJ hA hcl (List.getElem?_eq_some_iff.1 hx).1 hb];exact hx)
 up:=fun h o ho=>by
  have:=fs.xH;rw[List.all_eq_true]at this;exact this o (List.mem_of_getElem? ho)}
def after(F:fy K)(j:Nat)(H:List (Ob K)):List (Ob K):=fq (F.mask j) 0 (H.take (F.hin j).length) (F.hout j)++H.drop (F.hout j).length
theorem acB{j:Nat}(h1:(F.hin j).length<=(F.hout j).length)(h2:(F.hout j).length<=H.length)(h:Nat):
 (after F j H)[h]?=if h<(F.hout j).length then(if h<(F.hin j).length/\(F.mask j).testBit h=true then H[h]? else(F.hout j)[h]?)else H[h]?:=by
 have hl:(H.take (F.hin j).length).length=(F.hin j).length:=by rw[List.length_take];omega
 have hml:(fq (F.mask j) 0 (H.take (F.hin j).length) (F.hout j)).length=(F.hout j).length:=xE _ _ _ (by omega);unfold after;by_cases hh:h<(F.hout j).length
 ·rw[List.getElem?_append_left (by omega),if_pos hh,xF _ _ _ _ (by omega),hl,Nat.zero_add];by_cases hc:h<(F.hin j).length/\(F.mask j).testBit h=true
  ·rw[if_pos hc,if_pos hc,List.getElem?_take,if_pos hc.1]
  ·rw[if_neg hc,if_neg hc]
 ·rw[List.getElem?_append_right (by omega),if_neg hh,hml,List.getElem?_drop];congr 1;omega
theorem after_length{j:Nat}(h1:(F.hin j).length<=(F.hout j).length)(h2:(F.hout j).length<=H.length):(after F j H).length=H.length:=by
 have hl:(H.take (F.hin j).length).length=(F.hin j).length:=by rw[List.length_take];omega
 unfold after;rw[List.length_append,xE _ _ _ (by omega),List.length_drop];omega
end
end Go.V
namespace Go.V
open Go
variable {K :bL}{ρ ρ':List Value}{S S':Nat->Prop}{w w':World}{H H':List (Ob K)}{D:aT K}
section
variable {cx :Cx K}{L:List Oper}{bs:List Nat}{H0:List (Ob K)}{aW cB:List (AV K)}{F:fy K}{HF:List (Ob K)}{wr:List Nat}{ms:List (Nat×Nat)}{ws:List Nat}{listed:Array Bool}{a:Act}
theorem fe.put(hD:aX cx.D)(hp:dm cx L bs H0 aW F L.length cB HF wr ms ws)(hm:fe cx L bs aW F H0 HF H ρ S listed a w){j:Nat}{o:Oper}(ho:L[j]?=some o)(cJ:listed[j]?=some false)(dK:∀e∈o.after,listed[e.on]?=some true)
 (hA:∀k,(bs.getD j 0).testBit k=true->listed[k]?=some true) (hcl:∀i k,listed[i]?=some true->(bs.getD i 0).testBit k=true->listed[k]?=some true) {bp:List (AV K)} {bP:List Nat} (fs:sn cx L bs aW F j o bp bP)
 {ρ1:List Value} {S1:Nat->Prop} {w1:World} {u:Value} (hs1:aD cx.D ρ1 S1 w1 (F.hout j)) (hst:Step cx.D (F.hin j).length (ρ.take (F.hin j).length) S (dX (F.mask j) 0 (F.hin j)) w ρ1 S1 (F.hout j) w1) (hv:cA cx.D ρ1 S1 w1 a.tmps (F.vals j) u)
 (eD:∀g b y,F.vals j=.opt g b y->∃(k':Nat)(o':Oper),L[k']?=some o'/\o'.dst=some g/\listed[k']?=some true) {n0:Nat} (hn0:n0<=H0.length):
 fe cx L bs aW F H0 HF (after F j H) (ρ1++ρ.drop (F.hout j).length) S1 (listed.setIfInBounds j true) (a.put o.dst u) w1/\Step cx.D n0 ρ S H w (ρ1++ρ.drop (F.hout j).length) S1 (after F j H) w1:=by
 have hj:j<L.length:=(List.getElem?_eq_some_iff.1 ho).1;have hjs:j<listed.size:=(Array.getElem?_eq_some_iff.1 cJ).1;have hnm:=(hp.hs j hj).2;have hmN:(F.hout j).length<=H.length:=by
  have:=hp.mono (show j+1<=L.length by omega) (Nat.le_refl _);rw[hp.lW hj,hp.hn]at this;rw[hm.hlen];exact this
 have h0n:H0.length<=(F.hin j).length:=by have:=hp.mono (Nat.zero_le j) (by omega);rw[hp.h0]at this;exact this
 have hlt:∀k,listed[k]?=some true->k<L.length:=fun k hk=>by have:=(Array.getElem?_eq_some_iff.1 hk).1;rw[hm.fw]at this;exact this
 have hne:∀k,listed[k]?=some true->k≠j:=fun k hk e=>by subst e;rw[cJ]at hk;cases hk
 have view:=hm.view hp hj cJ hA hcl fs;have hd:∀h,(F.hin j).length<=h->h<(F.hout j).length->ρ[h]?=some dummy:=fun h h1 h2=>
  hm.Pn h (by omega) (by rw[<-hm.hlen];omega) fun k hk ⟨h3,h4⟩=>hne k hk (hp.maker hj (hlt k hk) h1 h2 h3 h4).symm
 have ag:=acB (F:=F) (H:=H) hnm hmN;have joined:Joined (F.hin j).length (F.hout j).length H (dX (F.mask j) 0 (F.hin j)) (F.hout j) (after F j H):=⟨hnm,rfl,after_length hnm hmN,hmN,fun h o1 h1=>by
  rw[ag]at h1;by_cases hh:h<(F.hout j).length
  ·rw[if_pos hh]at h1;by_cases hc:h<(F.hin j).length/\(F.mask j).testBit h=true
   ·rw[if_pos hc]at h1;refine .inr ⟨h1,.inl ⟨hc.1,?_⟩⟩;rw[uz,Nat.zero_add,hc.2,List.getElem?_eq_getElem hc.1];rfl
   ·rw[if_neg hc]at h1;exact .inl ⟨hh,h1⟩
  ·rw[if_neg hh]at h1;exact .inr ⟨h1,.inr (by omega)⟩⟩
 obtain⟨Po,stF,hmono⟩:=hm.heap.join (n0:=n0) view hs1 hst joined hd (by omega);have hl1:ρ1.length=(F.hout j).length:=hs1.len;have hρ:=O1 (n:=0) (ρ:=ρ) (ρ1:=ρ1) hl1 (by rw[hm.heap.len];exact hmN);have hread:∀b,S b->w1.heap[b]?=w.heap[b]?:=fun b hb=>hst.old b (hm.heap.slt b hb) fun h=>(hm.heap.lt b (view.own h)).2 hb
 have hrep:∀{v:AV K}{x:Value},Rep cx.D ρ S w v x->Rep cx.D (ρ1++ρ.drop (F.hout j).length) S1 w1 v x:=fun h=>h.mono' hst.s1 hread hmono
 have iM:∀{v:AV K}{x:Value}{tmps:Array Value},cA cx.D ρ S w tmps v x->cA cx.D (ρ1++ρ.drop (F.hout j).length) S1 w1 tmps v x:=fun h=>h.mono' hst.s1 hread hmono
 have hvF:cA cx.D (ρ1++ρ.drop (F.hout j).length) S1 w1 a.tmps (F.vals j) u:=hv.mono' (fun _ h=>h) (fun _ _=>rfl) fun h r hr _=>by
  have:h<(F.hout j).length:=by have:=(List.getElem?_eq_some_iff.1 hr).1;omega
  rw[hρ,if_pos this];exact hr
 have hget:∀(k:Nat),(listed.setIfInBounds j true)[k]?=some true↔(k=j\/listed[k]?=some true):=fun k=>by
  rw[Array.getElem?_setIfInBounds];by_cases hk:j=k
  ·subst hk;simp[hjs]
  ·rw[if_neg hk];simp[Ne.symm hk]
 have hclosed:∀(k:Nat) o1,L[k]?=some o1->(listed.setIfInBounds j true)[k]?=some true->∀e∈o1.after,(listed.setIfInBounds j true)[e.on]?=some true:=fun k o1 hk hlk e he=>by
  rw[hget]at hlk⊢;rcases hlk with rfl|hlk
  ·rw[ho]at hk;simp at hk;subst hk;exact .inr (dK e he)
  ·exact .inr (hm.closed k o1 hk hlk e he)
 have lV:∀(k g:Nat) b y,(listed.setIfInBounds j true)[k]?=some true->F.vals k=.opt g b y->∃(k':Nat)(o':Oper),L[k']?=some o'/\o'.dst=some g/\(listed.setIfInBounds j true)[k']?=some true:=fun k g b y hlk hvk=>by
  rw[hget]at hlk;rcases hlk with rfl|hlk
  ·obtain⟨k',o',h1,h2,h3⟩:=eD g b y hvk;exact⟨k',o',h1,h2,(hget k').2 (.inr h3)⟩
  ·obtain⟨k',o',h1,h2,h3⟩:=hm.opts k g b y hlk hvk;exact⟨k',o',h1,h2,(hget k').2 (.inr h3)⟩
 have hsame:∀h,¬F.W j h->(after F j H)[h]?=H[h]?:=fun h hn=>by
  rw[ag];by_cases hh:h<(F.hout j).length
  ·rw[if_pos hh];by_cases hc:h<(F.hin j).length/\(F.mask j).testBit h=true
   ·rw[if_pos hc]
   ·rw[if_neg hc];have hln:h<(F.hin j).length:=by
     rcases Nat.lt_or_ge h (F.hin j).length with h1|h1
     ·exact h1
     ·exact absurd (.inr ⟨h1,hh⟩) hn
    have hun:(F.mask j).testBit h=false:=by
     cases hb:(F.mask j).testBit h with
     |false=>rfl
     |true=>exact absurd ⟨hln,hb⟩ hc
    rw[fs.turns.2 h (by rw[uA];exact hln) (fun hT=>hn (.inl hT)),uz,Nat.zero_add,hun,hm.sees hp hj cJ hA hcl hln hun];cases (F.hin j)[h]?<;>simp
  ·rw[if_neg hh]
 have hnew:∀h,F.W j h->(after F j H)[h]?=(F.hin (j+1))[h]?:=fun h hw=>by
  have hc:¬(h<(F.hin j).length/\(F.mask j).testBit h=true):=fun⟨h1,h2⟩=>by
   rcases hw with hT|hT
   ·have:=(hp.clear j hj h hT).1;rw[h2]at this;cases this
   ·omega
  have hh:h<(F.hout j).length:=by
   rcases hw with hT|hT
   ·have:=(hp.clear j hj h hT).2;omega
   ·exact hT.2
  rw[ag,if_pos hh,if_neg hc,(hp.hs j hj).1,xF _ _ _ _ hnm,Nat.zero_add,if_neg hc]
 have c0:∀h,(∀k,(listed.setIfInBounds j true)[k]?=some true->¬F.W k h)->h<HF.length->(h<H0.length->(after F j H)[h]?=H0[h]?)/\(H0.length<=h->(after F j H)[h]?=some .dead):=fun h hno hh=>by
  rw[hsame h (hno j ((hget j).2 (.inl rfl)))];exact hm.DG h (fun k hk=>hno k ((hget k).2 (.inr hk))) hh
 have ck:∀h k,(listed.setIfInBounds j true)[k]?=some true->F.W k h->(∀k',(listed.setIfInBounds j true)[k']?=some true->F.W k' h->k'<=k)->(after F j H)[h]?=(F.hin (k+1))[h]?:=fun h k hk hw hmax=>by
  by_cases hkj:k=j
  ·subst hkj;exact hnew h hw
  ·have hk':listed[k]?=some true:=((hget k).1 hk).resolve_left hkj;have oi:¬F.W j h:=fun DJ=>by
    have hjk:j<k:=by have:=hmax j ((hget j).2 (.inl rfl)) DJ;omega
    have fA:=hlt k hk';have hlen:=hp.mono (show j+1<=k by omega) (by omega);rw[hp.lW hj]at hlen;have hb:(bs.getD k 0).testBit j=false:=by
     cases hb:(bs.getD k 0).testBit j with
     |false=>rfl
     |true=>have:=hcl k j hk' hb;rw[cJ]at this;cases this
    have hmk:=hp.masks k fA h ⟨j,hjk,hb,DJ⟩;rcases hw with hT|hT
    ·have:=(hp.clear k fA h hT).1;rw[hmk]at this;cases this
    ·have:h<(F.hout j).length:=by
      rcases DJ with h1|h1
      ·have:=(hp.clear j hj h h1).2;omega
      ·exact h1.2
     omega
   rw[hsame h oi];exact hm.DI h k hk' hw fun k' a b=>hmax k' ((hget k').2 (.inr a)) b
 have cd:∀h,H0.length<=h->h<HF.length->(∀k,(listed.setIfInBounds j true)[k]?=some true->¬((F.hin k).length<=h/\h<(F.hout k).length))->(ρ1++ρ.drop (F.hout j).length)[h]?=some dummy:=fun h h1 h2 hno=>by
  have h3:=hm.Pn h h1 h2 fun k hk=>hno k ((hget k).2 (.inr hk))
  have h4:=hno j ((hget j).2 (.inl rfl));rw[hρ];by_cases hh:h<(F.hout j).length
  ·have hl:h<(F.hin j).length:=by
    rcases Nat.lt_or_ge h (F.hin j).length with h5|h5
    ·exact h5
    ·exact absurd ⟨h5,hh⟩ h4
   rw[if_pos hh,hst.pre h hl,List.getElem?_take,if_pos hl];exact h3
  ·rw[if_neg hh];exact h3
 have hlen2:(after F j H).length=HF.length:=by rw[after_length hnm hmN,hm.hlen]
 refine⟨?_,stF⟩;cases hdst:o.dst with
 |none=>
  refine⟨Po,hlen2,hm.defers,hm.size,by simp[hm.fw],fun t v x h1 h2 h3=>hrep (hm.base t v x (fun k o1 hk hd1 hl=>h1 k o1 hk hd1 ((hget k).2 (.inr hl))) h2 h3),fun k o1 d x hk hlk hd1 hx=>?_,lV,hclosed,c0,ck,cd⟩;rw[hget]at hlk;rcases hlk with rfl|hlk
  ·rw[ho]at hk;simp at hk;subst hk;rw[hdst]at hd1;cases hd1
  ·exact iM (hm.done k o1 d x hk hlk hd1 hx)
 |some d=>
  have DK:∀{k:Nat}{o1:Oper},L[k]?=some o1->listed[k]?=some true->o1.dst≠some d:=fun{k o1} hk hlk hd1=>by
   have:=hp.uniq k j o1 o d (hlt k hlk) hj hk ho hd1 hdst;exact hne k hlk this
  refine⟨Po,hlen2,hm.defers,by simp[Act.put,hm.size],by simp[hm.fw],fun t v x h1 h2 h3=>?_,fun k o1 d1 x hk hlk hd1 hx=>?_,lV,hclosed,c0,ck,cd⟩
  ·have:d≠t:=fun e=>by subst e;exact h1 j o ho hdst ((hget j).2 (.inl rfl))
   simp only[Act.put,Array.getElem?_setIfInBounds,if_neg this]at h3;exact hrep (hm.base t v x (fun k o1 hk hd1 hl=>h1 k o1 hk hd1 ((hget k).2 (.inr hl))) h2 h3)
  ·rw[hget]at hlk;simp only[Act.put]at hx⊢;rw[Array.getElem?_setIfInBounds]at hx;rcases hlk with rfl|hlk
   ·rw[ho]at hk;simp at hk;subst hk;rw[hdst]at hd1;simp at hd1;subst hd1;rw[if_pos rfl]at hx;split at hx
    ·simp at hx;subst hx;refine hvF.put fun g b y e he=>?_
     obtain⟨k',o',h1,h2,h3⟩:=eD g b y e;subst he;exact DK h1 h3 h2
    ·cases hx
   ·have hdd:d≠d1:=fun e=>by subst e;exact DK hk hlk hd1
    rw[if_neg hdd]at hx;refine(iM (hm.done k o1 d1 x hk hlk hd1 hx)).put fun g b y e he=>?_
    obtain⟨k',o',h1,h2,h3⟩:=hm.opts k g b y hlk e;subst he;exact DK h1 h3 h2
end
end Go.V
namespace Go.V
open Go
variable {K :bL}{ρ ρ':List Value}{S S':Nat->Prop}{w w':World}{H H':List (Ob K)}{D:aT K}
def iN(H0:List (Ob K))(n:Nat):List (Ob K):=H0++List.replicate (n-H0.length) .dead
def ig(ρ:List Value)(n:Nat):List Value:=ρ++List.replicate (n-ρ.length) dummy
theorem Pq{H0:List (Ob K)}{n:Nat}(h:H0.length<=n):(iN H0 n).length=n:=by simp[iN];omega
theorem Pv{n h:Nat}{r:Value}(hr:ρ[h]?=some r):(ig ρ n)[h]?=some r:=by
 unfold ig;rw[List.getElem?_append_left (List.getElem?_eq_some_iff.1 hr).1];exact hr
theorem Px{H0:List (Ob K)}{n h:Nat}{o:Ob K}(ho:(iN H0 n)[h]?=some o):H0[h]?=some o\/(H0.length<=h/\o=.dead):=by
 unfold iN at ho;rcases Nat.lt_or_ge h H0.length with h1|h1
 ·rw[List.getElem?_append_left h1]at ho;exact .inl ho
 ·rw[List.getElem?_append_right h1,List.getElem?_replicate]at ho;split at ho
  ·simp at ho;exact .inr ⟨h1,ho.symm⟩
  ·cases ho
theorem xI{H0:List (Ob K)}{n h:Nat}{o:Ob K}{r:Value}(hl:ρ.length=H0.length)(ho:(iN H0 n)[h]?=some o)(hlv:o.live=true)(hr:(ig ρ n)[h]?=some r):H0[h]?=some o/\ρ[h]?=some r:=by
 rcases Px ho with h1|⟨-,rfl⟩
 ·have:h<ρ.length:=by rw[hl];exact(List.getElem?_eq_some_iff.1 h1).1
  unfold ig at hr;rw[List.getElem?_append_left this]at hr;exact⟨h1,hr⟩
 ·cases hlv
theorem aD.pad{H0:List (Ob K)}(hs:aD D ρ S w H0){n:Nat}(hn:H0.length<=n):aD D (ig ρ n) S w (iN H0 n):=by
 have own:∀b,Own D w (ig ρ n) (iN H0 n) b->Own D w ρ H0 b:=fun b ⟨h,o,r,h1,h2,h3,h4⟩=>by
  obtain⟨g1,g2⟩:=xI hs.len h1 h2 h3;exact⟨h,o,r,g1,h2,g2,h4⟩
 refine⟨by rw[Pq hn];simp[ig];have:=hs.len;omega,fun h o r h1 h2=>?_,fun h h' o o' r r' b h1 h2 h3 h4 h5 h6 h7 h8=>?_,fun b hb=>hs.lt b (own b hb),hs.slt,hs.base⟩
 ·rcases Px h1 with h3|⟨-,rfl⟩
  ·have:h<ρ.length:=by rw[hs.len];exact(List.getElem?_eq_some_iff.1 h3).1
   have h4:ρ[h]?=some r:=by unfold ig at h2;rwa [List.getElem?_append_left this]at h2
   refine(hs.ob h o r h3 h4).mono' (fun _ h=>h) (fun _ _=>rfl) (fun h' r' hr' _=>Pv hr') fun _ _ _=>rfl
  ·trivial
 ·obtain⟨g1,g2⟩:=xI hs.len h1 h2 h3;obtain⟨k1,k2⟩:=xI hs.len h5 h6 h7;exact hs.ct h h' o o' r r' b g1 h2 g2 h4 k1 h6 k2 h8
theorem Step.pad{H0:List (Ob K)}(hs:aD D ρ S w H0){n n0:Nat}(hn:n0<=H0.length):Step D n0 ρ S H0 w (ig ρ n) S (iN H0 n) w:=
 ⟨rfl,rfl,rfl,Nat.le_refl _,fun _ _ _=>rfl,fun b ⟨h,o,r,h1,h2,h3,h4⟩=>by
   obtain⟨g1,g2⟩:=xI hs.len h1 h2 h3;exact .inl ⟨h,o,r,g1,h2,g2,h4⟩,fun _ h=>h,fun _ h=>.inl h,fun h hh=>by
   have:h<ρ.length:=by rw[hs.len];omega
   unfold ig;rw[List.getElem?_append_left this]⟩
section
variable {cx :Cx K}{L:List Oper}{bs:List Nat}{H0:List (Ob K)}{aW cB:List (AV K)}{F:fy K}{HF:List (Ob K)}{wr:List Nat}{ms:List (Nat×Nat)}{ws:List Nat}{listed:Array Bool}{a:Act}
theorem dm.len0(hp:dm cx L bs H0 aW F L.length cB HF wr ms ws):H0.length<=HF.length:=by
 have:=hp.mono (Nat.zero_le L.length) (Nat.le_refl _);rw[hp.h0,hp.hn]at this;exact this
theorem fe.final(hp:dm cx L bs H0 aW F L.length cB HF wr ms ws)(hm:fe cx L bs aW F H0 HF H ρ S listed a w)(hall:∀i,i<L.length->listed[i]?=some true):H=HF:=by
 have hlt:∀k,listed[k]?=some true->k<L.length:=fun k hk=>by have:=(Array.getElem?_eq_some_iff.1 hk).1;rw[hm.fw]at this;exact this
 apply List.ext_getElem?;intro h;rcases Nat.lt_or_ge h HF.length with hh|hh
 ·have Py:h<(F.hin L.length).length:=by rw[hp.hn];exact hh
  by_cases hex:∃k,listed[k]?=some true/\F.W k h
  ·obtain⟨k,⟨hk1,hk2⟩,hk3⟩:=Pm (p:=fun k=>listed[k]?=some true/\F.W k h) (n:=L.length) (fun k hk=>hlt k hk.1) hex;rw[hm.DI h k hk1 hk2 fun k' a b=>hk3 k' ⟨a,b⟩];have fA:=hlt k hk1;have hno:∀k',k+1<=k'->k'<L.length->¬F.W k' h:=fun k' h1 h2 hw=>by have:=hk3 k' ⟨hall k' h2,hw⟩;omega
   by_cases hl:h<(F.hin (k+1)).length
   ·rw[<-hp.stay (show k+1<=L.length by omega) (Nat.le_refl _) hno hl,hp.hn]
   ·exfalso;have:H0.length<=h:=by have:=hp.mono (show 0<=k+1 by omega) (show k+1<=L.length by omega);rw[hp.h0]at this;omega
    obtain⟨k',g1,g2,g3⟩:=hp.made (Nat.le_refl _) Py this;by_cases hkk:k+1<=k'
    ·exact hno k' hkk g1 (.inr ⟨g2,g3⟩)
    ·have:=hp.mono (show k'+1<=k+1 by omega) (show k+1<=L.length by omega);rw[hp.lW g1]at this;omega
  ·have hno:∀k,listed[k]?=some true->¬F.W k h:=fun k a b=>hex ⟨k,a,b⟩
   have oi:∀k,0<=k->k<L.length->¬F.W k h:=fun k _ hk hw=>hno k (hall k hk) hw
   obtain⟨g1,g2⟩:=hm.DG h hno hh;by_cases h0:h<H0.length
   ·rw[g1 h0,<-hp.hn,hp.stay (Nat.zero_le _) (Nat.le_refl _) oi (by rw[hp.h0];exact h0),hp.h0]
   ·obtain⟨k',a1,a2,a3⟩:=hp.made (Nat.le_refl _) Py (by omega);exact absurd (.inr ⟨a2,a3⟩) (oi k' (Nat.zero_le _) a1)
 ·rw[List.getElem?_eq_none (by rw[hm.hlen];exact hh),List.getElem?_eq_none hh]
theorem acE(hD:aX cx.D)(hc:aE cx)(he:ec L 0=true)(hp:dm cx L (cM L []) H0 aW F L.length cB HF wr ms ws){n0:Nat}(hn:n0<=H0.length){Q:Exit->Act->World->Prop}:
 ∀(fuel:Nat)(listed:Array Bool)(H:List (Ob K))(ρ:List Value)(S:Nat->Prop)(a:Act)(w:World),fe cx L (cM L []) aW F H0 HF H ρ S listed a w->todo listed<=fuel->
 (∀ρ' S' a' w',aD cx.D ρ' S' w' HF->cF cx.D ρ' S' w' cB a'.tmps->a'.defers=[]->Step cx.D n0 ρ S H w ρ' S' HF w'->Q .normal a' w')->wpAny cx.P .any L.toArray Q fuel listed a w:=by
 have hfin:∀(listed:Array Bool)(H:List (Ob K))(ρ:List Value)(S:Nat->Prop)(a:Act)(w:World),fe cx L (cM L []) aW F H0 HF H ρ S listed a w->Region.ready .any L.toArray listed=[]->H=HF/\cF cx.D ρ S w cB a.tmps:=fun listed H ρ S a w hm hr=>by
  have hall:=Du he hm.fw hr;refine⟨hm.final hp hall,by rw[hp.len,hm.size],fun t v x hv hx=>?_⟩;rcases ka L t with hnd|⟨k,o,hk,hkd⟩
  ·rw[hp.rest t fun k o _ h=>hnd k o h]at hv;exact .dQ (hm.base t v x (fun k o hk hkd=>absurd hkd (hnd k o hk)) hv hx)
  ·have fA:=(List.getElem?_eq_some_iff.1 hk).1;rw[hp.fin k o t fA hk hkd]at hv;simp only[Option.some.injEq]at hv;subst hv;exact hm.done k o t x hk (hall k fA) hkd hx
 intro fuel
 induction fuel with
 |zero=>
  intro listed H ρ S a w hm ht hq;have hr:Region.ready .any L.toArray listed=[]:=by
   cases hh:Region.ready .any L.toArray listed with
   |nil=>rfl
   |cons j r=>
    have:j∈Region.ready .any L.toArray listed:=by rw[hh];simp
    exact absurd (oe.1 (mem_ready.1 this).1) (Dt (by omega))
  obtain⟨e,hs⟩:=hfin listed H ρ S a w hm hr;subst e;exact⟨hr,hq ρ S a w hm.heap hs hm.defers Step.refl⟩
 |succ fuel ih=>
  intro listed H ρ S a w hm ht hq;refine⟨fun hr=>by
   obtain⟨e,hs⟩:=hfin listed H ρ S a w hm hr;subst e;exact hq ρ S a w hm.heap hs hm.defers Step.refl,fun j hj=>?_⟩
  obtain⟨iI,o,hoj,hall⟩:=mem_ready.1 hj;have cJ:=oe.1 iI;have ho:L[j]?=some o:=by simpa using hoj
  have DL:=(List.getElem?_eq_some_iff.1 ho).1;have dK:∀e∈o.after,listed[e.on]?=some true:=fun e jk=>xC.1 (hall e jk (sk L 0 j o he ho e jk).2)
  have hA:∀k,((cM L []).getD j 0).testBit k=true->listed[k]?=some true:=fun k hk=>
   (gJ he (T:=fun i=>listed[i]?=some true) (fun i o hi ed=>hm.closed i o hi ed) j o ho dK k hk).1
  have hcl:∀i k,listed[i]?=some true->((cM L []).getD i 0).testBit k=true->listed[k]?=some true:=fun i k hi hk=>by
   have hiL:i<L.length:=by have:=(Array.getElem?_eq_some_iff.1 hi).1;rw[hm.fw]at this;exact this
   exact(gJ he (T:=fun i=>listed[i]?=some true) (fun i o hi ed=>hm.closed i o hi ed) i _ (List.getElem?_eq_getElem hiL) (hm.closed i _ (List.getElem?_eq_getElem hiL) hi) k hk).1
  obtain⟨bp,bP,fs⟩:=hp.slot j o DL ho;obtain⟨hsl,hkn⟩:=hm.slots hD rfl he hp ho cJ dK fs;have view:=hm.view hp DL cJ hA hcl fs;have hsv:=hm.heap.view hD view;have main:∀q,cD q cx L (cf (cr (cM L []) j) L 0 bp) (dX (F.mask j) 0 (F.hin j)) bP o=some (F.vals j,F.hout j,true)->wpOp cx.P L.toArray Q j (wpAny cx.P .any L.toArray Q fuel (listed.setIfInBounds j true)) a w:=fun q s1=>by
   have eD:∀g b y,F.vals j=.opt g b y->∃(k':Nat)(o':Oper),L[k']?=some o'/\o'.dst=some g/\listed[k']?=some true:=fun g b y e=>by
    rw[e]at s1;obtain⟨v,g1,g2⟩:=OZ s1;rcases hkn g v g1 g2 with hn'|h
    ·obtain⟨k,o',hk,h2,h3⟩:=fs.bP g (od s1 g b y rfl);exact absurd h3 (hn' k o' hk h2)
    ·exact h
   have hw:=xy hD hc hsv hsl (ops:=L) s1 rfl (k:=wpAny cx.P .any L.toArray Q fuel (listed.setIfInBounds j true)) (Q:=Q) fun u ρ1 S1 w1 q1 q2 q3=>by
    rw[uA]at q3;obtain⟨hm1,st1⟩:=hm.put hD hp ho cJ dK hA hcl fs q1 q3 q2 eD hn;exact ih _ _ _ S1 _ w1 hm1 (by have:=Ds cJ;omega) fun ρ' S' a' w' g1 g2 g3 g4=>hq ρ' S' a' w' g1 g2 g3 (st1.trans g4)
   unfold wpOp;rw[hoj];dsimp only;split
   ·rename_i hwt;rw[if_pos hwt]at hw;exact .inl hw
   ·rename_i hwt;rw[if_neg hwt]at hw;exact hw
  have s1:=fs.slot;unfold rJ at s1;split at s1
  ·exact main true s1
  ·split at s1
   ·exact main false s1
   ·cases s1
theorem fe.start(hp:dm cx L bs H0 aW F L.length cB HF wr ms ws)(hs:aD cx.D ρ S w H0)(hd:a.defers=[])(hsl:cF cx.D ρ S w aW a.tmps)(h0:bK aW):
 fe cx L bs aW F H0 HF (iN H0 HF.length) (ig ρ HF.length) S (Array.replicate L.length false) a w:=by
 have hf:∀(k:Nat),(Array.replicate L.length false)[k]?≠some true:=fun k e=>by
  rw[Array.getElem?_replicate]at e;split at e<;>simp at e
 have hl:=hp.len0;refine⟨hs.pad hl,Pq hl,hd,hsl.len.symm,by simp,fun t v x hn1 h1 h2=>?_,fun k o d x h1 h2=>absurd h2 (hf k),fun k g b y h1=>absurd h1 (hf k),fun k o h1 h2=>absurd h2 (hf k),fun h _ hh=>⟨fun h1=>?_,fun h1=>?_⟩,fun h k hk=>absurd hk (hf k),fun h h1 h2 _=>?_⟩
 ·have h3:=hsl.ok t v x h1 h2;have h4:Rep cx.D ρ S w v x:=by
   cases v with
   |opt g b y=>exact absurd h1 (h0 t g b y)
   |_=>exact h3
  exact h4.mono' (fun _ h=>h) (fun _ _=>rfl) fun h r hr _=>Pv hr
 ·unfold iN;rw[List.getElem?_append_left h1]
 ·unfold iN;rw[List.getElem?_append_right h1,List.getElem?_replicate,if_pos (by omega)]
 ·unfold ig;rw[List.getElem?_append_right (by rw[hs.len];exact h1),List.getElem?_replicate,if_pos (by rw[hs.len];omega)]
end
end Go.V
namespace Go.V
open Go
variable {K :bL}{ρ ρ':List Value}{S S':Nat->Prop}{w w':World}{H H':List (Ob K)}
theorem xJ{a b:Nat}(h:a≠b):Nat.beq a b=false:=by
 cases hb:Nat.beq a b
 ·rfl
 ·exact absurd (Nat.eq_of_beq_eq_true hb) h
structure xK (cx:Cx K) (L:List Oper) (bs:List Nat) (p:Nat) (H H1 HE:List (Ob K)) (aW:List (AV K)) (vals:Nat->AV K) (n:Nat) (tm:List (AV K)) (wr:List Nat):Prop where
 len:tm.length=aW.length
 uniq:∀(i j:Nat) o o' d,i<n->j<n->L[i]?=some o->L[j]?=some o'->o.dst=some d->o'.dst=some d->i=j
 inb:∀(i:Nat) o d,i<n->L[i]?=some o->o.dst=some d->d<aW.length
 fin:∀(i:Nat) o d,i<n->L[i]?=some o->o.dst=some d->tm[d]?=some (vals i)
 rest:∀t,(∀(k:Nat) o,k<n->L[k]?=some o->o.dst≠some t)->tm[t]?=aW[t]?
 eN:∀d,d∈wr↔∃(k:Nat)(o':Oper),k<n/\L[k]?=some o'/\o'.dst=some d
 slot:∀(i:Nat) o,i<n->L[i]?=some o->∃bp bP H',je cx L bs p H (if i<=p then H else H1) i (cf (cr bs i) L 0 bp) bP o=some (vals i,H',true)/\((i=p->H'=H1)/\(i+1=L.length->H'=HE))/\bp.length=aW.length/\
  (∀(k:Nat) o' d,L[k]?=some o'->o'.dst=some d->k<i->bp[d]?=some (vals k))/\(∀t,(∀(k:Nat) o,k<i->L[k]?=some o->o.dst≠some t)->bp[t]?=aW[t]?)/\∀d∈bP,∃(k:Nat)(o':Oper),k<i/\L[k]?=some o'/\o'.dst=some d
 h1:n<=p->H1=H
theorem DN{cx:Cx K}{L:List Oper}{bs:List Nat}{p:Nat}{H:List (Ob K)}:∀(l:List Oper)(i:Nat)(H1 lX:List (Ob K))(st st':St K)(wr wr':List Nat),jU cx L bs p H l i H1 st wr=some (lX,st',wr')->st'.ok=true->st.ok=true
 |[],i,H1,lX,st,st',wr,wr',h,hok=>by simp only[jU,Option.some.injEq,Prod.mk.injEq]at h;rw[h.2.1];exact hok
 |o::r,i,H1,lX,st,st',wr,wr',h,hok=>by
  simp only[jU]at h;split at h
  ·split at h
   ·rename_i st1 di hp;obtain⟨p1,p2,-⟩:=iL hp;have q1:=DN r (i+1) _ _ st1 st' di wr' h hok;rw[p2]at q1;simp only[Bool.and_eq_true]at q1;exact q1.2
   ·cases h
  ·cases h
theorem Pz{cx:Cx K}{L:List Oper}{bs:List Nat}{p:Nat}{H:List (Ob K)}{aW:List (AV K)}:∀(l:List Oper)(n:Nat)(H1 lX:List (Ob K))(st st':St K)(wr wr':List Nat)(vals:Nat->AV K),jU cx L bs p H l n H1 st wr=some (lX,st',wr')->st'.ok=true->
 (∀j,l[j]?=L[n+j]?)->n+l.length=L.length->xK cx L bs p H H1 st.H aW vals n st.tm wr->∃db,xK cx L bs p H lX st'.H aW db L.length st'.tm wr'
 |[],n,H1,lX,st,st',wr,wr',vals,h,hok,hl,hn,hp=>by
   simp only[jU,Option.some.injEq,Prod.mk.injEq]at h;obtain⟨rfl,rfl,rfl⟩:=h;simp at hn;subst hn;exact⟨vals,hp⟩
 |o::r,n,H1,lX,st,st',wr,wr',vals,h,hok,hl,hn,hp=>by
  have hLn:L[n]?=some o:=by have:=hl 0;simpa using this.symm
  simp only[jU]at h;split at h
  ·rename_i v H2 c hsv;split at h
   ·rename_i st1 di hput;obtain⟨p1,p2,p3⟩:=iL hput;have hok1:=DN r (n+1) _ _ st1 st' di wr' h hok;rw[p2]at hok1;simp only[Bool.and_eq_true]at hok1;obtain⟨rfl,-⟩:=hok1
    let db:Nat->AV K:=fun i=>if i=n then v else vals i
    have hv':∀i,i<n->db i=vals i:=fun i hi=>by simp[db,show i≠n by omega]
    have hvn:db n=v:=by simp[db]
    have acF:(if n<=p then H else cond (Nat.beq n p) H2 H1)=H1:=by
     by_cases fW:n<=p
     ·rw[if_pos fW];exact(hp.h1 fW).symm
     ·rw[if_neg fW];have:Nat.beq n p=false:=xJ (by omega);rw[this];rfl
    have ux:∃bp bP H',je cx L bs p H (if n<=p then H else cond (Nat.beq n p) H2 H1) n (cf (cr bs n) L 0 bp) bP o=some (db n,H',true)/\((n=p->H'=cond (Nat.beq n p) H2 H1)/\(n+1=L.length->H'=st1.H))/\bp.length=aW.length/\
     (∀(k:Nat) o' d,L[k]?=some o'->o'.dst=some d->k<n->bp[d]?=some (db k))/\(∀t,(∀(k:Nat) o,k<n->L[k]?=some o->o.dst≠some t)->bp[t]?=aW[t]?)/\∀d∈bP,∃(k:Nat)(o':Oper),k<n/\L[k]?=some o'/\o'.dst=some d:=
     ⟨st.tm,wr,H2,by rw[hvn,acF];exact hsv,⟨fun e=>by subst e;simp,fun e=>by rw[p1,e];simp⟩,hp.len,fun k o' d h1 h2 h3=>by rw[hv' k h3];exact hp.fin k o' d h3 h1 h2,fun t ht=>hp.rest t fun k o' hk h1=>ht k o' hk h1,fun d hd=>(hp.eN d).1 hd⟩
    have iM:∀(i:Nat) o,i<n+1->L[i]?=some o->∃bp bP H',je cx L bs p H (if i<=p then H else cond (Nat.beq n p) H2 H1) i (cf (cr bs i) L 0 bp) bP o=some (db i,H',true)/\((i=p->H'=cond (Nat.beq n p) H2 H1)/\(i+1=L.length->H'=st1.H))/\bp.length=aW.length/\
     (∀(k:Nat) o' d,L[k]?=some o'->o'.dst=some d->k<i->bp[d]?=some (db k))/\(∀t,(∀(k:Nat) o,k<i->L[k]?=some o->o.dst≠some t)->bp[t]?=aW[t]?)/\∀d∈bP,∃(k:Nat)(o':Oper),k<i/\L[k]?=some o'/\o'.dst=some d:=fun i o1 hi ho1=>by
     by_cases hin:i=n
     ·subst hin;rw[hLn]at ho1;simp at ho1;subst ho1;exact ux
     ·obtain⟨bp,bP,H3,a1,⟨b1,b2⟩,a2,a3,a4,a5⟩:=hp.slot i o1 (by omega) ho1;have hiL:=(List.getElem?_eq_some_iff.1 hLn).1;have hci:p<n->cond (Nat.beq n p) H2 H1=H1:=fun hpn=>by
       have:Nat.beq n p=false:=xJ (by omega);rw[this];rfl
      have hc2:(if i<=p then H else cond (Nat.beq n p) H2 H1)=(if i<=p then H else H1):=by
       by_cases xM:i<=p
       ·rw[if_pos xM,if_pos xM]
       ·rw[if_neg xM,if_neg xM];exact hci (by omega)
      exact⟨bp,bP,H3,by rw[hv' i (by omega),hc2];exact a1,⟨fun e=>by rw[b1 e,hci (by omega)],fun e=>by omega⟩,a2,fun k o' d h1 h2 h3=>by rw[hv' k (by omega)];exact a3 k o' d h1 h2 h3,a4,a5⟩
    refine Pz r (n+1) _ _ st1 st' di wr' db h hok (fun j=>by have:=hl (j+1);simp only[List.getElem?_cons_succ]at this;rw[this];congr 1;omega) (by simp at hn;omega) ?_;rcases p3 with⟨e1,e2,e3⟩|⟨d,e1,e2,e3,e4,e5⟩
    ·refine⟨by rw[e2];exact hp.len,fun i j o1 o2 d hi hj h1 h2 h3 h4=>?_,fun i o1 d hi h1 h2=>?_,fun i o1 d hi h1 h2=>?_,fun t ht=>by rw[e2];exact hp.rest t fun k o' hk=>ht k o' (by omega),fun d=>?_,iM,fun fW=>by rw[show Nat.beq n p=false from xJ (by omega)];exact hp.h1 (by omega)⟩
     ·have hin:i≠n:=fun e=>by subst e;rw[hLn]at h1;simp at h1;subst h1;rw[e1]at h3;cases h3
      have hjn:j≠n:=fun e=>by subst e;rw[hLn]at h2;simp at h2;subst h2;rw[e1]at h4;cases h4
      exact hp.uniq i j o1 o2 d (by omega) (by omega) h1 h2 h3 h4
     ·have hin:i≠n:=fun e=>by subst e;rw[hLn]at h1;simp at h1;subst h1;rw[e1]at h2;cases h2
      exact hp.inb i o1 d (by omega) h1 h2
     ·have hin:i≠n:=fun e=>by subst e;rw[hLn]at h1;simp at h1;subst h1;rw[e1]at h2;cases h2
      rw[e2,hv' i (by omega)];exact hp.fin i o1 d (by omega) h1 h2
     ·rw[e3,hp.eN d];constructor
      ·rintro ⟨k,o',hk,h1,h2⟩;exact⟨k,o',by omega,h1,h2⟩
      ·rintro ⟨k,o',hk,h1,h2⟩
       have hkn:k≠n:=fun e=>by subst e;rw[hLn]at h1;simp at h1;subst h1;rw[e1]at h2;cases h2
       exact⟨k,o',by omega,h1,h2⟩
    ·have hnew:∀(k:Nat) o',k<n->L[k]?=some o'->o'.dst≠some d:=fun k o' hk h1 h2=>e2 ((hp.eN d).2 ⟨k,o',hk,h1,h2⟩)
     have hdn:∀{o1:Oper}{d1:Nat},L[n]?=some o1->o1.dst=some d1->d1=d:=fun{o1 d1} h1 h2=>by rw[hLn]at h1;simp at h1;subst h1;rw[e1]at h2;simpa using h2.symm
     refine⟨by rw[e4];simp[hp.len],fun i j o1 o2 d1 hi hj h1 h2 h3 h4=>?_,fun i o1 d1 hi h1 h2=>?_,fun i o1 d1 hi h1 h2=>?_,fun t ht=>?_,fun d1=>?_,iM,fun fW=>by rw[show Nat.beq n p=false from xJ (by omega)];exact hp.h1 (by omega)⟩
     ·by_cases hin:i=n<;>by_cases hjn:j=n
      ·omega
      ·subst hin;have:=hdn h1 h3;subst this;exact absurd h4 (hnew j o2 (by omega) h2)
      ·subst hjn;have:=hdn h2 h4;subst this;exact absurd h3 (hnew i o1 (by omega) h1)
      ·exact hp.uniq i j o1 o2 d1 (by omega) (by omega) h1 h2 h3 h4
     ·by_cases hin:i=n
      ·subst hin;have:=hdn h1 h2;subst this;rw[<-hp.len];exact e3
      ·exact hp.inb i o1 d1 (by omega) h1 h2
     ·rw[e4];by_cases hin:i=n
      ·subst hin;have:=hdn h1 h2;subst this;rw[List.getElem?_set,if_pos rfl,if_pos e3,hvn]
      ·have hne:d1≠d:=fun e=>by subst e;exact hnew i o1 (by omega) h1 h2
       rw[List.getElem?_set,if_neg (Ne.symm hne),hv' i (by omega)];exact hp.fin i o1 d1 (by omega) h1 h2
     ·have hne:d≠t:=fun e=>by subst e;exact ht n o (by omega) hLn e1
      rw[e4,List.getElem?_set,if_neg hne];exact hp.rest t fun k o' hk=>ht k o' (by omega)
     ·rw[e5,List.mem_cons,hp.eN d1];constructor
      ·rintro (rfl|⟨k,o',hk,h1,h2⟩)
       ·exact⟨n,o,by omega,hLn,e1⟩
       ·exact⟨k,o',by omega,h1,h2⟩
      ·rintro ⟨k,o',hk,h1,h2⟩
       by_cases hkn:k=n
       ·subst hkn;exact .inl (hdn h1 h2)
       ·exact .inr ⟨k,o',by omega,h1,h2⟩
   ·cases h
  ·cases h
theorem Mid.acG{cx:Cx K}{L:List Oper}{aW:List (AV K)}{vals:Nat->AV K}{bs:List Nat}(hbs:bs=cM L [])(he:ec L 0=true){listed:Array Bool}{a:Act}
 (hm:Mid cx L aW vals H ρ S listed a w) (fx:∀(i j:Nat) o o' d,L[i]?=some o->L[j]?=some o'->o.dst=some d->o'.dst=some d->i=j) (h0:bK aW) {j:Nat} {o:Oper} (ho:L[j]?=some o) (cJ:listed[j]?=some false) (dK:∀e∈o.after,listed[e.on]?=some true) {bp:List (AV K)} (hl:bp.length=aW.length)
 (h1:∀(k:Nat) o' d,L[k]?=some o'->o'.dst=some d->k<j->bp[d]?=some (vals k)) (h2:∀t,(∀(k:Nat) o,k<j->L[k]?=some o->o.dst≠some t)->bp[t]?=aW[t]?):cF cx.D ρ S w (cf (cr bs j) L 0 bp) a.tmps/\
   ∀(t:Nat) v,(cf (cr bs j) L 0 bp)[t]?=some v->v≠.any->(∀(k:Nat) o',k<j->L[k]?=some o'->o'.dst≠some t)\/∃(k:Nat)(o':Oper),L[k]?=some o'/\o'.dst=some t/\listed[k]?=some true:=by
 have key:∀(t:Nat) v,(cf (cr bs j) L 0 bp)[t]?=some v->v≠.any->(((∀(k:Nat) o',k<j->L[k]?=some o'->o'.dst≠some t)/\(∀(k:Nat) o,L[k]?=some o->o.dst=some t->listed[k]?≠some true))/\aW[t]?=some v)\/∃(k:Nat)(o':Oper),L[k]?=some o'/\o'.dst=some t/\listed[k]?=some true/\v=vals k:=fun t v hv hne=>by
  obtain⟨g1,g2⟩:=xz L 0 bp t v hv hne;rcases ka L t with hn|⟨k,o',hk,hkd⟩
  ·exact .inl ⟨⟨fun k o' _ h=>hn k o' h,fun k o' h h'=>absurd h' (hn k o' h)⟩,by rw[<-h2 t fun k o' _ h=>hn k o' h];exact g1⟩
  ·have hb:=g2 k o' hk hkd;rw[Nat.zero_add,hbs]at hb;rcases Dn hb with hb|hb
   ·obtain⟨c1,c2⟩:=gJ he (T:=fun i=>listed[i]?=some true) (fun i o hi ed=>hm.closed i o hi ed) j o ho dK k hb;have:=h1 k o' t hk hkd c2;rw[g1]at this;exact .inr ⟨k,o',hk,hkd,c1,by simpa using this⟩
   ·have c0:=(gJ he (T:=fun _=>True) (fun _ _ _ _ _ _=>trivial) k o' hk (fun _ _=>trivial) j hb).2;have hun:listed[k]?≠some true:=fun hlk=>by
     have:=(gJ he (T:=fun i=>listed[i]?=some true) (fun i o hi ed=>hm.closed i o hi ed) k o' hk (hm.closed k o' hk hlk) j hb).1;rw[cJ]at this;cases this
    have fx:∀(k':Nat) o1,L[k']?=some o1->o1.dst=some t->k'=k:=fun k' o1 h1 h2=>fx k' k o1 o' t h1 hk h2 hkd
    have hlt:∀(k':Nat) o1,k'<j->L[k']?=some o1->o1.dst≠some t:=fun k' o1 hk' h1 h2=>by have:=fx k' o1 h1 h2;omega
    exact .inl ⟨⟨hlt,fun k' o1 h1 h2=>by rw[fx k' o1 h1 h2];exact hun⟩,by rw[<-h2 t hlt];exact g1⟩
 refine⟨⟨by rw[xA,hl,hm.size],fun t v x hv hx=>?_⟩,fun t v hv hne=>?_⟩
 ·by_cases hne:v=.any
  ·subst hne;exact .dQ (.any x)
  ·rcases key t v hv hne with⟨⟨-,hn⟩,g⟩|⟨k,o',hk,hkd,hlk,rfl⟩
   ·exact .dQ (hm.base t v x hn g hx)
   ·exact hm.done k o' t x hk hlk hkd hx
 ·rcases key t v hv hne with⟨⟨hn,-⟩,-⟩|⟨k,o',hk,hkd,hlk,-⟩
  ·exact .inl hn
  ·exact .inr ⟨k,o',hk,hkd,hlk⟩
theorem Mid.acH{cx:Cx K}{L:List Oper}{aW:List (AV K)}{vals:Nat->AV K}  {listed:Array Bool} {a:Act} (hm:Mid cx L aW vals H ρ S listed a w) (fx:∀(i j:Nat) o o' d,L[i]?=some o->L[j]?=some o'->o.dst=some d->o'.dst=some d->i=j) {j:Nat} {o:Oper} (ho:L[j]?=some o)
 (hj:listed[j]?=some false) (dK:∀e∈o.after,listed[e.on]?=some true) {u:Value} {H':List (Ob K)} (hs':aD cx.D ρ' S' w' H') (hst:Step cx.D H.length ρ S H w ρ' S' H' w') (hv:cA cx.D ρ' S' w' a.tmps (vals j) u)
 (eD:∀g b y,vals j=.opt g b y->∃(k':Nat)(o':Oper),L[k']?=some o'/\o'.dst=some g/\listed[k']?=some true):Mid cx L aW vals H' ρ' S' (listed.setIfInBounds j true) (a.put o.dst u) w':=by
 have hjs:j<listed.size:=(Array.getElem?_eq_some_iff.1 hj).1;have hget:∀(k:Nat),(listed.setIfInBounds j true)[k]?=some true↔(k=j\/listed[k]?=some true):=fun k=>by
  rw[Array.getElem?_setIfInBounds];by_cases hk:j=k
  ·subst hk;simp[hjs]
  ·rw[if_neg hk];simp[Ne.symm hk]
 have hmono:∀{v:AV K}{x:Value},Rep cx.D ρ S w v x->Rep cx.D ρ' S' w' v x:=fun h=>h.mono hst.s1 (hst.nP hm.heap) (hst.uw hm.heap)
 have uy:∀{v:AV K}{x:Value}{tmps:Array Value},cA cx.D ρ S w tmps v x->cA cx.D ρ' S' w' tmps v x:=fun h=>h.mono hst.s1 (hst.nP hm.heap) (hst.uw hm.heap)
 have hclosed:∀(k:Nat) o1,L[k]?=some o1->(listed.setIfInBounds j true)[k]?=some true->∀e∈o1.after,(listed.setIfInBounds j true)[e.on]?=some true:=fun k o1 hk hlk e he=>by
  rw[hget]at hlk⊢;rcases hlk with rfl|hlk
  ·rw[ho]at hk;simp at hk;subst hk;exact .inr (dK e he)
  ·exact .inr (hm.closed k o1 hk hlk e he)
 have lV:∀(k g:Nat) b y,(listed.setIfInBounds j true)[k]?=some true->vals k=.opt g b y->∃(k':Nat)(o':Oper),L[k']?=some o'/\o'.dst=some g/\(listed.setIfInBounds j true)[k']?=some true:=fun k g b y hlk hvk=>by
  rw[hget]at hlk;rcases hlk with rfl|hlk
  ·obtain⟨k',o',h1,h2,h3⟩:=eD g b y hvk;exact⟨k',o',h1,h2,(hget k').2 (.inr h3)⟩
  ·obtain⟨k',o',h1,h2,h3⟩:=hm.opts k g b y hlk hvk;exact⟨k',o',h1,h2,(hget k').2 (.inr h3)⟩
 cases hdst:o.dst with
 |none=>
  refine⟨hs',hm.defers,hm.size,by simp[hm.fw],fun t v x h1 h2 h3=>hmono (hm.base t v x (fun k o1 hk hd1 hl=>h1 k o1 hk hd1 ((hget k).2 (.inr hl))) h2 h3),fun k o1 d x hk hlk hd1 hx=>?_,lV,hclosed⟩;rw[hget]at hlk;rcases hlk with rfl|hlk
  ·rw[ho]at hk;simp at hk;subst hk;rw[hdst]at hd1;cases hd1
  ·exact uy (hm.done k o1 d x hk hlk hd1 hx)
 |some d=>
  have hne:∀{k:Nat}{o1:Oper},L[k]?=some o1->listed[k]?=some true->o1.dst≠some d:=fun{k o1} hk hlk hd1=>by
   have:=fx k j o1 o d hk ho hd1 hdst;subst this;rw[hj]at hlk;cases hlk
  refine⟨hs',hm.defers,by simp[Act.put,hm.size],by simp[hm.fw],fun t v x h1 h2 h3=>?_,fun k o1 d1 x hk hlk hd1 hx=>?_,lV,hclosed⟩
  ·have:d≠t:=fun e=>by subst e;exact h1 j o ho hdst ((hget j).2 (.inl rfl))
   simp only[Act.put,Array.getElem?_setIfInBounds,if_neg this]at h3;exact hmono (hm.base t v x (fun k o1 hk hd1 hl=>h1 k o1 hk hd1 ((hget k).2 (.inr hl))) h2 h3)
  ·rw[hget]at hlk;simp only[Act.put]at hx⊢;rw[Array.getElem?_setIfInBounds]at hx;rcases hlk with rfl|hlk
   ·rw[ho]at hk;simp at hk;subst hk;rw[hdst]at hd1;simp at hd1;subst hd1;rw[if_pos rfl]at hx;split at hx
    ·simp at hx;subst hx;refine hv.put fun g b y e he=>?_
     obtain⟨k',o',h1,h2,h3⟩:=eD g b y e;subst he;exact hne h1 h3 h2
    ·cases hx
   ·have hdd:d≠d1:=fun e=>by subst e;exact hne hk hlk hd1
    rw[if_neg hdd]at hx;refine(uy (hm.done k o1 d1 x hk hlk hd1 hx)).put fun g b y e he=>?_
    obtain⟨k',o',h1,h2,h3⟩:=hm.opts k g b y hlk e;subst he;exact hne h1 h3 h2
mutual
theorem PC{h:Nat}{t:TypeId}{m:Nat}{l l':List (List Int×Int)}(ho:H[h]?=some (.bf t m l)):∀(v:AV K),bW (H.set h (.bf t m l')) v=bW H v
 |.sl k=>by
   simp only[bW];rw[List.getElem?_set];by_cases e:h=k
   ·subst e;rw[if_pos rfl,if_pos (List.getElem?_eq_some_iff.1 ho).1,ho]
   ·rw[if_neg e]
 |.vw k a b c=>by
   simp only[bW];rw[List.getElem?_set];by_cases e:h=k
   ·subst e;rw[if_pos rfl,if_pos (List.getElem?_eq_some_iff.1 ho).1,ho]
   ·rw[if_neg e]
 |.ptr k o=>by
   simp only[bW];rw[List.getElem?_set];by_cases e:h=k
   ·subst e;rw[if_pos rfl,if_pos (List.getElem?_eq_some_iff.1 ho).1,ho]
   ·rw[if_neg e]
 |.agg r=>by simp only[bW];rw[DO ho r]
 |.bc r=>by simp only[bW];rw[DO ho r]
 |.any|.int _ _|.bool _|.str _|.bN|.bO|.mp|.fn _ _|.ep _ _ _ _|.au _ _|.rp _ _ _|.np _|.opt _ _ _=>by simp only[bW]
theorem DO{h:Nat}{t:TypeId}{m:Nat}{l l':List (List Int×Int)}(ho:H[h]?=some (.bf t m l)):∀(r:List (AV K)),gw (H.set h (.bf t m l')) r=gw H r
 |[]=>rfl
 |v::r=>by simp only[gw];rw[PC ho v,DO ho r]
end
theorem PD:∀(l:List (List Int×Int))(a b:List Int)(v:Int),bJ (l++[(a,v)]) b=bJ l b\/(bJ l b=l.length/\bJ (l++[(a,v)]) b=l.length+1)
 |[],a,b,v=>by
   simp only[List.nil_append,bJ,List.length_nil];cases a==b
   ·exact .inr ⟨trivial,rfl⟩
   ·exact .inl rfl
 |p::r,a,b,v=>by
  simp only[List.cons_append,bJ,List.length_cons];cases p.1==b
  ·simp only[cond_false];rcases PD r a b v with h|⟨h1,h2⟩
   ·exact .inl (by rw[h])
   ·exact .inr ⟨by rw[h1],by rw[h2]⟩
  ·exact .inl rfl
theorem acI(l:List (List Int×Int))(a b:List Int):bU (dr l a) b=bU l b:=by
 unfold dr;cases hh:du l a with
 |true=>rfl
 |false=>
  simp only[cond_false];unfold bU;rcases PD l a b 0 with h|⟨h1,h2⟩
  ·rw[h,List.getD_eq_getElem?_getD,List.getD_eq_getElem?_getD];rcases Nat.lt_or_ge (bJ l b) l.length with hlt|hge
   ·rw[List.getElem?_append_left hlt]
   ·have h2:=ko l b;have h3:bJ l b=l.length:=by omega
    rw[h3,List.getElem?_append_right (Nat.le_refl _),List.getElem?_eq_none (Nat.le_refl _)];simp
  ·rw[h2,h1,List.getD_eq_getElem?_getD,List.getD_eq_getElem?_getD,List.getElem?_eq_none (by simp),List.getElem?_eq_none (Nat.le_refl _)]
theorem PE{cx:Cx K}{ops:List Oper}{tm:List (AV K)}{wr:List Nat}{o:Oper}{v:AV K}{t:TypeId}{m x:Operand}(hg:o.guard=none)(hop:o.op=.mapEntry t m x)(h:cD false cx ops tm H wr o=some (v,H',true)):
 ∃(h:Nat)(ks:List Int)(k:Nat)(l:List (List Int×Int))(hT:kn cx.P t k),cx.maps t=some ⟨k,hT⟩/\bW H (ca tm [] m)=.sl h/\rE (bW H (ca tm [] x))=some ks/\H[h]?=some (.bf t k l)/\H'=H.set h (.bf t k (dr l ks))/\cb k ks=true:=by
 have hgo:guardOf ops o=some none:=by unfold guardOf;rw[hg]
 unfold cD at h;rw[hgo]at h;dsimp only at h;rw[hop]at h;split at h
 ·rename_i v1 H1 c1 t1 hy;split at h
  ·cases h
  ·simp only[Option.some.injEq,Prod.mk.injEq]at h;obtain⟨rfl,rfl,rfl⟩:=h;simp only[dV,iC,lD,cutV,lF,lB,eZ,jN,dO,Bool.false_eq_true,if_false]at hy;split at hy
   ·rename_i k hT hh ks hm hmv hks;split at hy
    ·rename_i t' k' l ho;split at hy
     ·rename_i hk;obtain⟨rfl,rfl⟩:=hk;simp only[Option.some.injEq,Prod.mk.injEq]at hy;obtain⟨rfl,rfl,hc,rfl⟩:=hy;exact⟨hh,ks,k',l,hT,hm,hmv,hks,ho,rfl,hc⟩
     ·cases hy
    ·cases hy
   ·cases hy
 ·cases h
theorem acJ{cx:Cx K}{ops:List Oper}{tm:List (AV K)}{wr:List Nat}{o:Oper}{v:AV K}{c:Bool}(hg:o.guard=none)(he:wS o=true){h:Nat}{t:TypeId}{m:Nat}{l:List (List Int×Int)}{ks:List Int}(ho:H[h]?=some (.bf t m l))
 (hs:cD true cx ops tm H wr o=some (v,H',c)):∃H2,cD true cx ops tm (H.set h (.bf t m (dr l ks))) wr o=some (v,H2,c):=by
 have hgo:guardOf ops o=some none:=by unfold guardOf;rw[hg]
 have hu:=PC (l':=dr l ks) ho;unfold cD at hs⊢;rw[hgo]at hs⊢;dsimp only at hs⊢;have key:∀v1 H1 c1 t1,dV true cx tm [] H o.type o.op=some (v1,H1,c1,t1)->∃H2,dV true cx tm [] (H.set h (.bf t m (dr l ks))) o.type o.op=some (v1,H2,c1,t1):=fun v1 H1 c1 t1 hy=>by
  unfold wS at he;split at he
  ·rename_i hop;rw[hop]at hy⊢;simp only[dV,iC,nG]at hy⊢;rw[hu,hu];split at hy
   ·rename_i v2 c2 hb;simp only[Option.some.injEq,Prod.mk.injEq]at hy;obtain⟨rfl,rfl,rfl,rfl⟩:=hy
    first|exact⟨_,rfl⟩|(rw[hb];exact⟨_,rfl⟩)
   ·cases hy
  ·rename_i hop;rw[hop]at hy⊢;simp only[dV,iC,nG]at hy⊢;rw[hu,hu];split at hy
   ·rename_i v2 c2 hb;simp only[Option.some.injEq,Prod.mk.injEq]at hy;obtain⟨rfl,rfl,rfl,rfl⟩:=hy;split at hb
    ·rename_i k hT hh ks2 hm hmv hks;split at hb
     ·rename_i t' k' l' ho';split at hb
      ·rename_i hk;obtain⟨rfl,rfl⟩:=hk;simp only[Option.some.injEq,Prod.mk.injEq]at hb;obtain⟨rfl,rfl⟩:=hb;rw[List.getElem?_set];by_cases e:h=hh
       ·subst e;rw[ho]at ho';simp only[Option.some.injEq,Ob.bf.injEq]at ho';obtain⟨rfl,rfl,rfl⟩:=ho';rw[if_pos rfl,if_pos (List.getElem?_eq_some_iff.1 ho).1];dsimp only;rw[if_pos ⟨rfl,rfl⟩,acI];exact⟨_,rfl⟩
       ·rw[if_neg e,ho'];dsimp only;rw[if_pos ⟨rfl,rfl⟩];exact⟨_,rfl⟩
      ·cases hb
     ·cases hb
    ·cases hb
   ·cases hy
  ·cases he
 split at hs
 ·rename_i v1 H1 c1 t1 hy;obtain⟨H2,hy2⟩:=key _ _ _ _ hy;rw[hy2];dsimp only;split at hs
  ·cases hs
  ·rename_i hno;simp only[Option.some.injEq,Prod.mk.injEq]at hs;obtain⟨rfl,rfl,rfl⟩:=hs;rw[if_neg hno];exact⟨_,rfl⟩
 ·cases hs
def hat(L:List Oper)(p:Nat)(H Hp HE:List (Ob K))(listed:Array Bool):List (Ob K):=
 if listed[L.length-1]?=some true then HE else if listed[p]?=some true then Hp else H
theorem DR{cx:Cx K}{ops:List Oper}{tm:List (AV K)}{wr:List Nat}{o:Oper}{v:AV K}{c:Bool}(hg:o.guard=none)(hq:fR cx o.op=true)(s1:cD true cx ops tm H wr o=some (v,H',c)):H'=H:=by
 have hgo:guardOf ops o=some none:=by unfold guardOf;rw[hg]
 unfold cD at s1;rw[hgo]at s1;dsimp only at s1;split at s1
 ·rename_i hy;split at s1
  ·cases s1
  ·simp only[Option.some.injEq,Prod.mk.injEq]at s1;obtain⟨-,rfl,-⟩:=s1;exact oa hy
 ·cases s1
theorem uE{q:Bool}{cx:Cx K}{ops:List Oper}{tm:List (AV K)}{wr:List Nat}{o:Oper}{v:AV K}{c:Bool}(hg:o.guard=none)(s1:cD q cx ops tm H wr o=some (v,H',c)):v.dU=false:=by
 have hgo:guardOf ops o=some none:=by unfold guardOf;rw[hg]
 unfold cD at s1;rw[hgo]at s1;dsimp only at s1;split at s1
 ·split at s1
  ·cases s1
  ·rename_i hno;simp only[Option.some.injEq,Prod.mk.injEq]at s1;obtain⟨rfl,-,-⟩:=s1;simpa using hno
 ·cases s1
theorem inc_any{cx:Cx K}(hD:aX cx.D)(hc:aE cx){L:List Oper}(he:ec L 0=true){p:Nat}(hi:rL L (cM L []) p=true){aW cB:List (AV K)}{vals:Nat->AV K}{Hp HE:List (Ob K)}{wr:List Nat}
 (hd:xK cx L (cM L []) p H Hp HE aW vals L.length cB wr) (DT:Hp.length=H.length) (DU:HE.length=H.length) (h0:bK aW)
 {n0:Nat} (hn:n0<=H.length) {Q:Exit->Act->World->Prop}:∀(fuel:Nat)(listed:Array Bool)(ρ:List Value)(S:Nat->Prop)(a:Act)(w:World),Mid cx L aW vals (hat L p H Hp HE listed) ρ S listed a w->todo listed<=fuel->
 (∀ρ' S' a' w',aD cx.D ρ' S' w' HE->cF cx.D ρ' S' w' cB a'.tmps->a'.defers=[]->Step cx.D n0 ρ S (hat L p H Hp HE listed) w ρ' S' HE w'->Q .normal a' w')->wpAny cx.P .any L.toArray Q fuel listed a w:=by
 simp only[rL,Bool.and_eq_true,decide_eq_true_eq,List.all_eq_true,List.mem_range]at hi;obtain⟨hpl,hpe,hqe,hgs,hall0⟩:=hi;have hlt:∀{i:Nat}{o:Oper},L[i]?=some o->i<L.length:=fun h=>(List.getElem?_eq_some_iff.1 h).1
 have hgn:∀{i:Nat}{o:Oper},L[i]?=some o->o.guard=none:=fun{i o} h=>by
  have:=hgs o (List.mem_of_getElem? h);simpa using this
 have fx:∀(i j:Nat) o o' d,L[i]?=some o->L[j]?=some o'->o.dst=some d->o'.dst=some d->i=j:=fun i j o o' d h1 h2=>hd.uniq i j o o' d (hlt h1) (hlt h2) h1 h2
 have acK:∀listed,(hat L p H Hp HE listed).length=H.length:=fun listed=>by
  unfold hat;split
  ·exact DU
  ·split
   ·exact DT
   ·rfl
 have hfin:∀(listed:Array Bool)(ρ:List Value)(S:Nat->Prop)(a:Act)(w:World),Mid cx L aW vals (hat L p H Hp HE listed) ρ S listed a w->Region.ready .any L.toArray listed=[]->hat L p H Hp HE listed=HE/\cF cx.D ρ S w cB a.tmps:=fun listed ρ S a w hm hr=>by
  have hall:=Du he hm.fw hr;refine⟨by unfold hat;rw[if_pos (hall _ (by omega))],by rw[hd.len,hm.size],fun t v x hv hx=>?_⟩;rcases ka L t with hnd|⟨k,o,hk,hkd⟩
  ·rw[hd.rest t fun k o _ h=>hnd k o h]at hv;exact .dQ (hm.base t v x (fun k o hk hkd=>absurd hkd (hnd k o hk)) hv hx)
  ·rw[hd.fin k o t (hlt hk) hk hkd]at hv;simp only[Option.some.injEq]at hv;subst hv;exact hm.done k o t x hk (hall k (hlt hk)) hkd hx
 have PG:∀(listed:Array Bool)(ρ:List Value)(S:Nat->Prop)(a:Act)(w:World),Mid cx L aW vals (hat L p H Hp HE listed) ρ S listed a w->Region.ready .any L.toArray listed=[]->
  (∀ρ' S' a' w',aD cx.D ρ' S' w' HE->cF cx.D ρ' S' w' cB a'.tmps->a'.defers=[]->Step cx.D n0 ρ S (hat L p H Hp HE listed) w ρ' S' HE w'->Q .normal a' w')->Q .normal a w:=fun listed ρ S a w hm hr hq=>by
  obtain⟨e,hs⟩:=hfin listed ρ S a w hm hr;have hh:=hm.heap;rw[e]at hh hq;exact hq ρ S a w hh hs hm.defers Step.refl
 intro fuel
 induction fuel with
 |zero=>
  intro listed ρ S a w hm ht hq;have hr:Region.ready .any L.toArray listed=[]:=by
   cases hh:Region.ready .any L.toArray listed with
   |nil=>rfl
   |cons j r=>
    have:j∈Region.ready .any L.toArray listed:=by rw[hh];simp
    exact absurd (oe.1 (mem_ready.1 this).1) (Dt (by omega))
  exact⟨hr,PG listed ρ S a w hm hr hq⟩
 |succ fuel ih=>
  intro listed ρ S a w hm ht hq;refine⟨fun hr=>PG listed ρ S a w hm hr hq,fun j hj=>?_⟩;obtain⟨iI,o,hoj,hall⟩:=mem_ready.1 hj;have cJ:=oe.1 iI;have ho:L[j]?=some o:=by simpa using hoj
  have dK:∀e∈o.after,listed[e.on]?=some true:=fun e jk=>xC.1 (hall e jk (sk L 0 j o he ho e jk).2)
  obtain⟨bp,bP,H3,s1,⟨sp,sq⟩,s2,s3,s4,s5⟩:=hd.slot j o (hlt ho) ho;obtain⟨hsl,hkn⟩:=hm.acG rfl he fx h0 ho cJ dK s2 s3 s4;have hjs:j<listed.size:=(Array.getElem?_eq_some_iff.1 cJ).1;have hsz:=hm.fw;have hset:∀(k:Nat),(listed.setIfInBounds j true)[k]?=some true↔(k=j\/listed[k]?=some true):=fun k=>by
   rw[Array.getElem?_setIfInBounds];by_cases hk:j=k
   ·subst hk;simp[hjs]
   ·rw[if_neg hk];simp[Ne.symm hk]
  have cl:∀(i:Nat) o,L[i]?=some o->listed[i]?=some true->∀e∈o.after,listed[e.on]?=some true:=hm.closed;have down:∀(i k:Nat),listed[i]?=some true->((cM L []).getD i 0).testBit k=true->listed[k]?=some true:=fun i k h1 h2=>by
   have hiL:i<L.length:=by rw[<-hsz];exact(Array.getElem?_eq_some_iff.1 h1).1
   exact(gJ he (T:=fun i=>listed[i]?=some true) (fun i o hi ed=>cl i o hi ed) i L[i] (List.getElem?_eq_getElem hiL) (cl i _ (List.getElem?_eq_getElem hiL) h1) k h2).1
  have PH:∀k,((cM L []).getD j 0).testBit k=true->listed[k]?=some true/\k<j:=fun k h2=>by
   exact gJ he (T:=fun i=>listed[i]?=some true) (fun i o hi ed=>cl i o hi ed) j o ho dK k h2
  have DL:=hlt ho;have oj:listed[L.length-1]?≠some true:=fun hl=>by
   by_cases hjq:j=L.length-1
   ·subst hjq;rw[cJ]at hl;cases hl
   ·have:=down (L.length-1) j hl (hall0 j (by omega));rw[cJ]at this;cases this
  have go:∀{q:Bool}{G G':List (Ob K)},hat L p H Hp HE listed=G->hat L p H Hp HE (listed.setIfInBounds j true)=G'->cD q cx L (cf (cr (cM L []) j) L 0 bp) G bP o=some (vals j,G',true)->
   wpOp cx.P L.toArray Q j (wpAny cx.P .any L.toArray Q fuel (listed.setIfInBounds j true)) a w:=fun{q G G'} e1 e2 s=>by
   have hh:=hm.heap;rw[e1]at hh;have hlG:G.length=H.length:=by rw[<-e1];exact acK _
   have hw:=xy hD hc hh hsl (ops:=L) s rfl (k:=wpAny cx.P .any L.toArray Q fuel (listed.setIfInBounds j true)) (Q:=Q) fun u ρ1 S1 w1 q1 q2 q3=>by
    have hm1:=Mid.acH (H:=G) (by rw[<-e1];exact hm) fx ho cJ dK q1 q3 q2 (fun g b y e=>by
     have:=uE (hgn ho) s;rw[e]at this;cases this)
    refine ih _ ρ1 S1 _ w1 (by rw[e2];exact hm1) (by have:=Ds cJ;omega) fun ρ' S' a' w' g1 g2 g3 g4=>hq ρ' S' a' w' g1 g2 g3 ?_
    rw[e2]at g4;rw[e1];exact(q3.weaken (by omega)).trans g4
   unfold wpOp;rw[hoj];dsimp only;split
   ·rename_i hwt;rw[if_pos hwt]at hw;exact .inl hw
   ·rename_i hwt;rw[if_neg hwt]at hw;exact hw
  unfold je at s1;split at s1
  ·
   rename_i hjp;have hjp:=Nat.eq_of_beq_eq_true hjp;subst hjp;have e:=sp rfl;subst e;refine go (by unfold hat;rw[if_neg oj,if_neg (by rw[cJ];simp)]) ?_ s1;unfold hat;rw[if_neg (by rw[hset];rintro (h|h);omega;exact oj h),if_pos ((hset j).2 (.inl rfl))]
  ·rename_i hjp;have hjp:j≠p:=fun e=>hjp (by rw[e];simp)
   split at s1
   ·
    rename_i hjq;have hjq:=Nat.eq_of_beq_eq_true hjq;have PI:L.length-1=j:=by omega
    have hpL:listed[p]?=some true:=(PH p (by rw[<-PI];exact hall0 p (by omega))).1;rw[if_neg (by omega)]at s1;have e:=sq hjq;subst e;refine go (by unfold hat;rw[if_neg oj,if_pos hpL]) ?_ s1;unfold hat;rw[if_pos ((hset _).2 (.inl PI))]
   ·rename_i hjq;have hjq:j+1≠L.length:=fun e=>hjq (by rw[e];simp)
    have DV:(listed.setIfInBounds j true)[L.length-1]?≠some true:=fun h=>by
     rcases(hset _).1 h with h|h
     ·omega
     ·exact oj h
    have hp':((listed.setIfInBounds j true)[p]?=some true)↔listed[p]?=some true:=by
     rw[hset];exact⟨fun h=>h.resolve_left (fun e=>hjp e.symm),.inr⟩
    split at s1
    ·
     rename_i hb;obtain⟨hpL,hpj⟩:=PH p hb;split at s1
     ·rename_i xN;rw[if_neg (by omega)]at s1;have e:=DR (hgn ho) xN s1;subst e;refine go (by unfold hat;rw[if_neg oj,if_pos hpL]) ?_ s1;unfold hat;rw[if_neg DV,if_pos (hp'.2 hpL)]
     ·cases s1
    ·split at s1
     ·rename_i hev;split at s1
      ·rename_i xN;have e:=DR (hgn ho) xN s1;subst e;by_cases hpL:listed[p]?=some true
       ·
        have hnb:((cM L []).getD p 0).testBit j≠true:=fun h=>by
         have:=down p j hpL h;rw[cJ]at this;cases this
        have hev:wS o=true:=by
         rcases Bool.or_eq_true _ _ ▸ hev with h|h
         ·exact absurd h hnb
         ·exact h
        obtain⟨po,hpo⟩:∃po,L[p]?=some po:=⟨L[p],List.getElem?_eq_getElem (by omega)⟩;obtain⟨tmp,PK,Hx,c1,⟨c2,-⟩,-⟩:=hd.slot p po (by omega) hpo;rw[if_pos (Nat.le_refl _)]at c1;unfold je at c1;rw[if_pos (by simp)]at c1;have e:=c2 rfl;subst e;have om:jT po=true:=by
         rw[List.getD_eq_getElem?_getD,hpo]at hpe;exact hpe
        obtain⟨t,m,x,hop⟩:∃t m x,po.op=.mapEntry t m x:=by
         unfold jT at om;split at om
         ·rename_i t m x e;exact⟨t,m,x,e⟩
         ·cases om
        obtain⟨hh,ks,k,l,hT,-,-,-,g1,g2,-⟩:=PE (hgn hpo) hop c1;obtain⟨H2,s2'⟩:=acJ (ks:=ks) (hgn ho) hev g1 s1;rw[<-g2]at s2';have e2:=DR (hgn ho) xN s2';subst e2;refine go (by unfold hat;rw[if_neg oj,if_pos hpL]) ?_ s2';unfold hat;rw[if_neg DV,if_pos (hp'.2 hpL)]
       ·refine go (by unfold hat;rw[if_neg oj,if_neg hpL]) ?_ s1;unfold hat;rw[if_neg DV,if_neg (fun h=>hpL (hp'.1 h))]
      ·cases s1
     ·cases s1
theorem acL{cx:Cx K}{L:List Oper}{bs:List Nat}{p:Nat}{H0 H1:List (Ob K)}{i:Nat}{tm:List (AV K)}{wr:List Nat}{o:Oper}{v:AV K}{c:Bool}(hg:o.guard=none)(h:je cx L bs p H0 H1 i tm wr o=some (v,H',c)):v.dU=false:=by
 unfold je at h;split at h
 ·exact uE hg h
 ·split at h
  ·exact uE hg h
  ·split at h
   ·split at h
    ·exact uE hg h
    ·cases h
   ·split at h
    ·split at h
     ·exact uE hg h
     ·cases h
    ·cases h
theorem yD{cx:Cx K}{ops:List Oper}{tm:List (AV K)}{wr:List Nat}{o:Oper}{v:AV K}(hg:o.guard=none)(hop:B1 o=true)(h:cD false cx ops tm H wr o=some (v,H',true)):H'.length=H.length:=by
 have hgo:guardOf ops o=some none:=by unfold guardOf;rw[hg]
 unfold B1 at hop;split at hop
 ·rename_i t m x y he;unfold cD at h;rw[hgo]at h;dsimp only at h;rw[he]at h;split at h
  ·rename_i v1 H1 c1 t1 hy;split at h
   ·cases h
   ·simp only[Option.some.injEq,Prod.mk.injEq]at h;obtain⟨rfl,rfl,rfl⟩:=h;simp only[dV,iC,lD,cutV,lF,lB,eZ,jN,dO,Bool.false_eq_true,if_false]at hy;split at hy
    ·split at hy
     ·split at hy
      ·simp only[Option.some.injEq,Prod.mk.injEq]at hy;obtain⟨-,rfl,-,-⟩:=hy;simp
      ·cases hy
     ·cases hy
    ·cases hy
  ·cases h
 ·cases hop
theorem acM{cx:Cx K}{L:List Oper}(he:ec L 0=true){p:Nat}(hi:rL L (cM L []) p=true){Hp:List (Ob K)}{st st':St K}{wr':List Nat}(h:jU cx L (cM L []) p st.H L 0 st.H st []=some (Hp,st',wr'))(hok:st'.ok=true):
 ∃vals,xK cx L (cM L []) p st.H Hp st'.H st.tm vals L.length st'.tm wr'/\Hp.length=st.H.length/\st'.H.length=st.H.length:=by
 obtain⟨vals,hp⟩:=Pz (aW:=st.tm) L 0 st.H Hp st st' [] wr' (fun _=>.any) h hok (fun j=>by simp) (by simp)
  ⟨rfl,fun i j _ _ _ hi=>by omega,fun i _ _ hi=>by omega,fun i _ _ hi=>by omega,fun t _=>rfl,fun d=>by simp,fun i _ hi=>by omega,fun _=>rfl⟩
 simp only[rL,Bool.and_eq_true,decide_eq_true_eq,List.all_eq_true,List.mem_range]at hi;obtain⟨hpl,hpe,hqe,hgs,hall0⟩:=hi;have h1:Hp.length=st.H.length:=by
  obtain⟨po,hpo⟩:∃po,L[p]?=some po:=⟨L[p],List.getElem?_eq_getElem (by omega)⟩;obtain⟨tmp,PK,Hx,c1,⟨c2,-⟩,-⟩:=hp.slot p po (by omega) hpo;rw[if_pos (Nat.le_refl _)]at c1;unfold je at c1;rw[if_pos (by simp)]at c1;have e:=c2 rfl;subst e;rw[List.getD_eq_getElem?_getD,hpo]at hpe;obtain⟨t,m,x,hop⟩:∃t m x,po.op=.mapEntry t m x:=by
   have om:jT po=true:=hpe;unfold jT at om;split at om
   ·rename_i t m x e;exact⟨t,m,x,e⟩
   ·cases om
  obtain⟨hh,ks,k,l,hT,-,-,-,g1,g2,-⟩:=PE (by simpa using hgs po (List.mem_of_getElem? hpo)) hop c1;rw[g2];simp
 refine⟨vals,hp,h1,?_⟩;obtain⟨qo,hqo⟩:∃qo,L[L.length-1]?=some qo:=⟨L[L.length-1],List.getElem?_eq_getElem (by omega)⟩;obtain⟨tmp,PK,Hx,c1,⟨-,c2⟩,-⟩:=hp.slot (L.length-1) qo (by omega) hqo;have e:=c2 (by omega);rw[if_neg (by omega)]at c1;unfold je at c1;rw[if_neg (by simp;omega),if_pos (by simp;omega)]at c1;subst e;rw[List.getD_eq_getElem?_getD,hqo]at hqe;rw[yD (by simpa using hgs qo (List.mem_of_getElem? hqo)) hqe c1,h1]
end Go.V
namespace Go.V
open Go
theorem PL:∀(π:List Nat),fp π=true->∀(i j k:Nat),π[i]?=some k->π[j]?=some k->i=j
 |[],_,i,j,k,h,_=>by simp at h
 |x::r,hn,i,j,k,hi,hj=>by
  simp only[fp,Bool.and_eq_true,Bool.not_eq_true',List.contains_eq_mem,decide_eq_false_iff_not]at hn;cases i with
  |zero=>
   cases j with
   |zero=>rfl
   |succ j=>simp at hi hj;subst hi;exact absurd (List.mem_of_getElem? hj) hn.1
  |succ i=>
   cases j with
   |zero=>simp at hi hj;subst hj;exact absurd (List.mem_of_getElem? hi) hn.1
   |succ j=>rw[PL r hn.2 i j k (by simpa using hi) (by simpa using hj)]
structure kb (π:List Nat) (ops ops':Array Oper):Prop where
 len:π.length=ops.size
 len':ops'.size=ops.size
 xO:∀i,i<ops.size->∃j:Nat,π[j]?=some i
 inj:∀(i j k:Nat),π[i]?=some k->π[j]?=some k->i=j
 ops:∀(j i:Nat),π[j]?=some i->∃o,ops[i]?=some o/\ops'[j]?=some (nI π ops.size o)
theorem PM{π:List Nat}{ops:List Oper}(h:tY π ops.length=true):kb π ops.toArray (permuted π ops).toArray:=by
 simp only[tY,Bool.and_eq_true,decide_eq_true_eq,List.all_eq_true,List.mem_range,List.contains_eq_mem]at h;obtain⟨h1,h2,h3,h4⟩:=h;refine⟨by simpa using h1,by simp[permuted,h1],fun i hi=>?_,PL π h4,fun j i hj=>?_⟩
 ·have:=h3 i (by simpa using hi);obtain⟨j,hj,e⟩:=List.getElem_of_mem this;exact⟨j,by rw[List.getElem?_eq_getElem hj,e]⟩
 ·have hi:i<ops.length:=h2 i (List.mem_of_getElem? hj);refine⟨ops[i],by simp[hi],?_⟩;simp only[List.getElem?_toArray,permuted,List.getElem?_map,hj,Option.map_some,List.getElem?_eq_getElem hi,List.size_toArray]
section
variable {P :Program}{π:List Nat}{ops ops':Array Oper}{Q:Exit->Act->World->Prop}
theorem PN{π:List Nat}{i j:Nat}(h:π.idxOf? i=some j):π[j]?=some i:=by
 rw[List.idxOf?_eq_some_iff]at h;obtain⟨hlt,he,-⟩:=h;rw[List.getElem?_eq_getElem hlt];simpa using he
theorem PO{π:List Nat}{i:Nat}(h:π.idxOf? i=none):i∉π:=by
 rw[List.idxOf?_eq_none_iff]at h;exact h
structure Listed (π:List Nat) (n:Nat) (l l':Array Bool):Prop where
 sz:l.size=n
 sz':l'.size=n
 eq:∀(j i:Nat),π[j]?=some i->l'[j]?=l[i]?
theorem Listed.getD(hp:kb π ops ops'){l l':Array Bool}(h:Listed π ops.size l l')(i:Nat):l'.getD ((π.idxOf? i).getD ops.size) false=l.getD i false:=by
 cases hx:π.idxOf? i with
 |some j=>
  have:=h.eq j i (PN hx);simp only[Option.getD_some,Array.getD_eq_getD_getElem?,this]
 |none=>
  have hi:ops.size<=i:=by
   rcases Nat.lt_or_ge i ops.size with hlt|hge
   ·obtain⟨j,hj⟩:=hp.xO i hlt;exact absurd (List.mem_of_getElem? hj) (PO hx)
   ·exact hge
  simp only[Option.getD_none,Array.getD_eq_getD_getElem?];rw[Array.getElem?_eq_none (by rw[h.sz'];exact Nat.le_refl _),Array.getElem?_eq_none (by rw[h.sz];exact hi)]
theorem mem_ready{ops:Array Oper}{l:Array Bool}{i:Nat}:i∈Region.ready .any ops l↔i<ops.size/\l.getD i true=false/\∃o,ops[i]?=some o/\(o.after.all fun e=> !Region.binds .any e||l.getD e.on false)=true:=by
 unfold Region.ready;rw[List.mem_filter,List.mem_range];constructor
 ·rintro ⟨h1,h2⟩
  rw[Bool.and_eq_true,Bool.not_eq_true']at h2;refine⟨h1,h2.1,ops[i],by simp[h1],?_⟩;have:=h2.2;rw[Array.getElem?_eq_getElem h1]at this;simpa using this
 ·rintro ⟨h1,h2,o,h3,h4⟩
  refine⟨h1,?_⟩;rw[Bool.and_eq_true,Bool.not_eq_true'];refine⟨h2,?_⟩;rw[h3];simpa using h4
theorem PQ(hp:kb π ops ops'){l l':Array Bool}(h:Listed π ops.size l l')(o:Oper):
 ((nI π ops.size o).after.all fun e=> !Region.binds .any e||l'.getD e.on false)=(o.after.all fun e=> !Region.binds .any e||l.getD e.on false):=by
 have key:∀(L:List Edge),(((L.filter (Region.binds .any)).map fun e=>({e with on:=(π.idxOf? e.on).getD ops.size}:Edge)).all fun e=> !Region.binds .any e||l'.getD e.on false)=L.all fun e=> !Region.binds .any e||l.getD e.on false:=by
  intro L
  induction L with
  |nil=>rfl
  |cons e r ih=>
   rw[List.filter_cons,List.all_cons,<-ih];cases hb:Region.binds .any e with
   |false=>simp
   |true=>
    have hb':Region.binds .any {e with on:=(π.idxOf? e.on).getD ops.size}=true:=hb;simp only[if_true,List.map_cons,List.all_cons,hb',h.getD hp]
 have:=key o.after.toList;simp only[nI];rw[<-Array.all_toList,<-Array.all_toList,Array.toList_map,Array.toList_filter];exact this
theorem DW(hp:kb π ops ops'){l l':Array Bool}(h:Listed π ops.size l l'){i j:Nat}(hj:π[j]?=some i):j∈Region.ready .any ops' l'↔i∈Region.ready .any ops l:=by
 obtain⟨o,ho,ho'⟩:=hp.ops j i hj;have hi:i<ops.size:=(Array.getElem?_eq_some_iff.1 ho).1;have hj':j<ops'.size:=(Array.getElem?_eq_some_iff.1 ho').1;have hl:l'.getD j true=l.getD i true:=by simp only[Array.getD_eq_getD_getElem?,h.eq j i hj]
 rw[mem_ready,mem_ready,hl];constructor
 ·rintro ⟨-,h2,o1,h3,h4⟩
  rw[ho']at h3;simp only[Option.some.injEq]at h3;subst h3;rw[PQ hp h]at h4;exact⟨hi,h2,o,ho,h4⟩
 ·rintro ⟨-,h2,o1,h3,h4⟩
  rw[ho]at h3;simp only[Option.some.injEq]at h3;subst h3;exact⟨hj',h2,_,ho',by rw[PQ hp h];exact h4⟩
theorem acN(hp:kb π ops ops')(tm:Array Value)(i:Nat):yielded ops' tm ((π.idxOf? i).getD ops.size)=yielded ops tm i:=by
 unfold yielded;have:(ops'[(π.idxOf? i).getD ops.size]?).bind (·.dst)=(ops[i]?).bind (·.dst):=by
  cases hx:π.idxOf? i with
  |some j=>
   obtain⟨o,ho,ho'⟩:=hp.ops j i (PN hx);simp only[Option.getD_some];rw[ho,ho'];rfl
  |none=>
   have hi:ops.size<=i:=by
    rcases Nat.lt_or_ge i ops.size with hlt|hge
    ·obtain⟨j,hj⟩:=hp.xO i hlt;exact absurd (List.mem_of_getElem? hj) (PO hx)
    ·exact hge
   simp only[Option.getD_none];rw[Array.getElem?_eq_none (by rw[hp.len'];exact Nat.le_refl _),Array.getElem?_eq_none hi]
 rw[this]
theorem acO(hp:kb π ops ops')(tm:Array Value)(o:Oper):Region.wanted (nI π ops.size o) (yielded ops' tm)=Region.wanted o (yielded ops tm):=by
 unfold Region.wanted nI;cases hg:o.guard with
 |none=>rfl
 |some g=>simp only[Option.map_some,acN hp]
theorem acP(hp:kb π ops ops'){i j:Nat}(hj:π[j]?=some i){K:Act->World->Prop}{a:Act}{w:World}(h:wpOp P ops' Q j K a w):wpOp P ops Q i K a w:=by
 obtain⟨o,ho,ho'⟩:=hp.ops j i hj;unfold wpOp at h⊢;rw[ho']at h;rw[ho];dsimp only at h⊢;rw[acO hp]at h;exact h
theorem Listed.set(hp:kb π ops ops'){l l':Array Bool}(h:Listed π ops.size l l'){i j:Nat}(hj:π[j]?=some i):Listed π ops.size (l.setIfInBounds i true) (l'.setIfInBounds j true):=by
 refine⟨by simp[h.sz],by simp[h.sz'],fun j' i' hj'=>?_⟩;rw[Array.getElem?_setIfInBounds,Array.getElem?_setIfInBounds];have hb:j<l'.size↔i<l.size:=by
  have:=h.eq j i hj;constructor
  ·intro hlt;rcases Nat.lt_or_ge i l.size with h1|h1
   ·exact h1
   ·rw[Array.getElem?_eq_none h1,Array.getElem?_eq_getElem hlt]at this;cases this
  ·intro hlt;rcases Nat.lt_or_ge j l'.size with h1|h1
   ·exact h1
   ·rw[Array.getElem?_eq_none h1,Array.getElem?_eq_getElem hlt]at this;cases this
 by_cases e:j=j'
 ·subst e;rw[hj]at hj';simp only[Option.some.injEq]at hj';subst hj';simp only[if_true];by_cases h1:j<l'.size
  ·rw[if_pos h1,if_pos (hb.1 h1)]
  ·rw[if_neg h1,if_neg (fun h2=>h1 (hb.2 h2))]
 ·have e':i≠i':=fun e2=>by subst e2;exact e (hp.inj j j' i hj hj')
  rw[if_neg e,if_neg e'];exact h.eq j' i' hj'
theorem acQ(hp:kb π ops ops'):∀(fuel:Nat)(l l':Array Bool)(a:Act)(w:World),Listed π ops.size l l'->wpAny P .any ops' Q fuel l' a w->wpAny P .any ops Q fuel l a w:=by
 have nil:∀{l l':Array Bool},Listed π ops.size l l'->Region.ready .any ops l=[]->Region.ready .any ops' l'=[]:=fun{l l'} h he=>by
  apply List.eq_nil_iff_forall_not_mem.2;intro j hj;have hjn:j<π.length:=by rw[hp.len,<-hp.len'];exact(mem_ready.1 hj).1
  have:=(DW hp h (List.getElem?_eq_getElem hjn)).1 hj;rw[he]at this;cases this
 have nil':∀{l l':Array Bool},Listed π ops.size l l'->Region.ready .any ops' l'=[]->Region.ready .any ops l=[]:=fun{l l'} h he=>by
  apply List.eq_nil_iff_forall_not_mem.2;intro i hi;obtain⟨j,hj⟩:=hp.xO i (mem_ready.1 hi).1;have:=(DW hp h hj).2 hi;rw[he]at this;cases this
 intro fuel
 induction fuel with
 |zero=>
  intro l l' a w h hw;exact⟨nil' h hw.1,hw.2⟩
 |succ fuel ih=>
  intro l l' a w h hw;refine⟨fun he=>hw.1 (nil h he),fun i hi=>?_⟩;obtain⟨j,hj⟩:=hp.xO i (mem_ready.1 hi).1;refine acP hp hj (wpOp_mono (fun a w=>ih _ _ a w (h.set hp hj)) (hw.2 j ((DW hp h hj).2 hi)))
end
end Go.V
namespace Go.V
open Go
variable {K :bL}{ρ ρ':List Value}{S S':Nat->Prop}{w w':World}{H H':List (Ob K)}
def Tr(cx:Cx K)(n0:Nat)(c:Code)(st:St K)(e:Ex)(st':St K):Prop:=
 ∀(ρ:List Value)(S:Nat->Prop)(a:Act)(w:World),n0<=st.H.length->Sat cx ρ S a w st->
  c.wp cx.P (fun e' a' w'=>e'=e.eY/\n0<=st'.H.length/\∃ρ' S',Sat cx ρ' S' a' w' st'/\Step cx.D n0 ρ S st.H w ρ' S' st'.H w') a w
theorem Step.drew{D:aT K}{n0 n:Nat}{ρ ρ':List Value}{S S':Nat->Prop}{w w':World}{H H':List (Ob K)}(h:Step D n0 ρ S H {w with drawn:=n} ρ' S' H' w'):Step D n0 ρ S H w ρ' S' H' w':=
 have g:∀b,Own D {w with drawn:=n} ρ H b->Own D w ρ H b:=fun b h=>h.old fun _ _=>rfl
 ⟨h.os,h.tape,h.output,h.size,fun b hb hn=>h.old b hb fun hO=>hn (g b hO),fun b hb=>(h.own b hb).imp (g b) id,h.s1,fun b hb=>(h.s2 b hb).imp id (Or.imp (g b) id),h.pre⟩
theorem Sat.drawn{cx:Cx K}{a:Act}{st:St K}(h:Sat cx ρ S a w st)(n:Nat):Sat cx ρ S a {w with drawn:=n} st:=
 ⟨h.heap.world (Nat.le_refl _) (fun _ _=>rfl) (fun _ _=>rfl),cF.mono (w:=w) (w':={w with drawn:=n}) (fun _ h=>h) (fun _ _=>rfl) (fun _ _ h=>h) h.slots,h.defers⟩
theorem PR{cx:Cx K}{ops:List Oper}:∀(l:List Oper)(st st':St K)(wr wr':List Nat),fS cx ops l st wr=some (st',wr')->fu st.tm wr->fu st'.tm wr'
 |[],st,st',wr,wr',h,ho=>by simp only[fS,Option.some.injEq,Prod.mk.injEq]at h;obtain⟨rfl,rfl⟩:=h;exact ho
 |o::r,st,st',wr,wr',h,ho=>by
  simp only[fS]at h;split at h
  ·rename_i st1 di h1;refine PR r st1 st' di wr' h ?_;unfold nH at h1;split at h1
   ·rename_i v H1 c hsv;obtain⟨-,-,p3⟩:=iL h1;rcases p3 with⟨e1,e2,e3⟩|⟨d,e1,e2,e3,e4,e5⟩
    ·rw[e2,e3];exact ho
    ·rw[e4,e5];exact ho.put (od hsv)
   ·cases h1
  ·cases h
theorem acR{cx:Cx K}{op:Op}(h:dO cx op=true):fR cx op=true:=by
 unfold fR;split
 ·rfl
 ·simp only[dO]at h;simp[h]
 ·simp only[dO,Bool.and_eq_true]at h;simp[h.1]
 ·exact h
theorem DX{cx:Cx K}{ops:List Oper}{π:List Nat}{st st':St K}(h:tZ cx ops π st=some st'):tY π ops.length=true/\jf cx (permuted π ops) st=some st':=by
 unfold tZ at h;split at h
 ·rename_i hp;exact⟨hp,h⟩
 ·cases h
theorem PS{cx:Cx K}{ops:List Oper}{st st':St K}(h:B2 cx ops st=some st'):jf cx ops st=some st'\/∃π,tY π ops.length=true/\jf cx (permuted π ops) st=some st':=by
 unfold B2 at h;split at h
 ·split at h
  ·rename_i r hr;simp only[Option.some.injEq]at h;subst h;exact .inl hr
  ·exact .inr ⟨_,DX h⟩
 ·split at h
  ·rename_i r hr;simp only[Option.some.injEq]at h;subst h;exact .inr ⟨_,DX hr⟩
  ·exact .inr ⟨_,DX h⟩
theorem PT{cx:Cx K}(hD:aX cx.D)(hc:aE cx){n0:Nat}{ops:Array Oper}{st st':St K}(h:jf cx ops.toList st=some st'):
 (st'.ok=true->st.ok=true)/\(st'.ok=true->bK st.tm->bK st'.tm/\∀(ρ:List Value)(S:Nat->Prop)(a:Act)(w:World),n0<=st.H.length->Sat cx ρ S a w st->
   wpAny cx.P .any ops (fun e' a' w'=>e'=Ex.normal.eY/\n0<=st'.H.length/\∃ρ' S',Sat cx ρ' S' a' w' st'/\Step cx.D n0 ρ S st.H w ρ' S' st'.H w') ops.size (Array.replicate ops.size false) a {w with drawn:=w.drawn+1}):=by
 unfold jf at h;split at h
 ·rename_i hsm;simp only[Bool.and_eq_true]at hsm;split at h
  ·rename_i s1 wr hr;simp only[Option.some.injEq]at h;subst h;have hk:=Dq _ _ _ _ _ _ hr;refine⟨fun hok=>(hk hok).1,fun hok h0=>?_⟩;obtain⟨vals,hd,hwr⟩:=acg hr hok;have hH:=(hk hok).2;have Dv:∀(i:Nat) o,ops.toList[i]?=some o->fR cx o.op=true:=fun i o ho=>
    List.all_eq_true.1 hsm.1 o (List.mem_of_getElem? ho)
   have eD:fu s1.tm wr:=fun t g b v e=>by
    rcases ka ops.toList t with hn|⟨k,o,hk1,hk2⟩
    ·rw[hd.rest t hn]at e;exact absurd e (h0 t g b v)
    ·rw[hd.fin k o t hk1 hk2]at e;refine⟨(hwr t).2 ⟨k,o,hk1,hk2⟩,?_⟩;obtain⟨bp,bP,H1,q1,q2,q3,q4,q5⟩:=hd.slot k o hk1;simp only[Option.some.injEq]at e;rw[e]at q1;obtain⟨k',o',-,c2,c3⟩:=q5 g (od q1 g b v rfl);exact(hwr g).2 ⟨k',o',c2,c3⟩
   refine⟨bK.wipe eD,fun ρ S a w hn aV=>?_⟩;have fY:=aV.drawn (w.drawn+1);have hall:ops=ops.toList.toArray:=by simp
   have hmid:Mid cx ops.toList st.tm vals st.H ρ S (Array.replicate ops.size false) a {w with drawn:=w.drawn+1}:=by
    have hf:∀(k:Nat),(Array.replicate ops.size false)[k]?≠some true:=fun k e=>by
     rw[Array.getElem?_replicate]at e;split at e<;>simp at e
    refine⟨fY.heap,fY.defers,fY.slots.len.symm,by simp,fun t v x hn1 h1 h2=>?_,fun k o d x h1 h2=>absurd h2 (hf k),fun k g b y h1=>absurd h1 (hf k),fun k o h1 h2=>absurd h2 (hf k)⟩;have:=fY.slots.ok t v x h1 h2;cases v with
    |opt g b y=>exact absurd h1 (h0 t g b y)
    |_=>exact this
   rw[hH];have key:=ach hD hc Dv hsm.2 hd h0 (n0:=n0) hn (Q:=fun e' a' w'=>e'=Ex.normal.eY/\n0<=st.H.length/\∃ρ' S',Sat cx ρ' S' a' w' ⟨dW s1.tm wr,st.H,s1.ok⟩/\Step cx.D n0 ρ S st.H w ρ' S' st.H w') ops.size (Array.replicate ops.size false) ρ S a {w with drawn:=w.drawn+1} hmid (Dw _) fun ρ' S' a' w' g1 g2 g3 g4=>by
    exact⟨rfl,hn,ρ',S',⟨g1,g2.wipe _ _,g3⟩,g4.drew⟩
   rw[<-hall]at key;exact key
  ·cases h
 ·split at h
  ·rename_i uF;split at h
   ·rename_i s1 wr hr;simp only[Option.some.injEq]at h;subst h;refine⟨fun hok=>DF _ _ _ _ _ _ _ _ hr hok,fun hok h0=>?_⟩;obtain⟨F,ms,ws,hp⟩:=acy hr hok;have eD:fu s1.tm wr:=fun t g b v e=>by
     rcases ka ops.toList t with hn|⟨k,o,hk1,hk2⟩
     ·rw[hp.rest t fun k o _ h=>hn k o h]at e;exact absurd e (h0 t g b v)
     ·have fA:=(List.getElem?_eq_some_iff.1 hk1).1;rw[hp.fin k o t fA hk1 hk2]at e;refine⟨(hp.eN t).2 ⟨k,o,fA,hk1,hk2⟩,?_⟩;obtain⟨bp,bP,fs⟩:=hp.slot k o fA hk1;simp only[Option.some.injEq]at e;have q1:=fs.slot;rw[e]at q1;have hg:g∈bP:=by
       unfold rJ at q1;split at q1
       ·exact od q1 g b v rfl
       ·split at q1
        ·exact od q1 g b v rfl
        ·cases q1
      obtain⟨k',o',c1,c2,c3⟩:=fs.bP g hg;exact(hp.eN g).2 ⟨k',o',by omega,c2,c3⟩
    refine⟨bK.wipe eD,fun ρ S a w hn aV=>?_⟩;have fY:=aV.drawn (w.drawn+1);have hall:ops=ops.toList.toArray:=by simp
    have hmid:=fe.start hp fY.heap fY.defers fY.slots h0;have acS:=Step.pad (n:=s1.H.length) (n0:=n0) fY.heap hn;have key:=acE hD hc uF hp (n0:=n0) hn (Q:=fun e' a' w'=>e'=Ex.normal.eY/\n0<=s1.H.length/\∃ρ' S',Sat cx ρ' S' a' w' ⟨dW s1.tm wr,s1.H,s1.ok⟩/\Step cx.D n0 ρ S st.H w ρ' S' s1.H w') ops.size (Array.replicate ops.toList.length false) _ _ S a {w with drawn:=w.drawn+1} hmid (by have:=Dw ops.toList.length;simpa using this) fun ρ' S' a' w' g1 g2 g3 g4=>by
     have g5:=acS.trans g4;exact⟨rfl,Nat.le_trans hn hp.len0,ρ',S',⟨g1,g2.wipe _ _,g3⟩,g5.drew⟩
    rw[<-hall]at key;simpa using key
   ·split at h
    ·rename_i xP;split at h
     ·rename_i Hp s1 wr hr;simp only[Option.some.injEq]at h;subst h;refine⟨fun hok=>DN _ _ _ _ _ _ _ _ hr hok,fun hok h0=>?_⟩;obtain⟨vals,hp,DT,DU⟩:=acM uF xP hr hok;have eD:fu s1.tm wr:=fun t g b v e=>by
       rcases ka ops.toList t with hn|⟨k,o,hk1,hk2⟩
       ·rw[hp.rest t fun k o _ h=>hn k o h]at e;exact absurd e (h0 t g b v)
       ·have fA:=(List.getElem?_eq_some_iff.1 hk1).1;rw[hp.fin k o t fA hk1 hk2]at e;obtain⟨bp,bP,H',c1,-⟩:=hp.slot k o fA hk1;simp only[Option.some.injEq]at e;rw[e]at c1;have hgk:o.guard=none:=by
         simp only[rL,Bool.and_eq_true,List.all_eq_true]at xP;simpa using xP.2.2.2.1 o (List.mem_of_getElem? hk1)
        have hno:=acL hgk c1;cases hno
      refine⟨bK.wipe eD,fun ρ S a w hn aV=>?_⟩;have fY:=aV.drawn (w.drawn+1);have hall:ops=ops.toList.toArray:=by simp
      have hf:∀(k:Nat),(Array.replicate ops.size false)[k]?≠some true:=fun k e=>by
       rw[Array.getElem?_replicate]at e;split at e<;>simp at e
      have hh0:hat ops.toList (ops.toList.findIdx jT) st.H Hp s1.H (Array.replicate ops.size false)=st.H:=by
       unfold hat;rw[if_neg (hf _),if_neg (hf _)]
      have hmid:Mid cx ops.toList st.tm vals (hat ops.toList (ops.toList.findIdx jT) st.H Hp s1.H (Array.replicate ops.size false)) ρ S (Array.replicate ops.size false) a {w with drawn:=w.drawn+1}:=by
       rw[hh0];refine⟨fY.heap,fY.defers,fY.slots.len.symm,by simp,fun t v x hn1 h1 h2=>?_,fun k o d x h1 h2=>absurd h2 (hf k),fun k g b y h1=>absurd h1 (hf k),fun k o h1 h2=>absurd h2 (hf k)⟩;have:=fY.slots.ok t v x h1 h2;cases v with
       |opt g b y=>exact absurd h1 (h0 t g b y)
       |_=>exact this
      have key:=inc_any hD hc uF xP hp DT DU h0 (n0:=n0) hn (Q:=fun e' a' w'=>e'=Ex.normal.eY/\n0<=s1.H.length/\∃ρ' S',Sat cx ρ' S' a' w' ⟨dW s1.tm wr,s1.H,s1.ok⟩/\Step cx.D n0 ρ S st.H w ρ' S' s1.H w') ops.size (Array.replicate ops.size false) ρ S a {w with drawn:=w.drawn+1} hmid (Dw _) fun ρ' S' a' w' g1 g2 g3 g4=>by
       rw[hh0]at g4;exact⟨rfl,by omega,ρ',S',⟨g1,g2.wipe _ _,g3⟩,g4.drew⟩
      rw[<-hall]at key;exact key
     ·cases h
    ·cases h
  ·cases h
theorem so{cx:Cx K}(hD:aX cx.D)(hc:aE cx)(hm:cx.P.follows .mixedOrders=true){n0:Nat}{id:Nat}{ops:Array Oper}{draw:Bool}{st st':St K}(h:dY cx ops.toList draw st=some st'):
 (st'.ok=true->st.ok=true)/\(st'.ok=true->bK st.tm->bK st'.tm/\Tr cx n0 (.region id ops draw) st .normal st'):=by
 unfold dY at h;split at h
 ·rename_i hdr;subst hdr;rcases PS h with h|⟨π,hp,h⟩
  ·obtain⟨h1,h2⟩:=PT (n0:=n0) hD hc h;refine⟨h1,fun hok h0=>⟨(h2 hok h0).1,fun ρ S a w hn aV=>wp_region_any hm ((h2 hok h0).2 ρ S a w hn aV)⟩⟩
  ·have hp':=PM hp;have e:ops.toList.toArray=ops:=by simp
   rw[e]at hp';have h':jf cx ((permuted π ops.toList).toArray).toList st=some st':=h;obtain⟨h1,h2⟩:=PT (n0:=n0) hD hc h';refine⟨h1,fun hok h0=>⟨(h2 hok h0).1,fun ρ S a w hn aV=>wp_region_any hm ?_⟩⟩;have:=(h2 hok h0).2 ρ S a w hn aV;rw[hp'.len']at this;exact acQ hp' _ _ _ _ _ ⟨by simp,by simp,fun j i hj=>by
    obtain⟨o,ho,ho'⟩:=hp'.ops j i hj;have hi:=(Array.getElem?_eq_some_iff.1 ho).1;have hj':=(Array.getElem?_eq_some_iff.1 ho').1;rw[hp'.len']at hj';rw[Array.getElem?_replicate,Array.getElem?_replicate,if_pos hi,if_pos hj']⟩ this
 ·rename_i hdr;split at h
  ·rename_i s1 wr hr;simp only[Option.some.injEq]at h;subst h;refine⟨fun hok=>Dl _ _ _ _ _ hr hok,fun hok h0=>?_⟩;refine⟨bK.wipe (PR _ _ _ _ _ hr h0.in),fun ρ S a w hn aV=>?_⟩;have hdr':draw=false:=by simpa using hdr
   subst hdr';refine wp_region_list ?_;have key:=OS (n0:=n0) hD hc ops.toList st s1 [] wr ρ S a w hr hok aV h0.in hn (Q:=fun e' a' w'=>e'=Ex.normal.eY/\n0<=s1.H.length/\∃ρ' S',Sat cx ρ' S' a' w' ⟨dW s1.tm wr,s1.H,s1.ok⟩/\Step cx.D n0 ρ S st.H w ρ' S' s1.H w') fun ρ' S' a' w' g1 g2 g3=>
    ⟨rfl,g3.grow aV.heap g1.heap hn,ρ',S',⟨g1.heap,g1.slots.wipe _ _,g1.defers⟩,g3⟩
   exact key
  ·cases h
theorem DY:∀(wr:List Nat)(tm:List (AV K))(t:Nat),t∉wr->(dW tm wr)[t]?=tm[t]?
 |[],tm,t,h=>rfl
 |d::r,tm,t,h=>by
  simp only[List.mem_cons,not_or]at h;simp only[dW];split
  ·rw[DY r _ t h.2,List.getElem?_set_ne (Ne.symm h.1)]
  ·exact DY r tm t h.2
theorem DZ:∀(wr:List Nat)(tm:List (AV K)),(dW tm wr).length=tm.length
 |[],tm=>rfl
 |d::r,tm=>by
  simp only[dW];split
  ·rw[DZ r];simp
  ·exact DZ r tm
theorem acT{q:Bool}{cx:Cx K}{ops:List Oper}{tm:List (AV K)}{wr:List Nat}{o:Oper}{v:AV K}{c:Bool}(hs:dO cx o.op=true)(h:cD q cx ops tm H wr o=some (v,H',c)):H'=H:=by
 unfold cD at h;split at h
 ·cases h
 ·split at h
  ·rename_i hy;split at h
   ·cases h
   ·simp only[Option.some.injEq,Prod.mk.injEq]at h;obtain⟨-,rfl,-⟩:=h;exact OR hs hy
  ·cases h
 ·split at h
  ·split at h
   ·split at h
    ·split at h
     ·rename_i hy;split at h
      ·cases h
      ·simp only[Option.some.injEq,Prod.mk.injEq]at h;obtain⟨-,rfl,-⟩:=h;exact OR hs hy
     ·cases h
    ·simp only[Option.some.injEq,Prod.mk.injEq]at h;exact h.2.1.symm
   ·cases h
  split at h
  ·cases h
  ·split at h
   ·split at h
    ·simp only[Option.some.injEq,Prod.mk.injEq]at h;exact h.2.1.symm
    ·cases h
   ·cases h
structure Quiet (st st':St K) (wr:List Nat):Prop where
 H:st'.H=st.H
 len:st'.tm.length=st.tm.length
 rest:∀t,t∉wr->st'.tm[t]?=st.tm[t]?
theorem PU{st st':St K}{wr wr' ds:List Nat}{dst:Option Nat}{v:AV K}{ok:Bool}(h:lE st wr dst v st.H ok=some (st',wr'))(hd:∀d,dst=some d->d∈ds)(hw:∀d∈wr,d∈ds):Quiet st st' ds/\∀d∈wr',d∈ds:=by
 obtain⟨p1,p2,p3⟩:=iL h;rcases p3 with⟨e1,e2,e3⟩|⟨d,e1,e2,e3,e4,e5⟩
 ·exact⟨⟨p1,by rw[e2],fun t _=>by rw[e2]⟩,by rw[e3];exact hw⟩
 ·refine⟨⟨p1,by rw[e4];simp,fun t ht=>?_⟩,fun d' hd'=>?_⟩
  ·rw[e4,List.getElem?_set_ne fun e=>ht (by rw[<-e];exact hd d e1)]
  ·rw[e5]at hd';rcases List.mem_cons.1 hd' with rfl|h'
   ·exact hd _ e1
   ·exact hw _ h'
theorem Quiet.trans{st st1 st2:St K}{wr:List Nat}(a:Quiet st st1 wr)(b:Quiet st1 st2 wr):Quiet st st2 wr:=
 ⟨b.H.trans a.H,b.len.trans a.len,fun t ht=>(b.rest t ht).trans (a.rest t ht)⟩
theorem Quiet.more{st st1:St K}{wr wr':List Nat}(a:Quiet st st1 wr)(h:∀d∈wr,d∈wr'):Quiet st st1 wr':=⟨a.H,a.len,fun t ht=>a.rest t fun h'=>ht (h t h')⟩
theorem PV{cx:Cx K}{ops:List Oper}{ds:List Nat}:∀(l:List Oper)(st st':St K)(wr wr':List Nat),fS cx ops l st wr=some (st',wr')->(∀o∈l,dO cx o.op=true)->(∀o∈l,∀d,o.dst=some d->d∈ds)->(∀d∈wr,d∈ds)->Quiet st st' ds/\∀d∈wr',d∈ds
 |[],st,st',wr,wr',h,_,_,hw=>by simp only[fS,Option.some.injEq,Prod.mk.injEq]at h;obtain⟨rfl,rfl⟩:=h;exact⟨⟨rfl,rfl,fun _ _=>rfl⟩,hw⟩
 |o::r,st,st',wr,wr',h,hs,hd,hw=>by
  simp only[fS]at h;split at h
  ·rename_i st1 di h1;unfold nH at h1;split at h1
   ·rename_i v H1 c hsv;have hH:=acT (hs o (by simp)) hsv;subst hH;obtain⟨q1,q2⟩:=PU h1 (fun d e=>hd o (by simp) d e) hw;obtain⟨q3,q4⟩:=PV r st1 st' di wr' h (fun o ho=>hs o (by simp[ho])) (fun o ho=>hd o (by simp[ho])) q2;exact⟨q1.trans q3,q4⟩
   ·cases h1
  ·cases h
theorem PW{cx:Cx K}{L:List Oper}{bs ds:List Nat}:∀(l:List Oper)(i:Nat)(st st':St K)(wr wr':List Nat),ia cx L bs l i st wr=some (st',wr')->(∀o∈l,∀d,o.dst=some d->d∈ds)->(∀d∈wr,d∈ds)->Quiet st st' ds/\∀d∈wr',d∈ds
 |[],i,st,st',wr,wr',h,_,hw=>by simp only[ia,Option.some.injEq,Prod.mk.injEq]at h;obtain⟨rfl,rfl⟩:=h;exact⟨⟨rfl,rfl,fun _ _=>rfl⟩,hw⟩
 |o::r,i,st,st',wr,wr',h,hd,hw=>by
  simp only[ia]at h;split at h
  ·split at h
   ·rename_i st1 di h1;obtain⟨q1,q2⟩:=PU h1 (fun d e=>hd o (by simp) d e) hw;obtain⟨q3,q4⟩:=PW r _ st1 st' di wr' h (fun o ho=>hd o (by simp[ho])) q2;exact⟨q1.trans q3,q4⟩
   ·cases h
  ·cases h
theorem Quiet.wipe{st st1:St K}{wr ds:List Nat}(a:Quiet st st1 ds)(h:∀d∈wr,d∈ds):Quiet st ⟨dW st1.tm wr,st1.H,st1.ok⟩ ds:=
 ⟨a.H,by simp[DZ,a.len],fun t ht=>by dsimp only;rw[DY wr _ t fun h'=>ht (h t h')];exact a.rest t ht⟩
theorem xQ{cx:Cx K}{ops:List Oper}{draw:Bool}{st:St K}{b:Bool}{s1 s2:St K}:∀(l:List Nat),t0 cx ops draw st l=some (b,s1,s2)->
 ∃t,dY {cx with gs:=[(t,true)]} ops draw st=some s1/\dY {cx with gs:=[(t,false)]} ops draw st=some s2
 |[],h=>by cases h
 |t::r,h=>by
  unfold t0 at h;split at h
  ·rename_i a1 a2 h1 h2;split at h
   ·simp only[Option.some.injEq,Prod.mk.injEq]at h;obtain⟨-,rfl,rfl⟩:=h;exact⟨t,h1,h2⟩
   ·exact xQ r h
  ·exact xQ r h
theorem Sat.gs{cx:Cx K}{g:List (Nat×Bool)}{a:Act}{st:St K}(h:Sat cx ρ S a w st):Sat {cx with gs:=g} ρ S a w st:=⟨h.heap,h.slots,h.defers⟩
theorem Sat.acU{cx:Cx K}{g:List (Nat×Bool)}{a:Act}{st:St K}(h:Sat {cx with gs:=g} ρ S a w st):Sat cx ρ S a w st:=⟨h.heap,h.slots,h.defers⟩
theorem Tr.gs{cx:Cx K}{g:List (Nat×Bool)}{n0:Nat}{c:Code}{st st':St K}{e:Ex}(h:Tr {cx with gs:=g} n0 c st e st'):Tr cx n0 c st e st':=fun ρ S a w hn hs=>
 wp_mono (h ρ S a w hn hs.gs) fun e' a' w' ⟨h1,h2,ρ',S',h3,h4⟩=>⟨h1,h2,ρ',S',h3.acU,h4⟩
def dI.All(Q:St K->Prop):dI K->Prop
 |.no=>True
 |.leaf s=>Q s
 |.node _ x y=>x.All Q/\y.All Q
 |.two x y=>Q x/\Q y
theorem dI.D1{cx:Cx K}{Q:St K->Prop}(hor:∀{R:Type}(a b:Option R)(r:R),cx.ry a b=some r->a=some r\/b=some r):∀(T:dI K),T.All Q->∀{R:Type}{k:St K->Option R}{r:R},T.go cx k=some r->∃s,Q s/\k s=some r
 |.no,_,R,k,r,h=>by cases h
 |.leaf s,hq,R,k,r,h=>⟨s,hq,h⟩
 |.node b x y,hq,R,k,r,h=>by
   cases b with
   |true=>exact dI.D1 hor x hq.1 h
   |false=>exact dI.D1 hor y hq.2 h
 |.two x y,hq,R,k,r,h=>by
   rcases hor _ _ _ h with h|h
   ·exact⟨x,hq.1,h⟩
   ·exact⟨y,hq.2,h⟩
theorem D2{cx:Cx K}{ops:List Oper}{draw:Bool}{st:St K}{Q:St K->Prop}(h0:∀gs s,dY {cx with gs:=gs} ops draw st=some s->Q s)
 (h1:∀x gs s,dY {cx with call:=cx.alt x,mode:=cx.jM x,gs:=gs} ops draw st=some s->Q s):∀(n:Nat)(gs:List (Nat×Bool))(T:dI K),ua cx ops draw st n gs=some T->T.All Q
 |0,gs,T,h=>by cases h
 |n+1,gs,T,h=>by
  unfold ua at h;split at h
  ·rename_i s hs;cases h;exact h0 gs s hs
  ·split at h
   ·rename_i s1 s2 e1 e2;cases h;exact⟨h1 true gs s1 e1,h1 false gs s2 e2⟩
   ·split at h
    ·split at h
     ·rename_i x y ex ey;cases h;exact⟨D2 h0 h1 n _ x ex,D2 h0 h1 n _ y ey⟩
     ·cases h
    ·split at h
     ·cases h;trivial
     ·cases h
theorem dI.xR{Q:St K->Prop}:∀(T:dI K),T.All Q->∀{R:Type}{k:St K->Option R}{r:R},T.wV k=some r->∃s,Q s/\k s=some r
 |.no,_,R,k,r,h=>by cases h
 |.leaf s,hq,R,k,r,h=>⟨s,hq,h⟩
 |.node b x y,hq,R,k,r,h=>by
   cases b with
   |true=>exact dI.xR x hq.1 h
   |false=>exact dI.xR y hq.2 h
 |.two x y,hq,R,k,r,h=>by cases h
theorem xU{cx:Cx K}{ops:List Oper}{draw:Bool}{st:St K}{Q:St K->Prop}(h0:∀gs s,dY {cx with gs:=gs} ops draw st=some s->Q s):
 ∀(n:Nat)(gs:List (Nat×Bool))(T:dI K),ub cx ops draw st n gs=some T->T.All Q
 |0,gs,T,h=>by cases h
 |n+1,gs,T,h=>by
  unfold ub at h;split at h
  ·rename_i s hs;cases h;exact h0 gs s hs
  ·split at h
   ·split at h
    ·rename_i x y ex ey;cases h;exact⟨xU h0 n _ x ex,xU h0 n _ y ey⟩
    ·cases h
   ·split at h
    ·cases h;trivial
    ·cases h
theorem Sat.call{cx:Cx K}{g:FuncId->List (AV K)->List (Ob K)->Option (AV K×List (Ob K)×Bool)}{m:FuncId->Mode}{a:Act}{st:St K}(h:Sat cx ρ S a w st):Sat {cx with call:=g,mode:=m} ρ S a w st:=⟨h.heap,h.slots,h.defers⟩
theorem Sat.acV{cx:Cx K}{g:FuncId->List (AV K)->List (Ob K)->Option (AV K×List (Ob K)×Bool)}{m:FuncId->Mode}{a:Act}{st:St K}(h:Sat {cx with call:=g,mode:=m} ρ S a w st):Sat cx ρ S a w st:=⟨h.heap,h.slots,h.defers⟩
theorem Tr.call{cx:Cx K}{g:FuncId->List (AV K)->List (Ob K)->Option (AV K×List (Ob K)×Bool)}{m:FuncId->Mode}{n0:Nat}{c:Code}{st st':St K}{e:Ex}(h:Tr {cx with call:=g,mode:=m} n0 c st e st'):Tr cx n0 c st e st':=fun ρ S a w hn hs=>
 wp_mono (h ρ S a w hn hs.call) fun e' a' w' ⟨h1,h2,ρ',S',h3,h4⟩=>⟨h1,h2,ρ',S',h3.acV,h4⟩
theorem D3{cx:Cx K}{g:List (Nat×Bool)}:∀(o:Op),dO {cx with gs:=g} o=dO cx o:=fun o=>by
 unfold dO;rfl
theorem xW{cx:Cx K}{id:Nat}{ops:Array Oper}{draw:Bool}{st st':St K}(hs:∀o∈ops.toList,dO cx o.op=true)(hr:dY cx ops.toList draw st=some st'):Quiet st st' (writes (.region id ops draw)):=by
 have hd:∀o∈ops.toList,∀d,o.dst=some d->d∈writes (.region id ops draw):=fun o ho d hd=>by
  simp only[writes,List.mem_filterMap];exact⟨o,ho,hd⟩
 have dq:∀(L:List Oper),(∀o∈L,dO cx o.op=true)->(∀o∈L,∀d,o.dst=some d->d∈writes (.region id ops draw))->jf cx L st=some st'->Quiet st st' (writes (.region id ops draw)):=fun L hs hd hr=>by
  unfold jf at hr;split at hr
  ·split at hr
   ·rename_i s1 wr h1;simp only[Option.some.injEq]at hr;subst hr;obtain⟨q1,q2⟩:=PW _ _ _ _ _ _ h1 hd (by simp);exact q1.wipe q2
   ·cases hr
  ·rename_i hnq;split at hr
   ·rename_i uF;exact absurd (by rw[Bool.and_eq_true];exact⟨List.all_eq_true.2 fun o ho=>acR (hs o ho),uF⟩) hnq
   ·cases hr
 unfold dY at hr;split at hr
 ·rcases PS hr with hr|⟨π,hp,hr⟩
  ·exact dq _ hs hd hr
  ·have hp':=PM hp;have src:∀o∈permuted π ops.toList,∃o1∈ops.toList,o=nI π ops.toList.length o1:=fun o ho=>by
    obtain⟨j,hj,e⟩:=List.getElem_of_mem ho;have hjn:j<π.length:=by simpa [permuted]using hj
    obtain⟨o1,h1,h2⟩:=hp'.ops j _ (List.getElem?_eq_getElem hjn);have h3:(permuted π ops.toList)[j]?=some o:=by rw[List.getElem?_eq_getElem hj,e]
    have h4:=h3.symm.trans (by simpa using h2);exact⟨o1,List.mem_of_getElem? (by simpa using h1),by simpa using Option.some.inj h4⟩
   refine dq _ (fun o ho=>?_) (fun o ho d hod=>?_) hr
   ·obtain⟨o1,h1,rfl⟩:=src o ho;exact hs o1 h1
   ·obtain⟨o1,h1,rfl⟩:=src o ho;exact hd o1 h1 d hod
 ·split at hr
  ·rename_i s1 wr h1;simp only[Option.some.injEq]at hr;subst hr;obtain⟨q1,q2⟩:=PV _ _ _ _ _ h1 hs hd (by simp);exact q1.wipe q2
  ·cases hr
theorem sr{cx:Cx K}:∀(c:Code),simple cx c=true->∀{R:Type}(st:St K)(k:Ex->St K->Option R)(r:R),cZ cx c st k=some r->∃st',k .normal st'=some r/\Quiet st st' (writes c)
 |.skip,_,R,st,k,r,h=>⟨st,h,rfl,rfl,fun _ _=>rfl⟩
 |.region id ops draw,hs,R,st,k,r,h=>by
   simp only[cZ]at h;have hs':∀o∈ops.toList,dO cx o.op=true:=by simpa only[simple,List.all_eq_true]using hs
   split at h
   ·rename_i st' hr;exact⟨st',h,xW hs' hr⟩
   ·split at h
    ·rename_i b s1 s2 hsp;obtain⟨t,h1,h2⟩:=xQ _ hsp;cases b with
     |true=>exact⟨s1,h,xW (cx:={cx with gs:=[(t,true)]}) (fun o ho=>by rw[D3];exact hs' o ho) h1⟩
     |false=>exact⟨s2,h,xW (cx:={cx with gs:=[(t,false)]}) (fun o ho=>by rw[D3];exact hs' o ho) h2⟩
    ·rw[if_pos (List.all_eq_true.2 hs')]at h;split at h
     ·rename_i T hT;obtain⟨s,hq,hk⟩:=dI.xR _ (xU (Q:=fun s'=>Quiet st s' (writes (.region id ops draw))) (fun gs s' hr=>xW (cx:={cx with gs:=gs}) (fun o ho=>by rw[D3];exact hs' o ho) hr) 4 [] T hT) h;exact⟨s,hk,hq⟩
     ·cases h
 |.seq a b,hs,R,st,k,r,h=>by
   simp only[simple,Bool.and_eq_true]at hs;simp only[cZ]at h;obtain⟨s1,h1,q1⟩:=sr a hs.1 st _ r h;obtain⟨s2,h2,q2⟩:=sr b hs.2 s1 k r h1;exact⟨s2,h2,(q1.more fun d hd=>by simp[writes,hd]).trans (q2.more fun d hd=>by simp[writes,hd])⟩
 |.cond c a b,hs,R,st,k,r,h=>by
   have hs':=hs;simp only[simple,Bool.and_eq_true]at hs;simp only[cZ]at h;split at h
   ·rename_i t ht;rw[if_pos (by simp[hs.1,hs.2])]at h;split at h
    ·rename_i sa sb ha hb;refine⟨_,h,?_⟩;obtain⟨s1,g1,q1⟩:=sr a hs.1 st _ sa ha;obtain⟨s2,g2,q2⟩:=sr b hs.2 st _ sb hb;simp only[rM,Option.some.injEq]at g1 g2;subst g1;subst g2;have hlen:∀(wr:List Nat)(l s t':List (AV K))(n:Nat),s.length=l.length->t'.length=l.length->(ez t wr n l s t').length=l.length:=fun wr l=>by
      induction l with
      |nil=>intro s t' n h1 h2;simp at h1 h2;subst h1;subst h2;rfl
      |cons x l ih=>
       intro s t' n h1 h2;cases s with
       |nil=>simp at h1
       |cons y s=>
        cases t' with
        |nil=>simp at h2
        |cons z t'=>
         simp only[ez,List.length_cons];rw[ih s t' (n+1) (by simpa using h1) (by simpa using h2)]
     have hget:∀(wr:List Nat)(l s t':List (AV K))(n i:Nat),s.length=l.length->t'.length=l.length->n+i∉wr->(ez t wr n l s t')[i]?=l[i]?:=fun wr l=>by
      induction l with
      |nil=>intro s t' n i h1 h2 _;simp at h1 h2;subst h1;subst h2;rfl
      |cons x l ih=>
       intro s t' n i h1 h2 hni;cases s with
       |nil=>simp at h1
       |cons y s=>
        cases t' with
        |nil=>simp at h2
        |cons z t'=>
         simp only[ez];cases i with
         |zero=>simp only[Nat.add_zero]at hni;simp[hni]
         |succ i=>
          simp only[List.getElem?_cons_succ];exact ih s t' (n+1) i (by simpa using h1) (by simpa using h2) (by rw[Nat.add_assoc,Nat.add_comm 1 i];exact hni)
     refine⟨rfl,hlen _ _ _ _ _ q1.len q2.len,fun i hi=>?_⟩;exact hget _ _ _ _ 0 i q1.len q2.len (by rw[Nat.zero_add];simpa [writes]using hi)
    ·cases h
   ·cases h
 |.block ..,hs,R,st,k,r,h=>by simp[simple]at hs
 |.loop ..,hs,R,st,k,r,h=>by simp[simple]at hs
 |.exit ..,hs,R,st,k,r,h=>by simp[simple]at hs
 |.ret,hs,R,st,k,r,h=>by simp[simple]at hs
 |.scope ..,hs,R,st,k,r,h=>by simp[simple]at hs
 |.rangeFunc ..,hs,R,st,k,r,h=>by simp[simple]at hs
 |.goto ..,hs,R,st,k,r,h=>by simp[simple]at hs
 |.label ..,hs,R,st,k,r,h=>by simp[simple]at hs
end Go.V
namespace Go.V
open Go
variable {K :bL}{ρ ρ':List Value}{S S':Nat->Prop}{w w':World}{H H':List (Ob K)}
def bm(cx:Cx K)(c:Code)(L:bk K):Prop:=
 ∀(vals:List (AV K))(Hi:List (Ob K))(R:Type)(k:Ex->List (AV K)->List (Ob K)->Option R)(r:R),L.run vals Hi k=some r->
  ∃e vs Ho,k e vs Ho=some r/\Tr cx Hi.length (.loop c) ⟨cy (List.replicate L.n .any) L.ins vals,Hi,true⟩ e ⟨cy (List.replicate L.n .any) L.outs vs,Ho,true⟩
def eE(cx:Cx K):Code->Prop
 |.loop c=>∀L,cx.loop (keyOf c)=some L->bm cx c L
 |.seq a b=>eE cx a/\eE cx b
 |.cond _ a b=>eE cx a/\eE cx b
 |.block _ c=>eE cx c
 |_=>True
theorem acW:∀(b:Bool)(x y:AV K),(merge b x y).dU=false:=by
 intro b x y;cases x<;>cases y<;>simp only[merge]<;>(try split)<;>rfl
theorem D4{t:Bool}{wr:List Nat}:∀(l s s':List (AV K))(n i:Nat)(v:AV K),(ez t wr n l s s')[i]?=some v->
 (n+i∉wr/\l[i]?=some v)\/∃x y,s[i]?=some x/\s'[i]?=some y/\v=merge t x y
 |[],s,s',n,i,v,h=>by simp[ez]at h
 |x::l,[],s',n,i,v,h=>by simp[ez]at h
 |x::l,y::s,[],n,i,v,h=>by simp[ez]at h
 |x::l,y::s,z::s',n,0,v,h=>by
  simp only[ez,List.getElem?_cons_zero,Option.some.injEq]at h;subst h;by_cases hc:n∈wr
  ·exact .inr ⟨y,z,rfl,rfl,by simp[hc]⟩
  ·exact .inl ⟨hc,by simp[hc]⟩
 |x::l,y::s,z::s',n,i+1,v,h=>by
  simp only[ez,List.getElem?_cons_succ]at h;rcases D4 l s s' (n+1) i v h with⟨h1,h2⟩|⟨a,b,h1,h2,h3⟩
  ·exact .inl ⟨by rw[Nat.add_comm i 1,<-Nat.add_assoc];exact h1,by simpa using h2⟩
  ·exact .inr ⟨a,b,by simpa using h1,by simpa using h2,h3⟩
theorem PX{t:Bool}{wr:List Nat}:∀(l s s':List (AV K))(n:Nat),s.length=l.length->s'.length=l.length->(ez t wr n l s s').length=l.length
 |[],s,s',n,h1,h2=>by cases s<;>cases s'<;>simp[ez]
 |x::l,[],s',n,h1,h2=>by simp at h1
 |x::l,y::s,[],n,h1,h2=>by simp at h2
 |x::l,y::s,z::s',n,h1,h2=>by
  simp only[ez,List.length_cons];rw[PX l s s' (n+1) (by simpa using h1) (by simpa using h2)]
theorem cF.rep{D:aT K}{tm:List (AV K)}{tmps:Array Value}(h:cF D ρ S w tm tmps)(h0:bK tm){t:Nat}{v:AV K}{x:Value}(hv:tm[t]?=some v)(hx:tmps[t]?=some x):Rep D ρ S w v x:=by
 have:=h.ok t v x hv hx;cases v with
 |opt g b y=>exact absurd hv (h0 t g b y)
 |_=>exact this
theorem acX{D:aT K}{t:Bool}{wr:List Nat}{l sa sb:List (AV K)}{tmps:Array Value}(hab:bK (cond t sa sb))(la:sa.length=l.length)(lb:sb.length=l.length)(ra:∀t,t∉wr->sa[t]?=l[t]?)(rb:∀t,t∉wr->sb[t]?=l[t]?)
 (h:cF D ρ S w (cond t sa sb) tmps):cF D ρ S w (ez t wr 0 l sa sb) tmps:=by
 refine⟨by rw[PX _ _ _ _ la lb,<-h.len];cases t<;>simp[la,lb],fun i v x hv hx=>?_⟩;rcases D4 l sa sb 0 i v hv with⟨h1,h2⟩|⟨a,b,h1,h2,rfl⟩
 ·rw[Nat.zero_add]at h1;refine .dQ ?_;cases t
  ·exact h.rep hab (by rw[cond_false,rb i h1];exact h2) hx
  ·exact h.rep hab (by rw[cond_true,ra i h1];exact h2) hx
 ·refine .dQ (Oy (fun e=>?_) fun e=>?_)
  ·subst e;exact h.rep hab h1 hx
  ·subst e;exact h.rep hab h2 hx
theorem acY{t:Bool}{wr:List Nat}{l sa sb:List (AV K)}(h0:bK l):bK (ez t wr 0 l sa sb):=fun i g b v e=>by
 rcases D4 l sa sb 0 i _ e with⟨-,h2⟩|⟨x,y,-,-,h3⟩
 ·exact h0 i g b v h2
 ·have:=acW t x y;rw[<-h3]at this;simp[AV.dU]at this
theorem oo:∀(ds:List Nat)(vs tm:List (AV K)),(cy tm ds vs).length=tm.length
 |[],vs,tm=>by simp[cy]
 |d::r,[],tm=>by simp[cy]
 |d::r,v::vs,tm=>by simp only[cy];rw[oo r vs];simp
theorem su:∀(ds:List Nat)(vs tm:List (AV K))(t:Nat)(v:AV K),(cy tm ds vs)[t]?=some v->tm[t]?=some v\/∃i:Nat,ds[i]?=some t/\vs[i]?=some v
 |[],vs,tm,t,v,h=>.inl (by simpa [cy]using h)
 |d::r,[],tm,t,v,h=>.inl (by simpa [cy]using h)
 |d::r,x::vs,tm,t,v,h=>by
  simp only[cy]at h;rcases su r vs _ t v h with h1|⟨i,h1,h2⟩
  ·rcases cI h1 with⟨rfl,rfl,-⟩|⟨-,h1⟩
   ·exact .inr ⟨0,rfl,rfl⟩
   ·exact .inl h1
  ·exact .inr ⟨i+1,by simpa using h1,by simpa using h2⟩
theorem PY{p:AV K->AV K->Prop}:∀(ds:List Nat)(vs vs' tm tm':List (AV K)),vs.length=vs'.length->tm.length=tm'.length->(∀(i:Nat) v v',vs[i]?=some v->vs'[i]?=some v'->p v v')->(∀(t:Nat) v v',tm[t]?=some v->tm'[t]?=some v'->p v v')->
 ∀(t:Nat) v v',(cy tm ds vs)[t]?=some v->(cy tm' ds vs')[t]?=some v'->p v v'
 |[],vs,vs',tm,tm',h1,h2,h3,h4,t,v,v',g1,g2=>h4 t v v' (by simpa [cy]using g1) (by simpa [cy]using g2)
 |d::r,[],[],tm,tm',h1,h2,h3,h4,t,v,v',g1,g2=>h4 t v v' (by simpa [cy]using g1) (by simpa [cy]using g2)
 |d::r,[],_::_,tm,tm',h1,h2,h3,h4,t,v,v',g1,g2=>by simp at h1
 |d::r,_::_,[],tm,tm',h1,h2,h3,h4,t,v,v',g1,g2=>by simp at h1
 |d::r,x::vs,x'::vs',tm,tm',h1,h2,h3,h4,t,v,v',g1,g2=>by
  simp only[cy]at g1 g2;refine PY r vs vs' _ _ (by simpa using h1) (by simpa using h2) (fun i a b ha hb=>h3 (i+1) a b (by simpa using ha) (by simpa using hb)) (fun k a b ha hb=>?_) t v v' g1 g2;rcases cI ha with⟨rfl,rfl,-⟩|⟨hne,ha⟩
  ·rcases cI hb with⟨-,rfl,-⟩|⟨hne,-⟩
   ·exact h3 0 _ _ rfl rfl
   ·exact absurd rfl hne
  ·rcases cI hb with⟨rfl,-⟩|⟨-,hb⟩
   ·exact absurd rfl hne
   ·exact h4 k a b ha hb
theorem oq{f:Nat->Option Nat}:∀(l l':List (AV K)),ek f l=some l'->l'.length=l.length/\∀(i:Nat) v',l'[i]?=some v'->∃v,l[i]?=some v/\cU f v=some v'
 |[],l',h=>by simp[ek]at h;subst h;simp
 |x::l,l',h=>by
  simp only[ek]at h;split at h
  ·rename_i y m h1 h2;simp only[Option.some.injEq]at h;subst h;obtain⟨g1,g2⟩:=oq l m h2;refine⟨by simp[g1],fun i v' hi=>?_⟩;cases i with
   |zero=>simp at hi;subst hi;exact⟨x,rfl,h1⟩
   |succ i=>simp at hi;obtain⟨v,q1,q2⟩:=g2 i v' hi;exact⟨v,by simpa using q1,q2⟩
  ·cases h
theorem acZ{f:Nat->Option Nat}{v v':AV K}(h:cU f v=some v'):v'.dU=false:=by
 cases v<;>simp only[cU,Option.map_eq_some_iff,Option.some.injEq]at h<;>first
  |(subst h;rfl)
  |(obtain⟨a,-,rfl⟩:=h;rfl)
  |cases h
theorem PZ{n:Nat}{ds:List Nat}{l l':List (AV K)}{f:Nat->Option Nat}(h:ek f l=some l'):bK (cy (List.replicate n .any) ds l'):=fun t g b v e=>by
 rcases su ds l' _ t _ e with h1|⟨i,-,h2⟩
 ·rw[List.getElem?_replicate]at h1;split at h1<;>cases h1
 ·obtain⟨v0,-,q⟩:=(oq l l' h).2 i _ h2;have:=acZ q;simp[AV.dU]at this
theorem D5{D:aT K}{n:Nat}{ds:List Nat}{vs:List (AV K)}{tmps:Array Value}(hn:tmps.size=n)(h:∀(i t:Nat) v x,ds[i]?=some t->vs[i]?=some v->tmps[t]?=some x->Rep D ρ S w v x):cF D ρ S w (cy (List.replicate n .any) ds vs) tmps:=
 ⟨by rw[oo];simp[hn],fun t v x hv hx=>.dQ (by
   rcases su ds vs _ t v hv with h1|⟨i,h1,h2⟩
   ·rw[List.getElem?_replicate]at h1;split at h1
    ·simp at h1;subst h1;exact .any x
    ·cases h1
   ·exact h i t v x h1 h2 hx)⟩
theorem P0{cx:Cx K}(hD:aX cx.D){c:Code}{L:bk K}{n0:Nat}{st st':St K}{m:List Nat}{vals vs:List (AV K)}{Hi Ho:List (Ob K)}{e:Ex}(hn:st.tm.length=L.n)(h0:bK st.tm)
 (hin:inLoop st.H (L.ins.map fun t=>st.tm.getD t .any)=some (m,vals,Hi)) (hout:wT L m st vs Ho=some st')
 (htr:Tr cx Hi.length (.loop c) ⟨cy (List.replicate L.n .any) L.ins vals,Hi,true⟩ e ⟨cy (List.replicate L.n .any) L.outs vs,Ho,true⟩):bK st'.tm/\Tr cx n0 (.loop c) st e st':=by
 unfold inLoop at hin;split at hin
 ·rename_i hp;split at hin
  ·rename_i db Hi' hv hH;simp only[Option.some.injEq,Prod.mk.injEq]at hin;obtain⟨rfl,rfl,rfl⟩:=hin;unfold wT at hout;split at hout
   ·rename_i vs' dH hvs C3;split at hout
    ·rename_i hle;simp only[Option.some.injEq]at hout;subst hout;refine⟨PZ hvs,fun ρ S a w hn0 aV=>?_⟩;obtain⟨s1,s2,s3,s4⟩:=OB hD aV.heap hp hH;have hrs:=CZ (ρ:=ρ) (m:=reach st.H 64 (bg (L.ins.map fun t=>st.tm.getD t .any)) []) (fun i h hi=>by rw[aV.heap.len];exact(uj _ hp).1 i h hi);have hsize:a.tmps.size=L.n:=by rw[<-hn,aV.slots.len]
     have cn:Sat cx (lU ρ (reach st.H 64 (bg (L.ins.map fun t=>st.tm.getD t .any)) [])) S a w ⟨cy (List.replicate L.n .any) L.ins db,Hi',true⟩:=⟨s1,D5 hsize fun i t v x g1 g2 g3=>by
      obtain⟨v0,q1,q2⟩:=(oq _ _ hv).2 i v g2;simp only[List.getElem?_map,g1,Option.map_some,Option.some.injEq]at q1;subst q1;refine lS hD s4 _ v x q2 ?_;rw[List.getD_eq_getElem?_getD];cases hg:st.tm[t]? with
      |none=>exact .any x
      |some v1=>exact aV.slots.rep h0 hg g3,aV.defers⟩
     refine wp_mono (htr _ S a w (Nat.le_refl _) cn) fun e' a' w'=>?_
     rintro ⟨he,ac1,ρo,So,hso,hst⟩
     obtain⟨j1,j2,j3⟩:=join hD aV.heap hp hrs s2 s3 s1 hso.heap hst ac1 C3;refine⟨he,?_,_,So,⟨j1,?_,hso.defers⟩,j2.weaken hn0⟩
     ·have:=j2.grow aV.heap j1 (Nat.le_refl _);dsimp only at this⊢;omega
     ·refine⟨by rw[oo];have:=hso.slots.len;rw[oo]at this;exact this,fun t v x hv' hx=>?_⟩;have hlt:t<(cy (List.replicate L.n .any) L.outs vs).length:=by
       have:=(List.getElem?_eq_some_iff.1 hv').1;rw[oo]at this⊢;exact this
      have hg:=List.getElem?_eq_getElem hlt;have hrep:cA cx.D ρo So w' a'.tmps _ x:=hso.slots.ok t _ x hg hx;have hrel:=PY (p:=fun v v'=>v'=.any\/cU (fun h=>(dB (reach st.H 64 (bg (L.ins.map fun t=>st.tm.getD t .any)) []) st.H.length Ho.length)[h]?) v=some v') L.outs vs vs' (List.replicate L.n .any) (List.replicate L.n .any)
       (oq _ _ hvs).1.symm rfl (fun i v v' h1 h2=>by
         obtain⟨v0,q1,q2⟩:=(oq _ _ hvs).2 i v' h2;rw[h1]at q1;simp at q1;subst q1;exact .inr q2) (fun t v v' h1 h2=>by
         rw[List.getElem?_replicate]at h2;split at h2
         ·simp at h2;exact .inl h2.symm
         ·cases h2) t _ v hg hv'
      rcases hrel with rfl|hrel
      ·exact .dQ (.any x)
      ·refine .dQ (lS hD j3 _ v x hrel ?_);generalize (cy (List.replicate L.n .any) L.outs vs)[t]=y at hrep hrel;cases y with
       |opt=>simp[cU]at hrel
       |_=>exact hrep
    ·cases hout
   ·cases hout
  ·cases hin
 ·cases hin
theorem gK{cx:Cx K}(hD:aX cx.D)(hc:aE cx)(hm:cx.P.follows .mixedOrders=true):∀(c:Code),eE cx c->∀{R:Type}(st:St K)(k:Ex->St K->Option R)(r:R),cZ cx c st k=some r->
 ∃e st',k e st'=some r/\(st'.ok=true->st.ok=true)/\(st'.ok=true->bK st.tm->bK st'.tm/\∀n0,Tr cx n0 c st e st')
 |.skip,_,R,st,k,r,h=>⟨.normal,st,h,id,fun _ h0=>⟨h0,fun n0 ρ S a w hn aV=>wp_skip ⟨rfl,hn,ρ,S,aV,Step.refl⟩⟩⟩
 |.exit id,_,R,st,k,r,h=>⟨.exit id,st,h,fun h=>h,fun _ h0=>⟨h0,fun n0 ρ S a w hn aV=>wp_exit ⟨rfl,hn,ρ,S,aV,Step.refl⟩⟩⟩
 |.ret,_,R,st,k,r,h=>⟨.ret,st,h,fun h=>h,fun _ h0=>⟨h0,fun n0 ρ S a w hn aV=>wp_ret ⟨rfl,hn,ρ,S,aV,Step.refl⟩⟩⟩
 |.region id ops draw,_,R,st,k,r,h=>by
   simp only[cZ]at h;split at h
   ·rename_i st' hr;have:=fun n0=>so (id:=id) (n0:=n0) hD hc hm hr
    exact⟨.normal,st',h,(this 0).1,fun hok h0=>⟨((this 0).2 hok h0).1,fun n0=>((this n0).2 hok h0).2⟩⟩
   ·split at h
    ·rename_i b s1 s2 hsp;obtain⟨t,h1,h2⟩:=xQ _ hsp;have key:∀(x:Bool)(s':St K),dY {cx with gs:=[(t,x)]} ops.toList draw st=some s'->k .normal s'=some r->
      ∃e st',k e st'=some r/\(st'.ok=true->st.ok=true)/\(st'.ok=true->bK st.tm->bK st'.tm/\∀n0,Tr cx n0 (.region id ops draw) st e st'):=fun x s' hr hk=>by
      have:=fun n0=>so (cx:={cx with gs:=[(t,x)]}) (id:=id) (n0:=n0) hD hc hm hr
      exact⟨.normal,s',hk,(this 0).1,fun hok h0=>⟨((this 0).2 hok h0).1,fun n0=>(((this n0).2 hok h0).2).gs⟩⟩
     cases b with
     |true=>exact key true s1 h1 h
     |false=>exact key false s2 h2 h
    ·split at h
     ·split at h
      ·rename_i T hT;obtain⟨s,⟨hq1,hq2⟩,hk⟩:=dI.xR (Q:=fun s'=>(s'.ok=true->st.ok=true)/\(s'.ok=true->bK st.tm->bK s'.tm/\∀n0,Tr cx n0 (.region id ops draw) st .normal s')) _ (xU (fun gs s' hr=>by
        have:=fun n0=>so (cx:={cx with gs:=gs}) (id:=id) (n0:=n0) hD hc hm hr
        exact⟨(this 0).1,fun hok h0=>⟨((this 0).2 hok h0).1,fun n0=>(((this n0).2 hok h0).2).gs⟩⟩) 4 [] T hT) h
       exact⟨.normal,s,hk,hq1,hq2⟩
      ·cases h
     ·split at h
      ·rename_i s1 s2 h1 h2;have key:∀(x:Bool)(s':St K),dY {cx with call:=cx.alt x,mode:=cx.jM x} ops.toList draw st=some s'->k .normal s'=some r->
        ∃e st',k e st'=some r/\(st'.ok=true->st.ok=true)/\(st'.ok=true->bK st.tm->bK st'.tm/\∀n0,Tr cx n0 (.region id ops draw) st e st'):=fun x s' hr hk=>by
        have:=fun n0=>so (cx:={cx with call:=cx.alt x,mode:=cx.jM x}) (id:=id) (n0:=n0) hD ⟨hc.2.1 x,hc.2⟩ hm hr
        exact⟨.normal,s',hk,(this 0).1,fun hok h0=>⟨((this 0).2 hok h0).1,fun n0=>(((this n0).2 hok h0).2).call⟩⟩
       rcases hc.2.2 _ _ _ _ h with h|h
       ·exact key true s1 h1 h
       ·exact key false s2 h2 h
      ·split at h
       ·rename_i T hT;obtain⟨s,⟨hq1,hq2⟩,hk⟩:=dI.D1 (cx:=cx) (Q:=fun s'=>(s'.ok=true->st.ok=true)/\(s'.ok=true->bK st.tm->bK s'.tm/\∀n0,Tr cx n0 (.region id ops draw) st .normal s')) (fun a b r h=>hc.2.2 _ _ _ _ h) _ (D2 (fun gs s' hr=>by
         have:=fun n0=>so (cx:={cx with gs:=gs}) (id:=id) (n0:=n0) hD hc hm hr
         exact⟨(this 0).1,fun hok h0=>⟨((this 0).2 hok h0).1,fun n0=>(((this n0).2 hok h0).2).gs⟩⟩) (fun x gs s' hr=>by
         have:=fun n0=>so (cx:={cx with call:=cx.alt x,mode:=cx.jM x,gs:=gs}) (id:=id) (n0:=n0) hD ⟨hc.2.1 x,hc.2⟩ hm hr
         exact⟨(this 0).1,fun hok h0=>⟨((this 0).2 hok h0).1,fun n0=>Tr.call (Tr.gs (cx:={cx with call:=cx.alt x,mode:=cx.jM x}) (((this n0).2 hok h0).2))⟩⟩) 4 [] T hT) h
        exact⟨.normal,s,hk,hq1,hq2⟩
       ·cases h
 |.seq a b,hl,R,st,k,r,h=>by
   simp only[cZ]at h;obtain⟨e1,s1,h1,ok1,t1⟩:=gK hD hc hm a hl.1 st _ r h;cases e1 with
   |normal=>
    obtain⟨e2,s2,h2,ok2,t2⟩:=gK hD hc hm b hl.2 s1 k r h1;refine⟨e2,s2,h2,fun hk=>ok1 (ok2 hk),fun hk h0=>?_⟩;obtain⟨n1,q1⟩:=t1 (ok2 hk) h0;obtain⟨n2,q2⟩:=t2 hk n1;refine⟨n2,fun n0 ρ S a' w hn aV=>wp_seq (wp_mono (q1 n0 ρ S a' w hn aV) ?_)⟩
    rintro e a2 w2 ⟨rfl,hn1,ρ1,S1,cn,hst1⟩
    refine wp_mono (q2 n0 ρ1 S1 a2 w2 hn1 cn) ?_
    rintro e a3 w3 ⟨rfl,hn2,ρ2,S2,ot,hst2⟩
    exact⟨rfl,hn2,ρ2,S2,ot,hst1.trans hst2⟩
   |exit id=>
    refine⟨.exit id,s1,h1,ok1,fun hk h0=>⟨(t1 hk h0).1,fun n0 ρ S a' w hn aV=>wp_seq (wp_mono ((t1 hk h0).2 n0 ρ S a' w hn aV) ?_)⟩⟩
    rintro e a2 w2 ⟨rfl,q⟩
    exact⟨rfl,q⟩
   |ret=>
    refine⟨.ret,s1,h1,ok1,fun hk h0=>⟨(t1 hk h0).1,fun n0 ρ S a' w hn aV=>wp_seq (wp_mono ((t1 hk h0).2 n0 ρ S a' w hn aV) ?_)⟩⟩
    rintro e a2 w2 ⟨rfl,q⟩
    exact⟨rfl,q⟩
 |.cond c a b,hl,R,st,k,r,h=>by
   simp only[cZ]at h;split at h
   ·rename_i t ht;have hev:∀{ρ S a' w},Sat cx ρ S a' w st->a'.eval c=.bool t:=fun{ρ S a' w} aV=>by
     have:=xm aV.slots (gs:=[]) (fun p hp=>by simp at hp) c;rw[ht]at this;generalize a'.eval c=y at this;cases this;rfl
    split at h
    ·rename_i hs;simp only[Bool.and_eq_true]at hs;split at h
     ·rename_i sa sb ha hb;obtain⟨s1,g1,q1⟩:=sr a hs.1 st _ sa ha;obtain⟨s2,g2,q2⟩:=sr b hs.2 st _ sb hb;simp only[rM,Option.some.injEq]at g1 g2;subst g1;subst g2;obtain⟨e1,s1',c1,ok1,t1⟩:=gK hD hc hm a hl.1 st _ s1 ha;obtain⟨e2,s2',c2,ok2,t2⟩:=gK hD hc hm b hl.2 st _ s2 hb;cases e1<;>simp only[rM,Option.some.injEq]at c1<;>try cases c1
      cases e2<;>simp only[rM,Option.some.injEq]at c2<;>try cases c2
      have hks:∀{x y:Bool},((x|| !t)&&(y||t))=true->(t=true->x=true)/\(t=false->y=true):=fun{x y} hk=>by
       cases t<;>simpa using hk
      refine⟨.normal,_,h,fun hk=>?_,fun hk h0=>⟨acY h0,fun n0 ρ S a' w hn aV=>wp_cond (hev aV) ?_⟩⟩
      ·cases ht':t
       ·exact ok2 ((hks hk).2 ht')
       ·exact ok1 ((hks hk).1 ht')
      ·have fin:∀e' a' w',(e'=Ex.normal.eY/\n0<=(cond t s1 s2).H.length/\∃ρ' S',Sat cx ρ' S' a' w' (cond t s1 s2)/\Step cx.D n0 ρ S st.H w ρ' S' (cond t s1 s2).H w')->bK (cond t s1.tm s2.tm)->
        (e'=Ex.normal.eY/\n0<=st.H.length/\∃ρ' S',Sat cx ρ' S' a' w' ⟨ez t (writes a++writes b) 0 st.tm s1.tm s2.tm,st.H,(s1.ok|| !t)&&(s2.ok||t)⟩/\Step cx.D n0 ρ S st.H w ρ' S' st.H w'):=by
        rintro e' a2 w2 ⟨he,hn1,ρ1,S1,cn,hst1⟩ hno
        have hH:(cond t s1 s2).H=st.H:=by cases t;exact q2.H;exact q1.H
        rw[hH]at hn1 hst1;refine⟨he,hn1,ρ1,S1,⟨by have:=cn.heap;rw[hH]at this;exact this,?_,cn.defers⟩,hst1⟩;exact acX hno q1.len q2.len (fun i hi=>q1.rest i fun h'=>hi (by simp[h'])) (fun i hi=>q2.rest i fun h'=>hi (by simp[h'])) (by have:=cn.slots;cases t<;>exact this)
       cases ht':t<;>rw[ht']at fin
       ·obtain⟨n2,r2⟩:=t2 ((hks hk).2 ht') h0;exact wp_mono (r2 n0 ρ S a' w hn aV) fun e' a2 w2 q=>fin e' a2 w2 q n2
       ·obtain⟨n1,r1⟩:=t1 ((hks hk).1 ht') h0;exact wp_mono (r1 n0 ρ S a' w hn aV) fun e' a2 w2 q=>fin e' a2 w2 q n1
     ·cases h
    ·cases t
     ·obtain⟨e,s,h1,ok1,t1⟩:=gK hD hc hm b hl.2 st k r h;exact⟨e,s,h1,ok1,fun hk h0=>⟨(t1 hk h0).1,fun n0 ρ S a' w hn aV=>wp_cond (hev aV) ((t1 hk h0).2 n0 ρ S a' w hn aV)⟩⟩
     ·obtain⟨e,s,h1,ok1,t1⟩:=gK hD hc hm a hl.1 st k r h;exact⟨e,s,h1,ok1,fun hk h0=>⟨(t1 hk h0).1,fun n0 ρ S a' w hn aV=>wp_cond (hev aV) ((t1 hk h0).2 n0 ρ S a' w hn aV)⟩⟩
   ·cases h
 |.block id c,hl,R,st,k,r,h=>by
   simp only[cZ]at h;obtain⟨e1,s1,h1,ok1,t1⟩:=gK hD hc hm c hl st _ r h;cases e1 with
   |normal=>
    refine⟨.normal,s1,h1,ok1,fun hk h0=>⟨(t1 hk h0).1,fun n0 ρ S a' w hn aV=>wp_block (wp_mono ((t1 hk h0).2 n0 ρ S a' w hn aV) ?_)⟩⟩
    rintro e a2 w2 ⟨rfl,q⟩
    exact⟨rfl,q⟩
   |ret=>
    refine⟨.ret,s1,h1,ok1,fun hk h0=>⟨(t1 hk h0).1,fun n0 ρ S a' w hn aV=>wp_block (wp_mono ((t1 hk h0).2 n0 ρ S a' w hn aV) ?_)⟩⟩
    rintro e a2 w2 ⟨rfl,q⟩
    exact⟨rfl,q⟩
   |exit i=>
    dsimp only at h1;split at h1
    ·rename_i hid;refine⟨.normal,s1,h1,ok1,fun hk h0=>⟨(t1 hk h0).1,fun n0 ρ S a' w hn aV=>wp_block (wp_mono ((t1 hk h0).2 n0 ρ S a' w hn aV) ?_)⟩⟩
     rintro e a2 w2 ⟨rfl,q⟩
     subst hid;show(if i=i then _ else _)
     rw[if_pos rfl];exact⟨rfl,q⟩
    ·rename_i hid;refine⟨.exit i,s1,h1,ok1,fun hk h0=>⟨(t1 hk h0).1,fun n0 ρ S a' w hn aV=>wp_block (wp_mono ((t1 hk h0).2 n0 ρ S a' w hn aV) ?_)⟩⟩
     rintro e a2 w2 ⟨rfl,q⟩
     show(if i=id then _ else _)
     rw[if_neg hid];exact⟨rfl,q⟩
 |.loop c,hl,R,st,k,r,h=>by
   simp only[cZ]at h;split at h
   ·rename_i L hL;split at h
    ·rename_i hn;split at h
     ·rename_i m vals Hi hin;obtain⟨e,vs,Ho,h1,htr⟩:=hl L hL vals Hi R _ r h;split at h1
      ·rename_i st' hout;refine⟨e,st',h1,?_,fun hk h0=>?_⟩
       ·unfold wT at hout;split at hout
        ·split at hout
         ·simp only[Option.some.injEq]at hout;subst hout;exact id
         ·cases hout
        ·cases hout
       ·exact⟨(P0 (n0:=0) hD hn h0 hin hout htr).1,fun n0=>(P0 (n0:=n0) hD hn h0 hin hout htr).2⟩
      ·cases h1
     ·cases h
    ·cases h
   ·cases h
 |.scope ..,_,R,st,k,r,h=>by simp[cZ]at h
 |.rangeFunc ..,_,R,st,k,r,h=>by simp[cZ]at h
 |.goto ..,_,R,st,k,r,h=>by simp[cZ]at h
 |.label ..,_,R,st,k,r,h=>by simp[cZ]at h
 |.refuse ..,_,R,st,k,r,h=>by simp[cZ]at h
end Go.V
namespace Go.V
open Go
variable {K :bL}{ρ ρ':List Value}{S S':Nat->Prop}{w w':World}{H H':List (Ob K)}
def uG(D:aT K)(H:List (Ob K))(h:Nat):Ob K->Ob K
 |.box _=>match dN D H (.ptr h 0)with
   |.rp c x 0=>.dt c x
   |_=>.dead
 |.arr .. |.tree ..=>match dN D H (.sl h)with
   |.au c l=>.cT c l
   |_=>.dead
 |.cT c l=>.cT c l
 |.dt c x=>.dt c x
 |_=>.dead
def fZ(D:aT K)(H:List (Ob K)):Nat->List (Ob K)->List (Ob K)
 |_,[]=>[]
 |n,o::r=>uG D H n o::fZ D H (n+1) r
def xX(D:aT K)(o:Ob K):Ob K:=cond (lA D o) o .dead
def D6(v:AV K):AV K:=cond (dA v) .any v
def d4(D:aT K)(H:List (Ob K))(st:St K):St K:=⟨st.tm.map D6,H++(st.H.drop H.length).map (xX D),st.ok⟩
def uH(cx:Cx K)(k:Nat)(H:List (Ob K)):Code->{R:Type}->St K->(Ex->St K->Option R)->Option R
 |.seq a b,_,st,kk=>bif Nat.beq (keyOf b) k then cZ cx a st fun e s=>match e with
     |.normal=>cZ cx b (d4 cx.D H s) kk
     |e=>kk e (d4 cx.D H s)
   else cZ cx a st fun e s=>match e with
    |.normal=>uH cx k H b s kk
    |e=>kk e (d4 cx.D H s)
 |_,_,_,_=>none
theorem D7(D:aT K)(H:List (Ob K)):∀(n:Nat)(l:List (Ob K)),(fZ D H n l).length=l.length
 |_,[]=>rfl
 |n,o::r=>by simp[fZ,D7 D H (n+1) r]
theorem D8(D:aT K)(H:List (Ob K)):∀(n:Nat)(l:List (Ob K))(i:Nat),(fZ D H n l)[i]?=(l[i]?).map (uG D H (n+i))
 |_,[],i=>by simp[fZ]
 |n,o::r,0=>by simp[fZ]
 |n,o::r,i+1=>by
  simp only[fZ,List.getElem?_cons_succ];rw[D8 D H (n+1) r i];have e:n+1+i=n+(i+1):=by omega
  rw[e]
theorem ac2(D:aT K)(H:List (Ob K))(n:Nat)(o:Ob K):(uG D H n o).live=false:=by
 cases o<;>simp only[uG]<;>first|rfl|(split<;>rfl)
theorem xY{D:aT K}{b:Nat}{w':World}(h:Own D w' ρ (fZ D H 0 H) b):False:=by
 obtain⟨k,o,r,h1,h2,-⟩:=h;rw[D8,Option.map_eq_some_iff]at h1;obtain⟨o0,-,rfl⟩:=h1;rw[ac2]at h2;cases h2
theorem ac3{D:aT K}(hD:aX D)(hs:aD D ρ S w H):aD D ρ (fun b=>S b\/Own D w ρ H b) w (fZ D H 0 H):={
 len:=by rw[D7];exact hs.len
 ob:=fun h o r h1 h2=>by
  rw[D8,Option.map_eq_some_iff,Nat.zero_add]at h1;obtain⟨o0,h0,rfl⟩:=h1;have hob:=hs.ob h o0 r h0 h2;have sl:(∃c l,o0=.arr c l\/o0=.tree c l)->cV D ρ (fun b=>S b\/Own D w ρ H b) w (match dN D H (.sl h)with|.au c l=>.cT c l|_=>.dead) r:=fun ho=>by
   split
   ·rename_i c l hl;have hk:nN r=true:=by
     obtain⟨c',l',rfl|rfl⟩:=ho
     ·rcases hob with⟨rfl,-⟩|⟨_,_,_,_,_,_,rfl,-⟩<;>rfl
     ·have hob:Tree D w c' l' r:=hob;cases hob<;>rfl
    have:=CP hD hs (.sl h) r (.sl h2 hk);rw[hl]at this;exact this
   ·trivial
  cases o0 with
  |dead=>trivial
  |cT c l=>exact Rep.mono (fun _ h=>.inl h) (fun _ _=>rfl) (fun _ _ h=>h) hob
  |dt c x=>exact⟨hob.1.mono (fun _ h=>.inl h) (fun _ _=>rfl) (fun _ _ h=>h),hob.2⟩
  |opn=>trivial
  |bf=>trivial
  |arr c l=>exact sl ⟨c,l,.inl rfl⟩
  |tree c l=>exact sl ⟨c,l,.inr rfl⟩
  |box cs=>
   obtain⟨b,vs,T,rfl,-⟩:=hob;simp only[uG];split
   ·rename_i c x hl;have:=CP hD hs (.ptr h 0) _ (.ptr h2);rw[hl]at this;exact⟨this,b,rfl⟩
   ·trivial
 ct:=fun h h' o o' r r' b h1 h2 h3 h4 _ _ _ _=>(xY ⟨h,o,r,h1,h2,h3,h4⟩).elim
 lt:=fun b h=>(xY h).elim
 slt:=fun b hb=>hb.elim (hs.slt b) fun h=>(hs.lt b h).1
 base:=D.base.mono (fun _ h=>.inl h) (fun _ _=>rfl) hs.base}
theorem ac4{D:aT K}(hD:aX D){o:Ob K}{r:Value}(hf:lA D o=true)(h:cV D ρ S w o r):cV D ρ S' w o r:=by
 cases o with
 |arr c l=>
  simp only[lA,Bool.not_eq_true']at hf;rcases h with h|⟨b,o,cap,vs,T,fr,e,q1,q2,q3,q4,q5⟩
  ·exact .inl h
  ·exact .inr ⟨b,o,cap,vs,T,fr,e,q1,q2,q3,q4,fun i x hx=>rU _ _ (by rw[hD.flat];exact hf) (q5 i x hx)⟩
 |tree c l=>exact h
 |bf t m l=>exact h
 |_=>cases hf
theorem ac5{D:aT K}(o:Ob K):(xX D o=o/\lA D o=true)\/xX D o=.dead:=by
 unfold xX;cases h:lA D o
 ·exact .inr rfl
 ·exact .inl ⟨rfl,rfl⟩
theorem P1{cx:Cx K}(hD:aX cx.D){ρ0:List Value}{S0:Nat->Prop}{w0:World}{H0:List (Ob K)}(hs0:aD cx.D ρ0 S0 w0 H0){a:Act}{st:St K}(hn:H0.length<=st.H.length)(hs:Sat cx ρ S a w st)
 (hst:Step cx.D H0.length ρ0 (fun b=>S0 b\/Own cx.D w0 ρ0 H0 b) (fZ cx.D H0 0 H0) w0 ρ S st.H w) (h0:bK st.tm):
 Sat cx ρ S0 a w (d4 cx.D H0 st)/\Step cx.D H0.length ρ0 S0 H0 w0 ρ S0 (d4 cx.D H0 st).H w:=by
 have hold:∀b,b<w0.heap.size->w.heap[b]?=w0.heap[b]?:=fun b hb=>hst.old b hb fun h=>xY h
 have hpre:∀(h:Nat) r,ρ0[h]?=some r->ρ[h]?=some r:=fun h r hr=>by
  rw[hst.pre h (by rw[<-hs0.len];exact(List.getElem?_eq_some_iff.1 hr).1)];exact hr
 have P2:∀b,Own cx.D w0 ρ0 H0 b->w.heap[b]?=w0.heap[b]?:=fun b hb=>hold b (hs0.lt b hb).1
 have hget:∀{h:Nat}{o:Ob K}{r:Value},(d4 cx.D H0 st).H[h]?=some o->ρ[h]?=some r->(h<H0.length/\H0[h]?=some o/\ρ0[h]?=some r)\/(H0.length<=h/\(o=.dead\/(st.H[h]?=some o/\lA cx.D o=true))):=fun{h o r} ho hr=>by
  simp only[d4]at ho;by_cases hh:h<H0.length
  ·rw[List.getElem?_append_left hh]at ho;exact .inl ⟨hh,ho,by rw[<-hst.pre h hh];exact hr⟩
  ·rw[List.getElem?_append_right (by omega),List.getElem?_map,Option.map_eq_some_iff]at ho;obtain⟨o1,ho1,rfl⟩:=ho;rw[List.getElem?_drop]at ho1;have e:H0.length+(h-H0.length)=h:=by omega
   rw[e]at ho1;refine .inr ⟨by omega,?_⟩;rcases ac5 (D:=cx.D) o1 with⟨e1,e2⟩|e1
   ·rw[e1];exact .inr ⟨ho1,e2⟩
   ·exact .inl e1
 have D9:∀{h:Nat}{o:Ob K}{r:Value}{b:Nat},(d4 cx.D H0 st).H[h]?=some o->o.live=true->ρ[h]?=some r->bj cx.D w o r b->
  (h<H0.length/\H0[h]?=some o/\ρ0[h]?=some r/\bj cx.D w0 o r b)\/(H0.length<=h/\st.H[h]?=some o/\w0.heap.size<=b):=fun{h o r b} h1 h2 h3 h4=>by
  rcases hget h1 h3 with⟨g1,g2,g3⟩|⟨g1,rfl|⟨g2,g3⟩⟩
  ·exact .inl ⟨g1,g2,g3,h4.old fun q hq=>P2 q ⟨h,o,r,g2,h2,g3,hq⟩⟩
  ·cases h2
  ·exact .inr ⟨g1,g2,(hst.own b ⟨h,o,r,g2,h2,h3,h4⟩).resolve_left fun h=>xY h⟩
 have Ea:∀b,Own cx.D w ρ (d4 cx.D H0 st).H b->(Own cx.D w0 ρ0 H0 b\/w0.heap.size<=b)/\b<w.heap.size:=fun b ⟨h,o,r,h1,h2,h3,h4⟩=>by
  rcases D9 h1 h2 h3 h4 with⟨g1,g2,g3,g4⟩|⟨g1,g2,g3⟩
  ·have:=(hs0.lt b ⟨h,o,r,g2,h2,g3,g4⟩).1;exact⟨.inl ⟨h,o,r,g2,h2,g3,g4⟩,Nat.lt_of_lt_of_le this hst.size⟩
  ·exact⟨.inr g3,(hs.heap.lt b ⟨h,o,r,g2,h2,h3,h4⟩).1⟩
 refine⟨⟨⟨?_,fun h o r h1 h2=>?_,fun h h' o o' r r' b h1 h2 h3 h4 g1 g2 g3 g4=>?_,fun b hb=>⟨(Ea b hb).2,fun hS=>?_⟩,fun b hb=>Nat.lt_of_lt_of_le (hs0.slt b hb) hst.size,cx.D.base.mono (fun _ h=>h) (fun b hb=>hold b (hs0.slt b hb)) hs0.base⟩,⟨by simp[d4];exact hs.slots.len,fun t v x h1 h2=>?_⟩,hs.defers⟩,
  ⟨hst.os,hst.tape,hst.output,hst.size,fun b hb _=>hold b hb,fun b hb=>(Ea b hb).1,fun _ h=>h,fun _ h=>.inl h,hst.pre⟩⟩
 ·simp only[d4,List.length_append,List.length_map,List.length_drop];rw[hs.heap.len];omega
 ·rcases hget h1 h2 with⟨g1,g2,g3⟩|⟨g1,rfl|⟨g2,g3⟩⟩
  ·exact(hs0.ob h o r g2 g3).mono (fun _ h=>h) (fun b hb=>hold b (hs0.slt b hb)) hpre fun b hl hf=>P2 b ⟨h,o,r,g2,hl,g3,hf⟩
  ·trivial
  ·exact ac4 hD g3 (hs.heap.ob h o r g2 h2)
 ·rcases D9 h1 h2 h3 h4 with⟨a1,a2,a3,a4⟩|⟨a1,a2,a3⟩<;>rcases D9 g1 g2 g3 g4 with⟨b1,b2,b3,b4⟩|⟨b1,b2,b3⟩
  ·exact hs0.ct h h' o o' r r' b a2 h2 a3 a4 b2 g2 b3 b4
  ·have:=(hs0.lt b ⟨h,o,r,a2,h2,a3,a4⟩).1;omega
  ·have:=(hs0.lt b ⟨h',o',r',b2,g2,b3,b4⟩).1;omega
  ·exact hs.heap.ct h h' o o' r r' b a2 h2 h3 h4 b2 g2 g3 g4
 ·rcases(Ea b hb).1 with h|h
  ·exact(hs0.lt b h).2 hS
  ·have:=hs0.slt b hS;omega
 ·simp only[d4,List.getElem?_map,Option.map_eq_some_iff]at h1;obtain⟨v0,hv0,rfl⟩:=h1;have hr:Rep cx.D ρ S w v0 x:=hs.slots.rep h0 hv0 h2;refine .dQ ?_;unfold D6;cases hh:dA v0
  ·exact fb v0 x hh hr
  ·exact .any x
theorem P3{D:aT K}{st:St K}(h:bK st.tm):bK (d4 D H st).tm:=fun t g b y e=>by
 simp only[d4,List.getElem?_map,Option.map_eq_some_iff]at e;obtain⟨v0,hv0,e⟩:=e;unfold D6 at e;cases hh:dA v0<;>rw[hh]at e
 ·exact h t g b y (by rw[hv0];exact congrArg some e)
 ·cases e
theorem ac6{cx:Cx K}(hD:aX cx.D)(hc:aE cx)(hm:cx.P.follows .mixedOrders=true){k:Nat}{H0:List (Ob K)}:∀(c:Code),eE cx c->∀{R:Type}(st:St K)(kk:Ex->St K->Option R)(r:R),uH cx k H0 c st kk=some r->
 ∃e st',kk e st'=some r/\(st'.ok=true->st.ok=true)/\(st'.ok=true->bK st.tm->bK st'.tm/\∀(ρ0:List Value)(S0:Nat->Prop)(w0:World),aD cx.D ρ0 S0 w0 H0->
  ∀(ρ:List Value)(S:Nat->Prop)(a:Act)(w:World),H0.length<=st.H.length->Sat cx ρ S a w st->Step cx.D H0.length ρ0 (fun b=>S0 b\/Own cx.D w0 ρ0 H0 b) (fZ cx.D H0 0 H0) w0 ρ S st.H w->
  c.wp cx.P (fun e' a' w'=>e'=e.eY/\H0.length<=st'.H.length/\∃ρ' S',Sat cx ρ' S' a' w' st'/\Step cx.D H0.length ρ0 S0 H0 w0 ρ' S' st'.H w') a w):=fun c=>by
 induction c with
 |seq a b _ ihb=>
  intro hl R st kk r h;have left:∀{e:Ex}{s:St K},e≠.normal->kk e (d4 cx.D H0 s)=some r->(s.ok=true->st.ok=true)->(s.ok=true->bK st.tm->bK s.tm/\∀n0,Tr cx n0 a st e s)->∃e st',kk e st'=some r/\(st'.ok=true->st.ok=true)/\(st'.ok=true->bK st.tm->bK st'.tm/\∀(ρ0:List Value)(S0:Nat->Prop)(w0:World),aD cx.D ρ0 S0 w0 H0->
   ∀(ρ:List Value)(S:Nat->Prop)(a':Act)(w:World),H0.length<=st.H.length->Sat cx ρ S a' w st->Step cx.D H0.length ρ0 (fun b=>S0 b\/Own cx.D w0 ρ0 H0 b) (fZ cx.D H0 0 H0) w0 ρ S st.H w->
   (Code.seq a b).wp cx.P (fun e' a' w'=>e'=e.eY/\H0.length<=st'.H.length/\∃ρ' S',Sat cx ρ' S' a' w' st'/\Step cx.D H0.length ρ0 S0 H0 w0 ρ' S' st'.H w') a' w):=fun{e s} hne hk ok1 t1=>by
   refine⟨e,_,hk,ok1,fun hok h0=>?_⟩;obtain⟨n1,q1⟩:=t1 hok h0;refine⟨P3 n1,fun ρ0 S0 w0 hs0 ρ S a' w hn aV hstp=>wp_seq (wp_mono (q1 H0.length ρ S a' w hn aV) ?_)⟩
   rintro e' a2 w2 ⟨rfl,hn1,ρ1,S1,cn,hst1⟩
   obtain⟨b1,b2⟩:=P1 hD hs0 hn1 cn (hstp.trans hst1) n1;have hfin:e.eY=e.eY/\H0.length<=(d4 cx.D H0 s).H.length/\∃ρ' S',Sat cx ρ' S' a2 w2 (d4 cx.D H0 s)/\Step cx.D H0.length ρ0 S0 H0 w0 ρ' S' (d4 cx.D H0 s).H w2:=⟨rfl,by simp[d4],ρ1,S0,b1,b2⟩;cases e with
   |normal=>exact absurd rfl hne
   |exit i=>exact hfin
   |ret=>exact hfin
  simp only[uH]at h;cases hb:Nat.beq (keyOf b) k with
  |true=>
   rw[hb]at h;simp only[cond_true]at h;obtain⟨e1,s1,h1,ok1,t1⟩:=gK hD hc hm a hl.1 st _ r h;cases e1 with
   |normal=>
    obtain⟨e2,s2,h2,ok2,t2⟩:=gK hD hc hm b hl.2 _ kk r h1;refine⟨e2,s2,h2,fun hk=>ok1 (ok2 hk),fun hk h0=>?_⟩;obtain⟨n1,q1⟩:=t1 (ok2 hk) h0;obtain⟨n2,q2⟩:=t2 hk (P3 n1);refine⟨n2,fun ρ0 S0 w0 hs0 ρ S a' w hn aV hstp=>wp_seq (wp_mono (q1 H0.length ρ S a' w hn aV) ?_)⟩
    rintro e a2 w2 ⟨rfl,hn1,ρ1,S1,cn,hst1⟩
    obtain⟨b1,b2⟩:=P1 hD hs0 hn1 cn (hstp.trans hst1) n1;refine wp_mono (q2 H0.length ρ1 S0 a2 w2 (by simp[d4]) b1) ?_
    rintro e a3 w3 ⟨rfl,hn2,ρ2,S2,ot,hst2⟩
    exact⟨rfl,hn2,ρ2,S2,ot,b2.trans hst2⟩
   |exit i=>exact left (by simp) h1 ok1 t1
   |ret=>exact left (by simp) h1 ok1 t1
  |false=>
   rw[hb]at h;simp only[cond_false]at h;obtain⟨e1,s1,h1,ok1,t1⟩:=gK hD hc hm a hl.1 st _ r h;cases e1 with
   |normal=>
    obtain⟨e2,s2,h2,ok2,t2⟩:=ihb hl.2 s1 kk r h1;refine⟨e2,s2,h2,fun hk=>ok1 (ok2 hk),fun hk h0=>?_⟩;obtain⟨n1,q1⟩:=t1 (ok2 hk) h0;obtain⟨n2,q2⟩:=t2 hk n1;refine⟨n2,fun ρ0 S0 w0 hs0 ρ S a' w hn aV hstp=>wp_seq (wp_mono (q1 H0.length ρ S a' w hn aV) ?_)⟩
    rintro e a2 w2 ⟨rfl,hn1,ρ1,S1,cn,hst1⟩
    exact q2 ρ0 S0 w0 hs0 ρ1 S1 a2 w2 hn1 cn (hstp.trans hst1)
   |exit i=>exact left (by simp) h1 ok1 t1
   |ret=>exact left (by simp) h1 ok1 t1
 |_=>intro hl R st kk r h;simp[uH]at h
end Go.V
