/-
  ONE OPERATION IN ITS FRAME; A REGION IN THE ORDER OF THE TEXT.
-/
import Derived.Test.YtgonjnjoklpegaaGreatDoorXWdeepA
set_option linter.unusedVariables false
namespace Go.V
open Go
variable{K :cq}{ρ ρ':List Value}{S S':Nat->Prop}{w w':World}{H H':List (Ob K)}
theorem GM{D:aY K}{P:Program}{o:Oper}{a:Act}{v:AV K}(h:Does D P ρ S H w (execOp a.eval o) v H'){k:Act->World->Prop}{Q:Exit->Act->World->Prop}
 (hk:∀u ρ' S' w',aL D ρ' S' w' H'->Rep D ρ' S' w' v u->Step D H.length ρ S H w ρ' S' H' w'->k (a.put o.dst u) w'):o.wp P a w k Q:=by
 obtain⟨n,u,w',ρ',h1,h2,h3,h4,h5⟩:=h;unfold Oper.wp;rw[h1];rcases h2 with rfl|⟨rfl,rfl⟩
 ·exact hk u ρ' S w' h3 h4 h5
 ·exact hk _ ρ' S w' h3 h4 h5
theorem GN{q:Bool}{cx:Cx K}(hD:bg cx.D)(hc:aI cx)(hs:aL cx.D ρ S w H){a:Act}{tm:List (AV K)}(hsl:dD cx.D ρ S w tm a.tmps){gs:List (Nat×Bool)}(hg:∀p∈gs,a.tmps[p.1]?=some (.bool p.2)){o:Oper}{v:AV K}{c:Bool}{t:List Nat}
 (h:iR q cx tm gs H o.type o.op=some (v,H',c,t)) (hc1:c=true) {k:Act->World->Prop} {Q:Exit->Act->World->Prop}
 (hk:∀u ρ' S' w',aL cx.D ρ' S' w' H'->Rep cx.D ρ' S' w' v u->Step cx.D H.length ρ S H w ρ' S' H' w'->k (a.put o.dst u) w'):o.wp cx.P a w k Q:=by
 have hev:=zu hsl hg;unfold iR at h;split at h
 ·
  rename_i cnd x y hop;have key:∀(b:Bool)(gx gy:List (Nat×Bool)),a.eval cnd=.bool b->(b=true->∀p∈gx,a.tmps[p.1]?=some (.bool p.2))->(b=false->∀p∈gy,a.tmps[p.1]?=some (.bool p.2))->v=merge b (cK tm gx x) (cK tm gy y)->H'=H->o.wp cx.P a w k Q:=by
   intro b gx gy hb h1 h2 hv hH;subst hH;unfold Oper.wp execOp;rw[hop];dsimp only;have:(do pure (.value (if<-asBool (a.eval cnd)then a.eval x else a.eval y)):Sem Next).run cx.P w=.ok (.value (if b then a.eval x else a.eval y)) w:=by rw[hb];simp[asBool]
   rw[this];refine hk _ ρ S w hs ?_ Step.refl;rw[hv];refine QE (fun e=>?_) (fun e=>?_)
   ·subst e;exact zu hsl (h1 rfl) x
   ·subst e;exact zu hsl (h2 rfl) y
  split at h
  ·rename_i tt b hcv;have hb:=hev (.tmp tt);rw[hcv]at hb;have hb':=ij hb;split at h
   ·rename_i b0 _;simp only[av,aJ]at h;obtain⟨hv,hH,hcc,-⟩:=h;rw[hc1]at hcc;have hbb:b=b0:=by simpa using hcc
    subst hbb;subst hH;unfold Oper.wp execOp;rw[hop];dsimp only;have:(do pure (.value (if<-asBool (a.eval (.tmp tt))then a.eval x else a.eval y)):Sem Next).run cx.P w=.ok (.value (if b then a.eval x else a.eval y)) w:=by rw[hb'];simp[asBool]
    rw[this];refine hk _ ρ S w hs ?_ Step.refl;rw[<-hv];cases b
    ·exact hev y
    ·exact hev x
   simp only[av,aJ]at h;obtain⟨hv,hH,-,-⟩:=h;have hget:a.tmps[tt]?=some (.bool b):=by
    simp only[Act.eval,j7]at hb';cases hh:a.tmps[tt]? with
    |none=>rw[hh]at hb';simp[undef]at hb'
    |some z=>rw[hh]at hb';simp at hb';rw[hb']
   exact key b _ _ hb' (fun e p hp=>by subst e;rcases eJ.1 hp with rfl|hp;exact hget;exact hg p hp) (fun e p hp=>by subst e;rcases eJ.1 hp with rfl|hp;exact hget;exact hg p hp) hv.symm hH.symm
  ·rename_i cv b hcv;simp only[av,aJ]at h;obtain⟨hv,hH,-,-⟩:=h;have hb:=hev (.const cv);rw[hcv]at hb;exact key b _ _ (ij hb) (fun _=>hg) (fun _=>hg) hv.symm hH.symm
  ·cases h
 ·
  rename_i f args ats hop;have hf:=hev f;split at h
  ·rename_i g caps hfv;have hcall:=h;rw[hc1]at hcall
   ·skip
    rw[hfv]at hf;generalize hF:a.eval f=F at hf;cases hf with
    |fn hl hr=>
     rename_i cs;have hargs:=(TI (fun x=>lq hs _ _ (hev x)) args.toList).append (⟨hl,hr⟩:aU cx.D ρ S w caps cs);obtain⟨⟨fn,hfn,hname,hbody⟩,ji⟩:=ae7 hD hc hs hcall hargs;unfold Oper.wp execOp;rw[hop];dsimp only;have hrun:(do let d<-resolve a.eval {callee:=.value f,args:=args,argTypes:=ats} o.type;invoke d.target d.args:Sem Next).run cx.P w=.ok (.enter g (args.toList.map a.eval++cs).toArray) w:=by
      simp only[resolve,hF,Deferred.ofValue,Sem.run_bind,Sem.run_pure,Result.andThen_ok,invoke,callFunc,run_program];rw[hfn];simp only[hname,hbody,gi,dN,Sem.run_pure];congr 2;apply Array.ext';simp
     rw[hrun,Oper.upon_enter];refine ji.mono ?_
     rintro e w' ⟨u,ρ',S',rfl,h1,h2,h3⟩
     exact hk u ρ' S' w' h1 h2 h3
  ·cases h
 ·
  rename_i x hop;have hrun:∀(v':AV K),Rep cx.D ρ S w v' (a.eval x)->v=v'->H'=H->o.wp cx.P a w k Q:=fun v' h1 h2 h3=>by
   subst h2;subst h3;unfold Oper.wp execOp;rw[hop];exact hk _ ρ S w hs h1 Step.refl
  split at h
  ·rename_i hq;split at h
   ·split at h
    ·rename_i c _;simp only[av,aJ]at h;obtain⟨rfl,rfl,rfl,rfl⟩:=h;simp only[bc]at hq;have hx:x=.const (.slice none 0 0):=by
      have:=hq.2;unfold Fz at this;split at this
      ·rfl
      ·cases this
     obtain⟨n1,n2⟩:=Gy hs c (cx.deep c);unfold Oper.wp execOp;rw[hop,hx];exact hk _ _ S w n1 (.sl (by rw[cB (by rw[hs.len];exact bu _)];simp[hs.len])) n2
    ·simp only[av,aJ]at h;exact hrun _ (hev x) h.1.symm h.2.1.symm
   ·simp only[av,aJ]at h;exact hrun _ (hev x) h.1.symm h.2.1.symm
  ·simp only[av,aJ]at h;exact hrun _ (lq hs _ _ (hev x)) h.1.symm h.2.1.symm
 ·split at h
  ·rename_i v1 c1 hp;simp only[av,aJ]at h;obtain⟨rfl,rfl,rfl,rfl⟩:=h;obtain⟨u,hu,hr⟩:=QZ hD hs (fun x=>lq hs _ _ (hev x)) hp hc1;unfold Oper.wp;rw[hu];exact hk u ρ S w hs hr Step.refl
  ·split at h
   ·obtain⟨rfl,u,w1,S1,g1,g2,g3,g4⟩:=agi hD hs (fun x=>lq hs _ _ (hev x)) h hc1;unfold Oper.wp;rw[g1];exact hk u ρ S1 w1 g2 g3 g4
   ·split at h
    ·cases h
    split at h
    ·rename_i hov;simp only[av]at h;rw[h]at hov;exact GM (ae5 hD hs hev hov) fun u ρ' S' w' a1 a2 a3=>hk u ρ' S' w' a1 a2 a3
    split at h
    ·rename_i hct;simp only[av]at h;rw[h]at hct;exact GM (agh hs hev hct hc1) fun u ρ' S' w' a1 a2 a3=>hk u ρ' S' w' a1 a2 a3
    ·obtain⟨S1,H1,g1,g2,g3⟩:=ae2 hD hs hev h hc1;refine GM g3 fun u ρ' S' w' a1 a2 a3=>hk u ρ' S' w' a1 a2 ?_
     rw[g2]at a3;exact g1.trans a3
theorem GO{cx:Cx K}{f:FuncId}{args:List (AV K)}{v:AV K}{c:Bool}{t:List Nat}(hcall:iN cx .plain H f args=some (v,H',c,t)):H'=H:=by
 unfold iN at hcall;dsimp only at hcall;split at hcall
 ·split at hcall
  ·split at hcall
   ·simp only[av,aJ]at hcall;exact hcall.2.1.symm
   ·cases hcall
  ·cases hcall
 ·cases hcall
theorem agG{cx:Cx K}{ev:Operand->AV K}{op:Op}{v:AV K}{c:Bool}{t:List Nat}(h:wE cx ev H op=some (v,H',c,t)):H'=H:=by
 unfold wE at h;split at h
 ·split at h
  ·cases h
  ·split at h
   ·split at h
    ·split at h
     ·simp only[av,aJ]at h;exact h.2.1.symm
     ·cases h
    ·cases h
   ·cases h
 ·cases h
theorem uV{cx:Cx K}{tm:List (AV K)}{gs:List (Nat×Bool)}{T:TypeId}{op:Op}{v:AV K}{c:Bool}{t:List Nat}(h:iR true cx tm gs H T op=some (v,H',c,t)):H'=H:=by
 unfold iR at h;split at h
 ·split at h
  ·split at h
   ·simp only[av,aJ]at h;exact h.2.1.symm
   ·simp only[av,aJ]at h;exact h.2.1.symm
  ·simp only[av,aJ]at h;exact h.2.1.symm
  ·cases h
 ·split at h
  ·unfold uL at h;simp only[d5,Bool.and_false,gi,dN]at h;unfold mo at h;split at h
   ·exact GO h
   ·split at h
    ·rename_i r hr;simp only[av]at h;subst h;exact GO hr
    ·simp at h
   all_goals simp at h
  ·cases h
 ·simp only[d5,od,gi,dN,av,aJ]at h;exact h.2.1.symm
 ·split at h
  ·simp only[av,aJ]at h;exact h.2.1.symm
  ·simp only[dC]at h;exact agG h
theorem RB{q:Bool}{cx:Cx K}{tm:List (AV K)}{gs:List (Nat×Bool)}{T:TypeId}{op:Op}{v:AV K}{c:Bool}{t:List Nat}(hs:fN cx op=true)(h:iR q cx tm gs H T op=some (v,H',c,t)):H'=H:=by
 cases q with
 |true=>exact uV h
 |false=>
 unfold iR at h;split at h
 ·split at h
  ·split at h
   ·simp only[av,aJ]at h;exact h.2.1.symm
   ·simp only[av,aJ]at h;exact h.2.1.symm
  ·simp only[av,aJ]at h;exact h.2.1.symm
  ·cases h
 ·rename_i f args ats;cases f<;>simp only[fN]at hs<;>try (cases hs;done)
  rename_i g;simp only[cK]at h;have hm:cx.mode g=.plain/\(cx.opn=false\/cx.lz=true):=by simpa using hs
  unfold uL at h;have Ge:(cx.opn&& !cx.lz&& !false)=false:=by rcases hm.2 with e|e<;>simp[e]
  rw[Ge]at h;simp only[gi,dN]at h
  replace hm:=hm.1
  unfold mo at h;rw[hm]at h;exact GO h
 ·simp only[fN,eZ]at hs;rw[hs]at h;simp only[Bool.and_false,gi,dN,av,aJ]at h;exact h.2.1.symm
 ·split at h
  ·simp only[av,aJ]at h;exact h.2.1.symm
  ·rw[hs]at h;simp at h
end Go.V
