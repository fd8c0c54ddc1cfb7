/-
  ONE OPERATION IN ITS FRAME; A REGION IN THE ORDER OF THE TEXT.
-/
import Derived.Test.YtefdfjaifkhphaaGreatDoorXWdeepA
set_option linter.unusedVariables false
namespace Go.V
open Go
variable {K :yu} {ρ ρ':List Value} {S S':Nat->Prop} {w w':World} {H H':List (Ob K)}
theorem MH {D:iU K} {P:Program} {o:Oper} {a:Act} {v:AV K} (h:Does D P ρ S H w (execOp a.eval o) v H') {k:Act->World->Prop} {Q:Exit->Act->World->Prop}
 (hk:∀u ρ' S' w',ay D ρ' S' w' H'->Rep D ρ' S' w' v u->Step D H.length ρ S H w ρ' S' H' w'->k (a.put o.dst u) w'):o.wp P a w k Q:=by
 obtain ⟨n,u,w',ρ',h1,h2,h3,h4,h5⟩:=h;unfold Oper.wp;rw[h1]
 rcases h2 with rfl |⟨rfl,rfl⟩
 ·exact hk u ρ' S w' h3 h4 h5
 ·exact hk _ ρ' S w' h3 h4 h5
theorem VZ {q:Bool} {cx:Cx K} (hD:bz cx.D) (hc:aG cx) (hs:ay cx.D ρ S w H) {a:Act} {tm:List (AV K)} (hsl:kK cx.D ρ S w tm a.tmps) {gs:List (Nat×Bool)} (hg:∀p∈gs,a.tmps[p.1]? =some (.bool p.2)) {o:Oper} {v:AV K} {c:Bool} {t:List Nat}
 (h:wG q cx tm gs H o.type o.op=some (v,H',c,t)) (hc1:c=true) {k:Act->World->Prop} {Q:Exit->Act->World->Prop}
 (hk:∀u ρ' S' w',ay cx.D ρ' S' w' H'->Rep cx.D ρ' S' w' v u->Step cx.D H.length ρ S H w ρ' S' H' w'->k (a.put o.dst u) w'):o.wp cx.P a w k Q:=by
 have hev:=Jt hsl hg;unfold wG at h;split at h
 ·
  rename_i cnd x y hop;have key:∀(b:Bool) (gx gy:List (Nat×Bool)),a.eval cnd= .bool b->(b=true->∀p∈gx,a.tmps[p.1]? =some (.bool p.2))->(b=false->∀p∈gy,a.tmps[p.1]? =some (.bool p.2))->v=merge b (CZ tm gx x) (CZ tm gy y)->H'=H->o.wp cx.P a w k Q:=by
   intro b gx gy hb h1 h2 hv hH;subst hH;unfold Oper.wp execOp;rw[hop];dsimp only;have:(do pure (.value (if<-asBool (a.eval cnd) then a.eval x else a.eval y)):Sem Next).run cx.P w= .ok (.value (if b then a.eval x else a.eval y)) w:=by rw[hb];simp[asBool]
   rw[this];refine hk _ ρ S w hs ?_ Step.refl;rw[hv];refine Q5 (fun e=> ?_) (fun e=> ?_)
   ·subst e;exact Jt hsl (h1 rfl) x
   ·subst e;exact Jt hsl (h2 rfl) y
  split at h
  ·rename_i tt b hcv
   have hb:=hev (.tmp tt);rw[hcv] at hb;have hb':=lh hb;split at h
   ·rename_i b0 _
    simp only[Option.some.injEq,Prod.mk.injEq] at h;obtain ⟨hv,hH,hcc, -⟩:=h;rw[hc1] at hcc;have hbb:b=b0:=by simpa using hcc
    subst hbb;subst hH;unfold Oper.wp execOp;rw[hop];dsimp only;have:(do pure (.value (if<-asBool (a.eval (.tmp tt)) then a.eval x else a.eval y)):Sem Next).run cx.P w= .ok (.value (if b then a.eval x else a.eval y)) w:=by rw[hb'];simp[asBool]
    rw[this];refine hk _ ρ S w hs ?_ Step.refl;rw[<-hv]
    cases b
    ·exact hev y
    ·exact hev x
   simp only[Option.some.injEq,Prod.mk.injEq] at h;obtain ⟨hv,hH, -, -⟩:=h;have hget:a.tmps[tt]? =some (.bool b):=by
    simp only[Act.eval,Array.getD_eq_getD_getElem?] at hb'
    cases hh:a.tmps[tt]? with
    |none=>rw[hh] at hb';simp[undef] at hb'
    |some z=>rw[hh] at hb';simp at hb';rw[hb']
   exact key b _ _ hb' (fun e p hp=>by subst e;rcases List.mem_cons.1 hp with rfl |hp;exact hget;exact hg p hp) (fun e p hp=>by subst e;rcases List.mem_cons.1 hp with rfl |hp;exact hget;exact hg p hp) hv.symm hH.symm
  ·rename_i cv b hcv
   simp only[Option.some.injEq,Prod.mk.injEq] at h;obtain ⟨hv,hH, -, -⟩:=h;have hb:=hev (.const cv);rw[hcv] at hb;exact key b _ _ (lh hb) (fun _=>hg) (fun _=>hg) hv.symm hH.symm
  ·cases h
 ·
  rename_i f args ats hop;have hf:=hev f;split at h
  ·rename_i g caps hfv
   have hcall:=h;rw[hc1] at hcall
   ·skip
    rw[hfv] at hf
    generalize hF:a.eval f=F at hf
    cases hf with
    |fn hl hr=>
     rename_i cs;have hargs:=(aaH (fun x=>kN hs _ _ (hev x)) args.toList).append (⟨hl,hr⟩:bF cx.D ρ S w caps cs)
     obtain ⟨⟨fn,hfn,hname,hbody⟩,xM⟩:=aac hD hc hs hcall hargs;unfold Oper.wp execOp;rw[hop];dsimp only;have hrun:(do let d<-resolve a.eval {callee:= .value f,args:=args,argTypes:=ats} o.type;invoke d.target d.args:Sem Next).run cx.P w= .ok (.enter g (args.toList.map a.eval++cs).toArray) w:=by
      simp only[resolve,hF,Deferred.ofValue,Sem.run_bind,Sem.run_pure,Result.andThen_ok,invoke,callFunc,run_program];rw[hfn];simp only[hname,hbody,Bool.false_eq_true,if_false,Sem.run_pure]
      congr 2
      apply Array.ext';simp
     rw[hrun,Oper.upon_enter];refine xM.mono ?_
     rintro e w' ⟨u,ρ',S',rfl,h1,h2,h3⟩
     exact hk u ρ' S' w' h1 h2 h3
  ·cases h
 ·
  rename_i x hop;have hrun:∀(v':AV K),Rep cx.D ρ S w v' (a.eval x)->v=v'->H'=H->o.wp cx.P a w k Q:=fun v' h1 h2 h3=>by
   subst h2;subst h3;unfold Oper.wp execOp;rw[hop];exact hk _ ρ S w hs h1 Step.refl
  split at h
  ·rename_i hq
   split at h
   ·split at h
    ·rename_i c _
     simp only[Option.some.injEq,Prod.mk.injEq] at h;obtain ⟨rfl,rfl,rfl,rfl⟩:=h;simp only[Bool.and_eq_true] at hq;have hx:x= .const (.slice none 0 0):=by
      have:=hq.2;unfold Vo at this;split at this
      ·rfl
      ·cases this
     obtain ⟨n1,n2⟩:=YT hs c (cx.deep c);unfold Oper.wp execOp;rw[hop,hx];exact hk _ _ S w n1 (.sl (by rw[List.getElem?_append_right (by rw[hs.len];exact Nat.le_refl _)];simp[hs.len])) n2
    ·simp only[Option.some.injEq,Prod.mk.injEq] at h
     exact hrun _ (hev x) h.1.symm h.2.1.symm
   ·simp only[Option.some.injEq,Prod.mk.injEq] at h
    exact hrun _ (hev x) h.1.symm h.2.1.symm
  ·simp only[Option.some.injEq,Prod.mk.injEq] at h
   exact hrun _ (kN hs _ _ (hev x)) h.1.symm h.2.1.symm
 ·split at h
  ·rename_i v1 c1 hp
   simp only[Option.some.injEq,Prod.mk.injEq] at h;obtain ⟨rfl,rfl,rfl,rfl⟩:=h;obtain ⟨u,hu,hr⟩:=Q9 hD hs (fun x=>kN hs _ _ (hev x)) hp hc1
   unfold Oper.wp;rw[hu];exact hk u ρ S w hs hr Step.refl
  ·split at h
   ·obtain ⟨rfl,u,w1,S1,g1,g2,g3,g4⟩:=abz hD hs (fun x=>kN hs _ _ (hev x)) h hc1
    unfold Oper.wp;rw[g1];exact hk u ρ S1 w1 g2 g3 g4
   ·split at h
    ·cases h
    split at h
    ·rename_i hov
     simp only[Option.some.injEq] at h;rw[h] at hov;exact MH (aab hD hs hev hov) fun u ρ' S' w' a1 a2 a3=>hk u ρ' S' w' a1 a2 a3
    split at h
    ·rename_i hct
     simp only[Option.some.injEq] at h;rw[h] at hct;exact MH (aby hs hev hct hc1) fun u ρ' S' w' a1 a2 a3=>hk u ρ' S' w' a1 a2 a3
    ·obtain ⟨S1,H1,g1,g2,g3⟩:=aa9 hD hs hev h hc1
     refine MH g3 fun u ρ' S' w' a1 a2 a3=>hk u ρ' S' w' a1 a2 ?_
     rw[g2] at a3;exact g1.trans a3
theorem Jh {cx:Cx K} {f:FuncId} {args:List (AV K)} {v:AV K} {c:Bool} {t:List Nat} (hcall:BP cx .plain H f args=some (v,H',c,t)):H'=H:=by
 unfold BP at hcall;dsimp only at hcall;split at hcall
 ·split at hcall
  ·split at hcall
   ·simp only[Option.some.injEq,Prod.mk.injEq] at hcall;exact hcall.2.1.symm
   ·cases hcall
  ·cases hcall
 ·cases hcall
theorem agZ {cx:Cx K} {ev:Operand->AV K} {op:Op} {v:AV K} {c:Bool} {t:List Nat} (h:aew cx ev H op=some (v,H',c,t)):H'=H:=by
 unfold aew at h;split at h
 ·split at h
  ·cases h
  ·split at h
   ·split at h
    ·split at h
     ·simp only[Option.some.injEq,Prod.mk.injEq] at h;exact h.2.1.symm
     ·cases h
    ·cases h
   ·cases h
 ·cases h
theorem JA {cx:Cx K} {tm:List (AV K)} {gs:List (Nat×Bool)} {T:TypeId} {op:Op} {v:AV K} {c:Bool} {t:List Nat} (h:wG true cx tm gs H T op=some (v,H',c,t)):H'=H:=by
 unfold wG at h;split at h
 ·split at h
  ·split at h
   ·simp only[Option.some.injEq,Prod.mk.injEq] at h;exact h.2.1.symm
   ·simp only[Option.some.injEq,Prod.mk.injEq] at h;exact h.2.1.symm
  ·simp only[Option.some.injEq,Prod.mk.injEq] at h;exact h.2.1.symm
  ·cases h
 ·split at h
  ·unfold Xz at h
   simp only[Bool.not_true,Bool.and_false,Bool.false_eq_true,if_false] at h;unfold Oh at h;split at h
   ·exact Jh h
   ·split at h
    ·rename_i r hr
     simp only[Option.some.injEq] at h;subst h;exact Jh hr
    ·simp at h
   all_goals simp at h
  ·cases h
 ·simp only[Bool.not_true,Bool.false_and,Bool.false_eq_true,if_false,Option.some.injEq,Prod.mk.injEq] at h
  exact h.2.1.symm
 ·split at h
  ·simp only[Option.some.injEq,Prod.mk.injEq] at h;exact h.2.1.symm
  ·simp only[if_true] at h
   exact agZ h
theorem aaj {q:Bool} {cx:Cx K} {tm:List (AV K)} {gs:List (Nat×Bool)} {T:TypeId} {op:Op} {v:AV K} {c:Bool} {t:List Nat} (hs:iR cx op=true) (h:wG q cx tm gs H T op=some (v,H',c,t)):H'=H:=by
 cases q with
 |true=>exact JA h
 |false=>
 unfold wG at h;split at h
 ·split at h
  ·split at h
   ·simp only[Option.some.injEq,Prod.mk.injEq] at h;exact h.2.1.symm
   ·simp only[Option.some.injEq,Prod.mk.injEq] at h;exact h.2.1.symm
  ·simp only[Option.some.injEq,Prod.mk.injEq] at h;exact h.2.1.symm
  ·cases h
 ·rename_i f args ats
  cases f<;>simp only[iR] at hs<;>try (cases hs;done)
  rename_i g;simp only[CZ] at h;have hm:cx.mode g= .plain /\ (cx.opn=false \/ cx.lz=true):=by simpa using hs
  unfold Xz at h;have hoz:(cx.opn&& !cx.lz&& !false)=false:=by rcases hm.2 with e |e<;>simp[e]
  rw[hoz] at h;simp only[Bool.false_eq_true,if_false] at h
  replace hm:=hm.1
  unfold Oh at h;rw[hm] at h;exact Jh h
 ·simp only[iR,Bool.not_eq_true'] at hs
  rw[hs] at h;simp only[Bool.and_false,Bool.false_eq_true,if_false,Option.some.injEq,Prod.mk.injEq] at h;exact h.2.1.symm
 ·split at h
  ·simp only[Option.some.injEq,Prod.mk.injEq] at h;exact h.2.1.symm
  ·rw[hs] at h;simp at h
end Go.V
