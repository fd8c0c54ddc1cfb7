/-
  A WHOLE FUNCTION.
-/
import Derived.Test.YtcnhfiflhplokaaGreatDoorXWnorm
set_option linter.unusedVariables false
namespace Go.V
open Go
variable {K :yG} {ρ ρ':List Value} {S S':Nat->Prop} {w w':World} {H H':List (Ob K)}
theorem Eg {cx:Cx K} (hD:bU cx.D) {st:St K} {a:Act} (h0:iK st.tm) (dG:Sat cx ρ S a w st):∀(rs:List ResultVar) (l:List (AV K)),DL cx st rs=some l->
 ∃vs:List Value,(rs.mapM fun r=>(match r with
  | .tmp t=>pure (a.tmps.getD t undef)
  | .cell p t=>do loadVar t (<-asAddr (a.tmps.getD p undef)):Sem Value)).run cx.P w= .ok vs w /\ bW cx.D ρ S w l vs
 | [],l,h=>by
   simp only[DL,Option.some.injEq] at h;subst h;exact ⟨[],by simp, .nil⟩
 | .tmp t::r,l,h=>by
   simp only[DL] at h;split at h
   ·rename_i l1 h1
    simp only[Option.some.injEq] at h;subst h;obtain ⟨vs,q1,q2⟩:=Eg hD h0 dG r l1 h1;refine ⟨a.tmps.getD t undef::vs, ?_, .cons ?_ q2⟩
    ·simp only[List.mapM_cons,Sem.run_bind,Sem.run_pure,Result.andThen_ok]
     rw[q1];rfl
    ·rw[List.getD_eq_getElem?_getD,Array.getD_eq_getD_getElem?]
     cases hg:st.tm[t]? with
     |none=>exact .any _
     |some v=>
      obtain ⟨x,hx, -⟩:=dG.slots.get hg;rw[hx];exact dG.slots.rep h0 hg hx
   ·cases h
 | .cell p t::r,l,h=>by
   simp only[DL] at h;split at h
   ·rename_i v l1 hv h1
    simp only[Option.some.injEq] at h;subst h;obtain ⟨vs,q1,q2⟩:=Eg hD h0 dG r l1 h1;have hrep:Rep cx.D ρ S w (st.tm.getD p .any) (a.tmps.getD p undef):=by
     rw[List.getD_eq_getElem?_getD,Array.getD_eq_getD_getElem?]
     cases hg:st.tm[p]? with
     |none=>exact .any _
     |some v=>
      obtain ⟨x,hx, -⟩:=dG.slots.get hg;rw[hx];exact dG.slots.rep h0 hg hx
    obtain ⟨u,hu,hr⟩:=SQ hD dG.heap hv hrep;refine ⟨u::vs, ?_, .cons hr q2⟩;have hu':(do loadVar t (<-asAddr (a.tmps.getD p undef)):Sem Value).run cx.P w= .ok u w:=by
     generalize a.tmps.getD p undef=X at hu
     unfold Instr.loadAt at hu;simp only[Sem.run_bind] at hu ⊢
     cases X<;>first
      |(simp[Instr.sureAddr,Result.andThen] at hu;done)
      |skip
     rename_i pa
     cases pa with
     |none=>simp[Instr.sureAddr,Result.andThen,stuck] at hu
     |some pa=>simpa [Instr.sureAddr,asAddr] using hu
    simp only[List.mapM_cons,Sem.run_bind] at hu' ⊢;rw[hu'];simp only[Result.andThen_ok];rw[q1];rfl
   ·cases h
theorem Wq {cx:Cx K} (hD:bU cx.D) {fn:Func} {st:St K} {a:Act} (h0:iK st.tm) (dG:Sat cx ρ S a w st) {v:AV K} (h:resV cx fn st=some v):∃u,(results fn a.tmps).run cx.P w= .ok u w /\ Rep cx.D ρ S w v u:=by
 have key:∀l,DL cx st fn.results.toList=some l->∃vs:List Value,bW cx.D ρ S w l vs /\ (results fn a.tmps).run cx.P w= .ok (if h:vs.toArray.size=1 then vs.toArray[0] else .tuple vs.toArray) w:=fun l hl=>by
  obtain ⟨vs,q1,q2⟩:=Eg hD h0 dG _ l hl;refine ⟨vs,q2, ?_⟩;unfold results;rw[Array.mapM_eq_mapM_toList];simp only[map_eq_pure_bind,bind_assoc,pure_bind,Sem.run_bind];exact Eq.trans (congrArg (fun z:Result (List Value)=>z.andThen fun l w'=>Sem.run cx.P (pure (if h:l.toArray.size=1 then l.toArray[0] else Value.tuple l.toArray)) w') q1) rfl
 unfold resV at h;split at h
 ·rename_i v1 hl
  simp only[Option.some.injEq] at h;subst h;obtain ⟨vs,q1,q2⟩:=key _ hl;obtain ⟨x,r,rfl,hx,hr⟩:=q1.qh;have:=hr.Ag;subst this;exact ⟨x,by rw[q2];rfl,lG dG.heap _ _ hx⟩
 ·rename_i l hne hl
  simp only[Option.some.injEq] at h;subst h;obtain ⟨vs,q1,q2⟩:=key _ hl;have q1':=wW dG.heap _ _ q1;refine ⟨.tuple vs.toArray, ?_, .mJ q1'.1 q1'.2⟩;rw[q2,dif_neg];intro h1;have:l.length=1:=by rw[q1.1];simpa using h1
  match l,this with
  | [x],_=>exact hne x rfl
 ·cases h
theorem aif {cx:Cx K} (hD:bU cx.D) (hc:aI cx) (hm:cx.P.follows .mixedOrders=true) {f:FuncId} {fn:Func} {c:Code} (hf:cx.P.funcs[f]? =some fn) (hname:(fn.name== "runtime.NumGoroutine")=false) (hb:fn.body=some c) (hl:mG cx c)
 {args:List (AV K)} {r:AV K} (h:ajl cx fn args H=some (r,H')):RC cx.D cx.P f args H r H':=by
 refine ⟨⟨fn,hf,hname,by rw[hb];rfl⟩,fun ρ S w vals hs ha=> ?_⟩
 unfold ajl at h;rw[hb] at h;dsimp only at h;obtain ⟨e,st,h1, -,h3⟩:=jT hD hc hm c hl _ _ _ h;have hfin:st.ok=true /\ ∃v,resV cx fn st=some v /\ pack H.length v st.H=some (r,H') /\ ∀i,e≠ .exit i:=by
  unfold ajk at h1;split at h1
  ·cases h1
  ·rename_i hne
   split at h1
   ·rename_i v hv
    cases hok:st.ok with
    |false=>rw[hok] at h1;cases h1
    |true=>rw[hok] at h1;exact ⟨rfl,v,hv,h1,hne⟩
   ·cases h1
 obtain ⟨hok,v,hv,hp,hne⟩:=hfin;have h0:iK (args++List.replicate (fn.ntmps-args.length) (AV.any:AV K)):=fun t g b y e=>by
  rcases Nat.lt_or_ge t args.length with hlt |hge
  ·rw[List.getElem?_append_left hlt] at e
   obtain ⟨x, -,hx⟩:=ha.get e
   cases hx
  ·rw[List.getElem?_append_right hge,List.getElem?_replicate] at e
   split at e<;>cases e
 obtain ⟨n1,htr⟩:=h3 hok h0;refine calls_of_wp hf hb ?_;have dG:Sat cx ρ S {tmps:=vals.toArray++Array.replicate (fn.ntmps-vals.toArray.size) undef,defers:=[]} w ⟨args++List.replicate (fn.ntmps-args.length) .any,H,true⟩:=⟨hs,⟨by simp[ha.1],fun t v x h1 h2=> .rF (by
  rcases Nat.lt_or_ge t args.length with hlt |hge
  ·rw[List.getElem?_append_left hlt] at h1
   rw[Array.getElem?_append_left (by simpa [<-ha.1] using hlt)] at h2
   exact ha.2 t v x h1 (by simpa using h2)
  ·rw[List.getElem?_append_right hge,List.getElem?_replicate] at h1
   split at h1
   ·simp at h1;subst h1;exact .any x
   ·cases h1)⟩,rfl⟩
 refine wp_mono (htr H.length ρ S _ w (Nat.le_refl _) dG) ?_
 rintro e' a' w' ⟨rfl,hn,ρ1,S1,jS,hst1⟩
 obtain ⟨u,hu,hr⟩:=Wq hD n1 jS hv;have Ws:∃u' ρ' S',Ending.returned u= .returned u' /\ ak cx.D ρ' S' w' H' /\ Rep cx.D ρ' S' w' r u' /\ Step cx.D H.length ρ S H w ρ' S' H' w':=by
  unfold pack adF at hp;split at hp
  ·rename_i hk
   simp only[Bool.and_eq_true,decide_eq_true_eq] at hk;split at hp
   ·rename_i v' H1 hv' hH'
    simp only[Option.some.injEq,Prod.mk.injEq] at hp;obtain ⟨rfl,rfl⟩:=hp;obtain ⟨s1,s2,s3,s4⟩:=Wp hD jS.heap hn hk.1 hk.2 hH';exact ⟨u,_,S1,rfl,s1,sD hD s3 _ _ u hv' hr,hst1.trans s2⟩
   ·cases hp
  ·cases hp
 cases e with
 |exit i=>exact absurd rfl (hne i)
 |normal=>exact ⟨jS.defers,u,hu,Ws⟩
 |ret=>exact ⟨jS.defers,u,hu,Ws⟩
end Go.V
