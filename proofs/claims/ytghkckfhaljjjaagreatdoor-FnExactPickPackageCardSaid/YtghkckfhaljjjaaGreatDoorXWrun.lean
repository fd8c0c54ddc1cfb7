/-
  A WHOLE FUNCTION.
-/
import Derived.Test.YtghkckfhaljjjaaGreatDoorXWnorm
set_option linter.unusedVariables false
namespace Go.V
open Go
variable {K :dh}{ρ ρ':List Value}{S S':Nat->Prop}{w w':World}{H H':List (Ob K)}
theorem KD{cx:Cx K}(hD:bR cx.D){st:St K}{a:Act}(h0:dC st.tm)(bM:Sat cx ρ S a w st):∀(rs:List ResultVar)(l:List (AV K)),rJ cx st rs=some l->
 ∃vs:List Value,(rs.mapM fun r=>(match r with
  |.tmp t=>pure (a.tmps.getD t undef)
  |.cell p t=>do loadVar t (<-asAddr (a.tmps.getD p undef)):Sem Value)).run cx.P w=.ok vs w/\bh cx.D ρ S w l vs
 |[],l,h=>by
   simp only[rJ,av]at h;subst h;exact⟨[],by simp,.nil⟩
 |.tmp t::r,l,h=>by
   simp only[rJ]at h;split at h
   ·rename_i l1 h1;simp only[av]at h;subst h;obtain⟨vs,q1,q2⟩:=KD hD h0 bM r l1 h1;refine⟨a.tmps.getD t undef::vs,?_,.cons ?_ q2⟩
    ·simp only[List.mapM_cons,Sem.run_bind,Sem.run_pure,Result.andThen_ok];rw[q1];rfl
    ·rw[gn,gu];cases hg:st.tm[t]? with
     |none=>exact .any _
     |some v=>
      obtain⟨x,hx,-⟩:=bM.slots.get hg;rw[hx];exact bM.slots.rep h0 hg hx
   ·cases h
 |.cell p t::r,l,h=>by
   simp only[rJ]at h;split at h
   ·rename_i v l1 hv h1;simp only[av]at h;subst h;obtain⟨vs,q1,q2⟩:=KD hD h0 bM r l1 h1;have hrep:Rep cx.D ρ S w (st.tm.getD p .any) (a.tmps.getD p undef):=by
     rw[gn,gu];cases hg:st.tm[p]? with
     |none=>exact .any _
     |some v=>
      obtain⟨x,hx,-⟩:=bM.slots.get hg;rw[hx];exact bM.slots.rep h0 hg hx
    obtain⟨u,hu,hr⟩:=QF hD bM.heap hv hrep;refine⟨u::vs,?_,.cons hr q2⟩;have hu':(do loadVar t (<-asAddr (a.tmps.getD p undef)):Sem Value).run cx.P w=.ok u w:=by
     generalize a.tmps.getD p undef=X at hu;unfold Instr.loadAt at hu;simp only[Sem.run_bind]at hu⊢;cases X<;>first
      |(simp[Instr.sureAddr,Result.andThen]at hu;done)
      |skip
     rename_i pa;cases pa with
     |none=>simp[Instr.sureAddr,Result.andThen,stuck]at hu
     |some pa=>simpa [Instr.sureAddr,asAddr]using hu
    simp only[List.mapM_cons,Sem.run_bind]at hu'⊢;rw[hu'];simp only[Result.andThen_ok];rw[q1];rfl
   ·cases h
theorem afd{cx:Cx K}(hD:bR cx.D){fn:Func}{st:St K}{a:Act}(h0:dC st.tm)(bM:Sat cx ρ S a w st){v:AV K}(h:resV cx fn st=some v):∃u,(results fn a.tmps).run cx.P w=.ok u w/\Rep cx.D ρ S w v u:=by
 have key:∀l,rJ cx st fn.results.toList=some l->∃vs:List Value,bh cx.D ρ S w l vs/\(results fn a.tmps).run cx.P w=.ok (if h:vs.toArray.size=1 then vs.toArray[0]else .tuple vs.toArray) w:=fun l hl=>by
  obtain⟨vs,q1,q2⟩:=KD hD h0 bM _ l hl;refine⟨vs,q2,?_⟩;unfold results;rw[Array.mapM_eq_mapM_toList];simp only[map_eq_pure_bind,bind_assoc,pure_bind,Sem.run_bind];exact Eq.trans (rB (fun z:Result (List Value)=>z.andThen fun l w'=>Sem.run cx.P (pure (if h:l.toArray.size=1 then l.toArray[0]else Value.tuple l.toArray)) w') q1) rfl
 unfold resV at h;split at h
 ·rename_i v1 hl;simp only[av]at h;subst h;obtain⟨vs,q1,q2⟩:=key _ hl;obtain⟨x,r,rfl,hx,hr⟩:=q1.gp;have:=hr.m9;subst this;exact⟨x,by rw[q2];rfl,oi bM.heap _ _ hx⟩
 ·rename_i l hne hl;simp only[av]at h;subst h;obtain⟨vs,q1,q2⟩:=key _ hl;have q1':=yF bM.heap _ _ q1;refine⟨.tuple vs.toArray,?_,.bC q1'.1 q1'.2⟩;rw[q2,dif_neg];intro h1;have:l.length=1:=by rw[q1.1];simpa using h1
  match l,this with
  |[x],_=>exact hne x rfl
 ·cases h
end Go.V
