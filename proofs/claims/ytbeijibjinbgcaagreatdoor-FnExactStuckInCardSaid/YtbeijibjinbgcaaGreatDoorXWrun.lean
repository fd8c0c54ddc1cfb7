/-
  A WHOLE FUNCTION.
-/
import Derived.Test.YtbeijibjinbgcaaGreatDoorXWnorm
set_option linter.unusedVariables false
namespace Go.V
open Go
variable {K :cA}{ρ ρ':List Value}{S S':Nat->Prop}{w w':World}{H H':List (Ob K)}
theorem JY{cx:Cx K}(hD:bo cx.D){st:St K}{a:Act}(h0:cN st.tm)(bm:Sat cx ρ S a w st):∀(rs:List ResultVar)(l:List (AV K)),pX cx st rs=some l->
 ∃vs:List Value,(rs.mapM fun r=>(match r with
  |.tmp t=>pure (a.tmps.getD t undef)
  |.cell p t=>do loadVar t (<-asAddr (a.tmps.getD p undef)):Sem Value)).run cx.P w=.ok vs w/\aV cx.D ρ S w l vs
 |[],l,h=>by
   simp only[pX,av]at h;subst h;exact⟨[],by simp,.nil⟩
 |.tmp t::r,l,h=>by
   simp only[pX]at h;split at h
   ·rename_i l1 h1;simp only[av]at h;subst h;obtain⟨vs,q1,q2⟩:=JY hD h0 bm r l1 h1;refine⟨a.tmps.getD t undef::vs,?_,.cons ?_ q2⟩
    ·simp only[List.mapM_cons,Sem.run_bind,Sem.run_pure,Result.andThen_ok];rw[q1];rfl
    ·rw[cY,iD];cases hg:st.tm[t]? with
     |none=>exact .any _
     |some v=>
      obtain⟨x,hx,-⟩:=bm.slots.get hg;rw[hx];exact bm.slots.rep h0 hg hx
   ·cases h
 |.cell p t::r,l,h=>by
   simp only[pX]at h;split at h
   ·rename_i v l1 hv h1;simp only[av]at h;subst h;obtain⟨vs,q1,q2⟩:=JY hD h0 bm r l1 h1;have hrep:Rep cx.D ρ S w (st.tm.getD p .any) (a.tmps.getD p undef):=by
     rw[cY,iD];cases hg:st.tm[p]? with
     |none=>exact .any _
     |some v=>
      obtain⟨x,hx,-⟩:=bm.slots.get hg;rw[hx];exact bm.slots.rep h0 hg hx
    obtain⟨u,hu,hr⟩:=Xy hD bm.heap hv hrep;refine⟨u::vs,?_,.cons hr q2⟩;have hu':(do loadVar t (<-asAddr (a.tmps.getD p undef)):Sem Value).run cx.P w=.ok u w:=by
     generalize a.tmps.getD p undef=X at hu;unfold Instr.loadAt at hu;simp only[Sem.run_bind]at hu⊢;cases X<;>first
      |(simp[Instr.sureAddr,Result.andThen]at hu;done)
      |skip
     rename_i pa;cases pa with
     |none=>simp[Instr.sureAddr,Result.andThen,stuck]at hu
     |some pa=>simpa [Instr.sureAddr,asAddr]using hu
    simp only[List.mapM_cons,Sem.run_bind]at hu'⊢;rw[hu'];simp only[Result.andThen_ok];rw[q1];rfl
   ·cases h
theorem aku{cx:Cx K}(hD:bo cx.D){fn:Func}{st:St K}{a:Act}(h0:cN st.tm)(bm:Sat cx ρ S a w st){v:AV K}(h:resV cx fn st=some v):∃u,(results fn a.tmps).run cx.P w=.ok u w/\Rep cx.D ρ S w v u:=by
 have key:∀l,pX cx st fn.results.toList=some l->∃vs:List Value,aV cx.D ρ S w l vs/\(results fn a.tmps).run cx.P w=.ok (if h:vs.toArray.size=1 then vs.toArray[0]else .tuple vs.toArray) w:=fun l hl=>by
  obtain⟨vs,q1,q2⟩:=JY hD h0 bm _ l hl;refine⟨vs,q2,?_⟩;unfold results;rw[Array.mapM_eq_mapM_toList];simp only[map_eq_pure_bind,bind_assoc,pure_bind,Sem.run_bind];exact Eq.trans (fF (fun z:Result (List Value)=>z.andThen fun l w'=>Sem.run cx.P (pure (if h:l.toArray.size=1 then l.toArray[0]else Value.tuple l.toArray)) w') q1) rfl
 unfold resV at h;split at h
 ·rename_i v1 hl;simp only[av]at h;subst h;obtain⟨vs,q1,q2⟩:=key _ hl;obtain⟨x,r,rfl,hx,hr⟩:=q1.gB;have:=hr.nS;subst this;exact⟨x,by rw[q2];rfl,ml bm.heap _ _ hx⟩
 ·rename_i l hne hl;simp only[av]at h;subst h;obtain⟨vs,q1,q2⟩:=key _ hl;have q1':=yH bm.heap _ _ q1;refine⟨.tuple vs.toArray,?_,.bu q1'.1 q1'.2⟩;rw[q2,dif_neg];intro h1;have:l.length=1:=by rw[q1.1];simpa using h1
  match l,this with
  |[x],_=>exact hne x rfl
 ·cases h
end Go.V
