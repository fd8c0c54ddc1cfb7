/-
  NEW NUMBERS FOR THE OBJECTS.
-/
import Derived.Test.YtdehjkmaaljlpaaGreatDoorXWgC
import Derived.Test.YtdehjkmaaljlpaaGreatDoorXWgA
import Derived.Lib.ItoaNum
import Derived.Lib.Space
set_option linter.unusedVariables false
namespace Go.V
open Go
variable {K :db}{ρ ρ':List Value}{S S':Nat->Prop}{w w':World}{H H':List (Ob K)}
theorem amk{α β:Type}{f:α->Option β}:∀(l:List α)(l':List β),xz f l=some l'->l'.length=l.length/\∀(i:Nat) y,l'[i]?=some y->∃x,l[i]?=some x/\f x=some y
 |[],l',h=>by simp[xz]at h;subst h;simp
 |x::l,l',h=>by
  simp only[xz]at h;split at h
  ·rename_i y m h1 h2;simp only[aD]at h;subst h;obtain⟨g1,g2⟩:=amk l m h2;refine⟨by simp[g1],fun i z hi=>?_⟩;cases i with
   |zero=>simp at hi;subst hi;exact⟨x,rfl,h1⟩
   |succ i=>simp at hi;obtain⟨v,q1,q2⟩:=g2 i z hi;exact⟨v,by simpa using q1,q2⟩
  ·cases h
theorem Su{n0 n:Nat}:∀(src:List (Option Nat))(k:Nat),uj n0 n k src=true->
 (∀i:Nat,src[i]?=some none->k+i<n0)/\(∀(i h:Nat),src[i]?=some (some h)->h<n/\(k+i<n0->h=k+i))/\∀(i j h:Nat),src[i]?=some (some h)->src[j]?=some (some h)->i=j
 |[],k,h=>⟨fun i hi=>by simp at hi,fun i h hi=>by simp at hi,fun i j h hi=>by simp at hi⟩
 |none::r,k,h=>by
  simp only[uj,bC,bq]at h;obtain⟨a,b,c⟩:=Su r (k+1) h.2;refine⟨fun i hi=>?_,fun i g hi=>?_,fun i j g hi hj=>?_⟩
  ·cases i with
   |zero=>exact h.1
   |succ i=>have:=a i (by simpa using hi);omega
  ·cases i with
   |zero=>simp at hi
   |succ i=>have:=b i g (by simpa using hi);exact⟨this.1,fun hh=>by have:=this.2 (by omega);omega⟩
  ·cases i with
   |zero=>simp at hi
   |succ i=>
    cases j with
    |zero=>simp at hj
    |succ j=>rw[c i j g (by simpa using hi) (by simpa using hj)]
 |some g0::r,k,h=>by
  simp only[uj,bC,eC,bq,eL,zX,dR]at h;obtain⟨h1,h2,h3,h4⟩:=h;obtain⟨a,b,c⟩:=Su r (k+1) h4;refine⟨fun i hi=>?_,fun i g hi=>?_,fun i j g hi hj=>?_⟩
  ·cases i with
   |zero=>simp at hi
   |succ i=>have:=a i (by simpa using hi);omega
  ·cases i with
   |zero=>simp at hi;subst hi;exact⟨h1,fun hh=>by omega⟩
   |succ i=>have:=b i g (by simpa using hi);exact⟨this.1,fun hh=>by have:=this.2 (by omega);omega⟩
  ·cases i with
   |zero=>
    simp at hi;subst hi;cases j with
    |zero=>rfl
    |succ j=>exact absurd (gG (by simpa using hj)) h3
   |succ i=>
    cases j with
    |zero=>simp at hj;subst hj;exact absurd (gG (by simpa using hi)) h3
    |succ j=>rw[c i j g (by simpa using hi) (by simpa using hj)]
theorem aEq{src:List (Option Nat)}{h i:Nat}(hi:ui src h=some i):src[i]?=some (some h):=by
 unfold ui at hi;rw[List.idxOf?_eq_some_iff]at hi;obtain⟨hlt,he,-⟩:=hi;rw[ct hlt];simpa using he
def jX(ρ:List Value):Nat->List (Option Nat)->List Value
 |_,[]=>[]
 |i,none::r=>ρ.getD i undef::jX ρ (i+1) r
 |i,some h::r=>ρ.getD h undef::jX ρ (i+1) r
theorem L9{ρ:List Value}:∀(src:List (Option Nat))(k i:Nat)(x:Option Nat),src[i]?=some x->(jX ρ k src)[i]?=some (ρ.getD (x.getD (k+i)) undef)
 |[],k,i,x,h=>by simp at h
 |none::r,k,0,x,h=>by simp at h;subst h;simp[jX]
 |some h0::r,k,0,x,h=>by simp at h;subst h;simp[jX]
 |none::r,k,i+1,x,h=>by
  simp only[jX,List.getElem?_cons_succ];rw[L9 r (k+1) i x (by simpa using h),jY,Ff 1 i]
 |some h0::r,k,i+1,x,h=>by
  simp only[jX,List.getElem?_cons_succ];rw[L9 r (k+1) i x (by simpa using h),jY,Ff 1 i]
theorem Sv{ρ:List Value}:∀(src:List (Option Nat))(k:Nat),(jX ρ k src).length=src.length
 |[],k=>rfl
 |none::r,k=>by simp[jX,Sv r]
 |some h0::r,k=>by simp[jX,Sv r]
theorem aml{D:bP K}(hD:bW D)(hs:aY D ρ S w H){n0:Nat}(hn:n0<=H.length){src:List (Option Nat)}(hk:uj n0 H.length 0 src=true)(hl:n0<=src.length)(hm:xz (xA src H) src=some H'):
 aY D (jX ρ 0 src) S w H'/\Step D n0 ρ S H w (jX ρ 0 src) S H' w/\Ren (ui src) ρ (jX ρ 0 src)/\n0<=H'.length:=by
 obtain⟨k1,k2,k3⟩:=Su src 0 hk;obtain⟨m1,m2⟩:=amk _ _ hm;have hlen:=hs.len;have Sz:∀{h:Nat},h<H.length->some (ρ.getD h undef)=ρ[h]?:=fun{h} hh=>by
  rw[dG,ct (show h<ρ.length by omega)];rfl
 have hsub:∀(i h:Nat),src[i]?=some (some h)->(jX ρ 0 src)[i]?=ρ[h]?:=fun i h hi=>by
  rw[L9 src 0 i _ hi];exact Sz (k2 i h hi).1
 have rz:Ren (ui src) ρ (jX ρ 0 src):=fun i j r hij hr=>by rw[hsub j i (aEq hij)];exact hr
 have hsrc:∀{i:Nat}{o:Ob K},H'[i]?=some o->o.live=true->∃h o0,src[i]?=some (some h)/\H[h]?=some o0/\kD (ui src) o0=some o:=fun{i o} ho hlive=>by
  obtain⟨x,q1,q2⟩:=m2 i o ho;cases x with
  |none=>simp only[xA,aD]at q2;subst q2;simp[Ob.live]at hlive
  |some h=>
   simp only[xA]at q2;split at q2
   ·rename_i o0 ho0;exact⟨h,o0,q1,ho0,q2⟩
   ·cases q2
 have hown:∀b,Own D w (jX ρ 0 src) H' b->Own D w ρ H b:=fun b ⟨i,o,r,h1,h2,h3,h4⟩=>by
  obtain⟨h,o0,e1,e2,e3⟩:=hsrc h1 h2;rw[hsub i h e1]at h3;exact⟨h,o0,r,e2,by rw[<-my e3];exact h2,h3,(nM e3).1 h4⟩
 refine⟨⟨by rw[Sv,m1],fun i o r h1 h2=>?_,fun i j o o' r r' b h1 h2 h3 h4 g1 g2 g3 g4=>?_,fun b hb=>hs.lt b (hown b hb),hs.slt,hs.base⟩,⟨rfl,rfl,rfl,bY _,fun _ _ _=>rfl,fun b hb=>.inl (hown b hb),fun _ h=>h,fun _ h=>.inl h,fun i hi=>?_⟩,rz,by rw[m1];exact hl⟩
 ·obtain⟨x,q1,q2⟩:=m2 i o h1;cases x with
  |none=>simp only[xA,aD]at q2;subst q2;trivial
  |some h=>
   simp only[xA]at q2;split at q2
   ·rename_i o0 ho0;rw[hsub i h q1]at h2;exact Q3 hD rz q2 (hs.ob h o0 r ho0 h2)
   ·cases q2
 ·obtain⟨h,o0,e1,e2,e3⟩:=hsrc h1 h2;obtain⟨h',Rb,c1,c2,c3⟩:=hsrc g1 g2;rw[hsub i h e1]at h3;rw[hsub j h' c1]at g3;have:=hs.eX h h' o0 Rb r r' b e2 (by rw[<-my e3];exact h2) h3 ((nM e3).1 h4) c2 (by rw[<-my c3];exact g2) g3 ((nM c3).1 g4);subst this;exact k3 i j h e1 c1
 ·have hi':i<src.length:=by omega
  have hg:=ct hi';rw[L9 src 0 i _ hg];cases hx:src[i]with
  |none=>rw[Option.getD_none,dI];exact Sz (by omega)
  |some h=>
   rw[hx]at hg;have:=(k2 i h hg).2 (by omega);rw[aV,this,dI];exact Sz (by omega)
def Goes(cx:Cx K)(n0:Nat)(st st':St K):Prop:=
 ∀(ρ:List Value)(S:Nat->Prop)(a:Act)(w:World),n0<=st.H.length->Sat cx ρ S a w st->n0<=st'.H.length/\∃ρ' S',Sat cx ρ' S' a w st'/\Step cx.D n0 ρ S st.H w ρ' S' st'.H w
theorem Goes.trans{cx:Cx K}{n0:Nat}{st st1 st2:St K}(a:Goes cx n0 st st1)(b:Goes cx n0 st1 st2):Goes cx n0 st st2:=fun ρ S a' w hn bS=>by
 obtain⟨h1,ρ1,S1,q1,q2⟩:=a ρ S a' w hn bS;obtain⟨h2,ρ2,S2,q3,q4⟩:=b ρ1 S1 a' w h1 q1;exact⟨h2,ρ2,S2,q3,q2.trans q4⟩
theorem Mc{cx:Cx K}(hD:bW cx.D){n0:Nat}{src:List (Option Nat)}{keep:List Nat}{st st':St K}(h:rq n0 src keep st=some st'):st'.ok=st.ok/\dy st'.tm/\(dy st.tm->Goes cx n0 st st'):=by
 unfold rq at h;split at h
 ·rename_i hk;simp only[bC,bq]at hk;split at h
  ·rename_i vs H' hv hm;simp only[aD]at h;subst h;refine⟨rfl,ami hv,fun h0 ρ S a w hn bS=>?_⟩;obtain⟨s1,s2,s3,s4⟩:=aml hD bS.heap hn hk.1 hk.2 hm;refine⟨s4,_,S,⟨s1,Ss bS.slots.len.symm fun i t v x g1 g2 g3=>?_,bS.defers⟩,s2⟩;obtain⟨v0,q1,q2⟩:=(xN _ _ hv).2 i v g2;simp only[f5,g1,pM,aD]at q1;subst q1;refine uw hD s3 _ v x q2 ?_;rw[dG];cases hg:st.tm[t]? with
   |none=>exact .any x
   |some v1=>exact bS.slots.rep h0 hg g3
  ·cases h
 ·cases h
end Go.V
namespace Go.V
open Go
variable {K :db}{ρ ρ':List Value}{S S':Nat->Prop}{w w':World}{H H':List (Ob K)}
theorem SA{cx:Cx K}(hD:bW cx.D){st:St K}{a:Act}(h0:dy st.tm)(bS:Sat cx ρ S a w st):∀(rs:List ResultVar)(l:List (AV K)),uh cx st rs=some l->
 ∃vs:List Value,(rs.mapM fun r=>(match r with
  |.tmp t=>pure (a.tmps.getD t undef)
  |.cell p t=>do loadVar t (<-asAddr (a.tmps.getD p undef)):Sem Value)).run cx.P w=.ok vs w/\bE cx.D ρ S w l vs
 |[],l,h=>by
   simp only[uh,aD]at h;subst h;exact⟨[],by simp,.nil⟩
 |.tmp t::r,l,h=>by
   simp only[uh]at h;split at h
   ·rename_i l1 h1;simp only[aD]at h;subst h;obtain⟨vs,q1,q2⟩:=SA hD h0 bS r l1 h1;refine⟨a.tmps.getD t undef::vs,?_,.cons ?_ q2⟩
    ·simp only[List.mapM_cons,Sem.run_bind,Sem.run_pure,Result.andThen_ok];rw[q1];rfl
    ·rw[dG,nD];cases hg:st.tm[t]? with
     |none=>exact .any _
     |some v=>
      obtain⟨x,hx,-⟩:=bS.slots.get hg;rw[hx];exact bS.slots.rep h0 hg hx
   ·cases h
 |.cell p t::r,l,h=>by
   simp only[uh]at h;split at h
   ·rename_i v l1 hv h1;simp only[aD]at h;subst h;obtain⟨vs,q1,q2⟩:=SA hD h0 bS r l1 h1;have hrep:Rep cx.D ρ S w (st.tm.getD p .any) (a.tmps.getD p undef):=by
     rw[dG,nD];cases hg:st.tm[p]? with
     |none=>exact .any _
     |some v=>
      obtain⟨x,hx,-⟩:=bS.slots.get hg;rw[hx];exact bS.slots.rep h0 hg hx
    obtain⟨u,hu,hr⟩:=aky hD bS.heap hv hrep;refine⟨u::vs,?_,.cons hr q2⟩;have hu':(do loadVar t (<-asAddr (a.tmps.getD p undef)):Sem Value).run cx.P w=.ok u w:=by
     generalize a.tmps.getD p undef=X at hu;unfold Instr.loadAt at hu;simp only[Sem.run_bind]at hu⊢;cases X<;>first
      |(simp[Instr.sureAddr,Result.andThen]at hu;done)
      |skip
     rename_i pa;cases pa with
     |none=>simp[Instr.sureAddr,Result.andThen,stuck]at hu
     |some pa=>simpa [Instr.sureAddr,asAddr]using hu
    simp only[List.mapM_cons,Sem.run_bind]at hu'⊢;rw[hu'];simp only[Result.andThen_ok];rw[q1];rfl
   ·cases h
theorem aEr{cx:Cx K}(hD:bW cx.D){fn:Func}{st:St K}{a:Act}(h0:dy st.tm)(bS:Sat cx ρ S a w st){v:AV K}(h:resV cx fn st=some v):∃u,(results fn a.tmps).run cx.P w=.ok u w/\Rep cx.D ρ S w v u:=by
 have key:∀l,uh cx st fn.results.toList=some l->∃vs:List Value,bE cx.D ρ S w l vs/\(results fn a.tmps).run cx.P w=.ok (if h:vs.toArray.size=1 then vs.toArray[0]else .tuple vs.toArray) w:=fun l hl=>by
  obtain⟨vs,q1,q2⟩:=SA hD h0 bS _ l hl;refine⟨vs,q2,?_⟩;unfold results;rw[Array.mapM_eq_mapM_toList];simp only[map_eq_pure_bind,bind_assoc,pure_bind,Sem.run_bind];exact Eq.trans (wH (fun z:Result (List Value)=>z.andThen fun l w'=>Sem.run cx.P (pure (if h:l.toArray.size=1 then l.toArray[0]else Value.tuple l.toArray)) w') q1) rfl
 unfold resV at h;split at h
 ·rename_i v1 hl;simp only[aD]at h;subst h;obtain⟨vs,q1,q2⟩:=key _ hl;obtain⟨x,r,rfl,hx,hr⟩:=q1.fE;have:=hr.lS;subst this;exact⟨x,by rw[q2];rfl,pZ bS.heap _ _ hx⟩
 ·rename_i l hne hl;simp only[aD]at h;subst h;obtain⟨vs,q1,q2⟩:=key _ hl;have q1':=FM bS.heap _ _ q1;refine⟨.tuple vs.toArray,?_,.bU q1'.1 q1'.2⟩;rw[q2,uD];intro h1;have:l.length=1:=by rw[q1.1];simpa using h1
  match l,this with
  |[x],_=>exact hne x rfl
 ·cases h
end Go.V
namespace Go.V
open Go
variable {K :db}{ρ ρ':List Value}{S S':Nat->Prop}{w w':World}{H H':List (Ob K)}
inductive qc (X Y:Type):Type 1 where
 |nx (x:X)
 |out (y:Y)
 |bad
 |br (b:Bool) (l r:qc X Y)
 |sum {A B:Type} (s:A⊕B) (f:A->qc X Y) (g:B->qc X Y)
noncomputable def qc.elim{X Y R:Type}(t:qc X Y)(nx:X->R)(out:Y->R)(bad:R):R:=
 qc.rec (motive:=fun _=>R) nx out bad (fun b _ _ l r=>cond b l r) (fun s _ _ f g=>Sum.rec (motive:=fun _=>R) f g s) t
theorem qc.cases{X Y:Type}(t:qc X Y):(∃x,∀(R:Type) nx out bad,t.elim (R:=R) nx out bad=nx x)\/(∃y,∀(R:Type) nx out bad,t.elim (R:=R) nx out bad=out y)\/∀(R:Type) nx out bad,t.elim (R:=R) nx out bad=bad:=by
 induction t with
 |nx x=>exact .inl ⟨x,fun _ _ _ _=>rfl⟩
 |out y=>exact .inr (.inl ⟨y,fun _ _ _ _=>rfl⟩)
 |bad=>exact .inr (.inr fun _ _ _ _=>rfl)
 |br b l r ihl ihr=>cases b;exact ihr;exact ihl
 |sum s f g ihf ihg=>
  cases s with
  |inl a=>exact ihf a
  |inr b=>exact ihg b
noncomputable def iter{X Y:Type}(step:X->qc X Y):Nat->X->Option Y
 |0,_=>none
 |n+1,x=>(step x).elim (iter step n) some none
structure l7 (K:db) (X Y:Type) where
 n:Nat
 n0:Nat
 ins:List Nat
 outs:List Nat
 start:List (AV K)->List (Ob K)->Option X
 vals:X->List (AV K)
 aEu:X->List (Ob K)
 step:X->qc X Y
 chk:X->Bool
 fin:X->Y
 out:Y->{R:Type}->(Ex->List (AV K)->List (Ob K)->R)->R
variable {X Y:Type}
def l7.st(M:l7 K X Y)(x:X):St K:=⟨ee (List.replicate M.n .any) M.ins (M.vals x),M.aEu x,true⟩
def l7.fst(M:l7 K X Y)(y:Y):Ex×St K:=M.out y fun e vs Ho=>(e,⟨ee (List.replicate M.n .any) M.outs vs,Ho,true⟩)
def l7.toD(M:l7 K X Y):bo K:={
 n:=M.n
 ins:=M.ins
 outs:=M.outs
 run vs H k:=match M.start vs H with
  |some x=>cond (M.chk x) (M.out (M.fin x) k) none
  |none=>none}
noncomputable def l7.tree(M:l7 K X Y)(x:X):Option (St K⊕Ex×St K):=(M.step x).elim (fun x'=>some (.inl (M.st x'))) (fun y=>some (.inr (M.fst y))) none
theorem amn{cx:Cx K}(hD:bW cx.D){s s1:St K}(h:uk cx s=some (true,s1)):s1.tm=s.tm/\s1.ok=s.ok/\s1.H.length=s.H.length/\∀(n0:Nat)(ρ:List Value)(S:Nat->Prop)(a:Act)(w:World),Sat cx ρ S a w s->Sat cx ρ S a w s1/\Step cx.D n0 ρ S s.H w ρ S s1.H w:=by
 unfold uk at h;split at h
 ·simp only[aD,bj,wF]at h;subst h;exact⟨rfl,rfl,rfl,fun n0 ρ S a w hs=>⟨hs,Step.refl⟩⟩
 ·split at h
  ·rename_i H' b t hsh;simp only[aD,bj]at h;obtain⟨rfl,rfl⟩:=h;have hl:H'.length=s.H.length:=by
    unfold shut at hsh;split at hsh
    ·simp only[aD,bj]at hsh;rw[<-hsh.1]
    ·cases hsh
   refine⟨rfl,rfl,hl,fun n0 ρ S a w hs=>?_⟩;obtain⟨g1,g2,-⟩:=alq (n0:=n0) hD hs.heap hsh;exact⟨⟨g1,hs.slots,hs.defers⟩,g2⟩
  ·cases h
theorem amo{cx:Cx K}(hD:bW cx.D)(hc:aJ cx)(hm:cx.P.follows .mixedOrders=true){c:Code}(hl:gW cx c){n0:Nat}{keep outs:List Nat}{st:St K}{r:St K⊕Ex×St K}(h:Lq cx n0 keep outs c st=some r)(h0:dy st.tm):
 st.ok=true/\match r with
   |.inl st'=>dy st'.tm/\Tr cx n0 c st .normal st'
   |.inr (e,st')=>e≠.normal/\Tr cx n0 c st e st':=by
 unfold Lq at h;obtain⟨e,s,h1,h2,h3⟩:=qb hD hc hm c hl _ _ _ h;cases hok:s.ok with
 |false=>rw[hok]at h1;cases h1
 |true=>
  rw[hok]at h1;simp only[aA]at h1;obtain⟨n1,htr⟩:=h3 hok h0;refine⟨h2 hok,?_⟩;have key:∀keep' s1 s',uk cx s=some (true,s1)->xB n0 keep' s1=some s'->dy s'.tm/\Tr cx n0 c st e s':=fun keep' s1 s' hcl hn=>by
   obtain⟨g1,g2⟩:dy s'.tm/\(dy s1.tm->Goes cx n0 s1 s'):=(Mc (cx:=cx) hD hn).2;obtain⟨c1,c2,c3,c4⟩:=amn hD hcl;refine⟨g1,fun ρ S a w hn0 bS=>wp_mono (htr n0 ρ S a w hn0 bS) ?_⟩
   rintro e' a' w' ⟨he,hn1,ρ1,S1,fh,hst1⟩
   obtain⟨aEv,aEw⟩:=c4 n0 ρ1 S1 a' w' fh;obtain⟨hn2,ρ2,S2,Gg,hst2⟩:=g2 (by rw[c1];exact n1) ρ1 S1 a' w' (by rw[c3];exact hn1) aEv;exact⟨he,hn2,ρ2,S2,Gg,(hst1.trans aEw).trans hst2⟩
  cases e with
  |normal=>
   dsimp only at h1;split at h1
   ·rename_i b s1 hcl;cases b with
    |false=>cases h1
    |true=>
    simp only[aA]at h1;split at h1
    ·rename_i s' hn;simp only[aD]at h1;subst h1;exact key _ _ _ hcl hn
    ·cases h1
   ·cases h1
  |exit id=>
   dsimp only at h1;split at h1
   ·rename_i b s1 hcl;cases b with
    |false=>cases h1
    |true=>
    simp only[aA]at h1;split at h1
    ·rename_i s' hn;simp only[aD]at h1;subst h1;exact⟨by simp,(key _ _ _ hcl hn).2⟩
    ·cases h1
   ·cases h1
  |ret=>
   dsimp only at h1;split at h1
   ·rename_i b s1 hcl;cases b with
    |false=>cases h1
    |true=>
    simp only[aA]at h1;split at h1
    ·rename_i s' hn;simp only[aD]at h1;subst h1;exact⟨by simp,(key _ _ _ hcl hn).2⟩
    ·cases h1
   ·cases h1
theorem amq{cx:Cx K}(hD:bW cx.D)(hc:aJ cx)(hm:cx.P.follows .mixedOrders=true){c:Code}(hl:gW cx c){M:l7 K X Y}(hr:∀x,Lq cx M.n0 M.ins M.outs c (M.st x)=M.tree x){ρ0:List Value}{S0:Nat->Prop}{H0:List (Ob K)}{w0:World}{y:Y}:
 ∀(n:Nat)(x:X),iter M.step n x=some y->dy (M.st x).tm->∀(ρ:List Value)(S:Nat->Prop)(a:Act)(w:World),M.n0<=(M.st x).H.length->Sat cx ρ S a w (M.st x)->Step cx.D M.n0 ρ0 S0 H0 w0 ρ S (M.st x).H w->
  Code.rounds cx.P c (fun e' a' w'=>e'=(M.fst y).1.nE/\M.n0<=(M.fst y).2.H.length/\∃ρ' S',Sat cx ρ' S' a' w' (M.fst y).2/\Step cx.D M.n0 ρ0 S0 H0 w0 ρ' S' (M.fst y).2.H w') n a w
 |0,x,h,_,_,_,_,_,_,_,_=>by simp[iter]at h
 |n+1,x,h,h0,ρ,S,a,w,hn,bS,hst=>by
  have hrx:=hr x;rw[rounds_succ];simp only[iter]at h;unfold l7.tree at hrx;rcases(M.step x).cases with⟨x',hx⟩|⟨y',hy⟩|hb
  ·rw[hx]at h hrx;obtain⟨-,n1,htr⟩:=amo hD hc hm hl hrx h0;refine wp_mono (htr ρ S a w hn bS) ?_
   rintro e' a' w' ⟨rfl,hn1,ρ1,S1,fh,hst1⟩
   exact amq hD hc hm hl hr n x' h n1 ρ1 S1 a' w' hn1 fh (hst.trans hst1)
  ·rw[hy]at h hrx;simp only[aD]at h;subst h;obtain⟨-,hne,htr⟩:=amo hD hc hm hl hrx h0;refine wp_mono (htr ρ S a w hn bS) ?_
   rintro e' a' w' ⟨rfl,hn1,ρ1,S1,fh,hst1⟩
   have:∀(e:Ex),e≠.normal->∀(N:Act->World->Prop)(Q:Exit->Act->World->Prop),Q e.nE a' w'->Exit.then N Q e.nE a' w':=fun e he N Q hq=>by
    cases e with
    |normal=>exact absurd rfl he
    |exit id=>exact hq
    |ret=>exact hq
   exact this _ hne _ _ ⟨rfl,hn1,ρ1,S1,fh,hst.trans hst1⟩
  ·rw[hb]at h;cases h
theorem l7.ok{cx:Cx K}(hD:bW cx.D)(hc:aJ cx)(hm:cx.P.follows .mixedOrders=true){c:Code}(hl:gW cx c)(M:l7 K X Y)(hr:∀x,Lq cx M.n0 M.ins M.outs c (M.st x)=M.tree x)
 (hs:∀vs Hi x,M.start vs Hi=some x->Hi.length=M.n0/\Goes cx M.n0 ⟨ee (List.replicate M.n .any) M.ins vs,Hi,true⟩ (M.st x)) (hno:∀x,(M.vals x).all (fun v=> !v.jh)=true)
 (hf:∀x,M.chk x=true->∃n,iter M.step n x=some (M.fin x)) (ho:∀y,∃e vs Ho,∀(R:Type)(k:Ex->List (AV K)->List (Ob K)->R),M.out y k=k e vs Ho):bn cx c M.toD:=by
 intro vals Hi R k r h;simp only[l7.toD]at h;split at h
 ·rename_i x hx;cases SB:M.chk x with
  |false=>rw[SB]at h;cases h
  |true=>
   rw[SB]at h;simp only[aA]at h;obtain⟨n,hn⟩:=hf x SB;obtain⟨e,vs,Ho,hout⟩:=ho (M.fin x);rw[hout]at h;refine⟨e,vs,Ho,h,?_⟩;obtain⟨hlen,hgo⟩:=hs vals Hi x hx;have aEx:M.fst (M.fin x)=(e,⟨ee (List.replicate M.n .any) M.outs vs,Ho,true⟩):=hout _ _;have h0:dy (M.st x).tm:=fun t g b v e=>by
    rcases AH M.ins (M.vals x) _ t _ e with h1|⟨i,-,h2⟩
    ·rw[mo]at h1;split at h1<;>cases h1
    ·have:=dz.1 (hno x) _ (gG h2);simp[AV.jh]at this
   intro ρ S a w hn0 bS;rw[hlen]at hn0⊢;obtain⟨hn1,ρ1,S1,fh,hst1⟩:=hgo ρ S a w (by show M.n0<=Hi.length;omega) bS;have:=amq hD hc hm hl hr n x hn h0 ρ1 S1 a w hn1 fh hst1;rw[aEx]at this;exact wp_loop_rounds n this
 ·cases h
end Go.V
namespace Go.V
open Go
variable {K :db}{D:bP K}{ρ ρ':List Value}{S S':Nat->Prop}{w w':World}{H H':List (Ob K)}
inductive Sh (K:db) where
 |any
 |int (k:IntKind)
 |bool
 |str
 |ah (c:K.U)
 |el (c:K.U)
 |rp (c:K.U) (off:Nat)
 |dt
 |dj
 |ptr (h off:Nat)
 |own (h:Nat)
 |fn (g:Nat) (caps:List (Sh K))
 |agg (l:List (Sh K))
 |bU (l:List (Sh K))
 |np (h:Nat)
 |ep (h:Nat) (c:K.U) (off:Nat)
inductive bh (K:db) where
 |dead
 |box (l:List (Sh K))
 |el (c:K.U)
 |arr (c:K.U)
 |gp (c:K.U)
 |tree (c:K.U)
mutual
def Sh.T:Sh K->Type
 |.int _=>Int
 |.bool=>Bool
 |.str=>List UInt8
 |.ah c=>List (K.El c)
 |.el c=>K.El c
 |.rp c _=>K.El c
 |.ep _ _ _=>Nat
 |.fn _ l=>Sh.Ts l
 |.agg l=>Sh.Ts l
 |.bU l=>Sh.Ts l
 |_=>Unit
def Sh.Ts:List (Sh K)->Type
 |[]=>Unit
 |s::r=>Sh.T s×Sh.Ts r
end
def bh.T:bh K->Type
 |.dead=>Unit
 |.box l=>Sh.Ts l
 |.el c=>K.El c
 |.arr c=>List (K.El c)
 |.gp c=>List (K.El c)
 |.tree c=>List (K.El c)
def bh.Ts:List (bh K)->Type
 |[]=>Unit
 |s::r=>bh.T s×bh.Ts r
mutual
def Sh.enc(D:bP K):(s:Sh K)->s.T->AV K
 |.any,_=>.any
 |.int k,n=>.int k n
 |.bool,b=>.bool b
 |.str,s=>.str s
 |.ah c,l=>.ah c l
 |.el c,x=>.agg (D.cells c x)
 |.rp c o,x=>.rp c x o
 |.dt,_=>.dt
 |.dj,_=>.dj
 |.ptr h o,_=>.ptr h o
 |.own h,_=>.sl h
 |.np h,_=>.np h
 |.ep h c o,i=>.ep h (K.sz c) i o
 |.fn g l,x=>.fn g (Sh.encs D l x)
 |.agg l,x=>.agg (Sh.encs D l x)
 |.bU l,x=>.bU (Sh.encs D l x)
def Sh.encs(D:bP K):(l:List (Sh K))->Sh.Ts l->List (AV K)
 |[],_=>[]
 |s::r,x=>Sh.enc D s x.1::Sh.encs D r x.2
end
def bh.enc(D:bP K):(s:bh K)->s.T->Ob K
 |.dead,_=>.dead
 |.box l,x=>.box (Sh.encs D l x)
 |.el c,x=>.box (D.cells c x)
 |.arr c,x=>.arr c x
 |.gp c,x=>.gp c x
 |.tree c,x=>.tree c x
def bh.encs(D:bP K):(l:List (bh K))->bh.Ts l->List (Ob K)
 |[],_=>[]
 |s::r,x=>bh.enc D s x.1::bh.encs D r x.2
def AV.getInt(k:IntKind):AV K->Option Int
 |.int k' n=>if k=k' then some n else none
 |_=>none
def AV.getBool:AV K->Option Bool
 |.bool b=>some b
 |_=>none
def AV.SC:AV K->Option (List UInt8)
 |.str s=>some s
 |_=>none
def AV.Md:AV K->Option (List (AV K))
 |.agg l=>some l
 |_=>none
def AV.SD:AV K->Option (List (AV K))
 |.bU l=>some l
 |_=>none
def AV.getFn(g:Nat):AV K->Option (List (AV K))
 |.fn g' l=>if g=g' then some l else none
 |_=>none
def AV.SE(c:K.U)(o:Nat):AV K->Option (K.El c)
 |.rp c' x o'=>if o=o' then match K.jR c' c with
   |.isTrue h=>some (h ▸ x)
   |.isFalse _=>none else none
 |_=>none
def AV.SG:AV K->Option Unit
 |.dt=>some ()
 |_=>none
def AV.SH:AV K->Option Unit
 |.dj=>some ()
 |_=>none
def AV.SI(h o:Nat):AV K->Option Unit
 |.ptr h' o'=>if h=h' then if o=o' then some ()else none else none
 |_=>none
def AV.SJ(h:Nat):AV K->Option Unit
 |.sl h'=>if h=h' then some ()else none
 |_=>none
def AV.SK(h:Nat):AV K->Option Unit
 |.np h'=>if h=h' then some ()else none
 |_=>none
def AV.SL(h:Nat)(c:K.U)(o:Nat):AV K->Option Nat
 |.ep h' st i o'=>if h=h' then if K.sz c=st then if o=o' then some i else none else none else none
 |_=>none
theorem AV.aEy{h:Nat}{c:K.U}{o:Nat}{v:AV K}{n:Nat}(hh:v.SL h c o=some n):v=.ep h (K.sz c) n o:=by
 unfold AV.SL at hh;split at hh
 ·split at hh
  ·split at hh
   ·split at hh
    ·rename_i h1 h2 h3;subst h1;subst h2;subst h3;simp only[aD]at hh;subst hh;rfl
    ·cases hh
   ·cases hh
  ·cases hh
 ·cases hh
theorem AV.SN{k:IntKind}{v:AV K}{n:Int}(h:v.getInt k=some n):v=.int k n:=by
 unfold AV.getInt at h;split at h
 ·split at h
  ·rename_i hk;subst hk;simp only[aD]at h;subst h;rfl
  ·cases h
 ·cases h
theorem AV.SO{v:AV K}{n:Bool}(h:v.getBool=some n):v=.bool n:=by
 unfold AV.getBool at h;split at h
 ·simp only[aD]at h;subst h;rfl
 ·cases h
theorem AV.SQ{v:AV K}{n:List UInt8}(h:v.SC=some n):v=.str n:=by
 unfold AV.SC at h;split at h
 ·simp only[aD]at h;subst h;rfl
 ·cases h
theorem AV.amr{v:AV K}{n:List (AV K)}(h:v.Md=some n):v=.agg n:=by
 unfold AV.Md at h;split at h
 ·simp only[aD]at h;subst h;rfl
 ·cases h
theorem AV.aEz{v:AV K}{n:List (AV K)}(h:v.SD=some n):v=.bU n:=by
 unfold AV.SD at h;split at h
 ·simp only[aD]at h;subst h;rfl
 ·cases h
theorem AV.aEA{g:Nat}{v:AV K}{n:List (AV K)}(h:v.getFn g=some n):v=.fn g n:=by
 unfold AV.getFn at h;split at h
 ·split at h
  ·rename_i hk;subst hk;simp only[aD]at h;subst h;rfl
  ·cases h
 ·cases h
theorem AV.aEB{c:K.U}{o:Nat}{v:AV K}{n:K.El c}(h:v.SE c o=some n):v=.rp c n o:=by
 unfold AV.SE at h;split at h
 ·split at h
  ·rename_i hk;subst hk;split at h
   ·rename_i he _;subst he;simp only[aD]at h;subst h;rfl
   ·cases h
  ·cases h
 ·cases h
theorem AV.aEC{v:AV K}{n:Unit}(h:v.SG=some n):v=.dt:=by
 unfold AV.SG at h;split at h
 ·rfl
 ·cases h
theorem AV.aED{v:AV K}{n:Unit}(h:v.SH=some n):v=.dj:=by
 unfold AV.SH at h;split at h
 ·rfl
 ·cases h
theorem AV.aEE{a o:Nat}{v:AV K}{n:Unit}(h:v.SI a o=some n):v=.ptr a o:=by
 unfold AV.SI at h;split at h
 ·split at h
  ·split at h
   ·rename_i h1 h2;subst h1;subst h2;rfl
   ·cases h
  ·cases h
 ·cases h
theorem AV.aEF{a:Nat}{v:AV K}{n:Unit}(h:v.SJ a=some n):v=.sl a:=by
 unfold AV.SJ at h;split at h
 ·split at h
  ·rename_i h1;subst h1;rfl
  ·cases h
 ·cases h
theorem AV.ams{a:Nat}{v:AV K}{n:Unit}(h:v.SK a=some n):v=.np a:=by
 unfold AV.SK at h;split at h
 ·split at h
  ·rename_i h1;subst h1;rfl
  ·cases h
 ·cases h
def sure{α:Type}:Option (α×Bool)->Option α
 |some (x,true)=>some x
 |_=>none
theorem amu{α:Type}{o:Option (α×Bool)}{x:α}(h:sure o=some x):o=some (x,true):=by
 unfold sure at h;split at h
 ·simp only[aD]at h;subst h;rfl
 ·cases h
mutual
def Sh.dec(D:bP K):(s:Sh K)->AV K->Option s.T
 |.any,_=>some ()
 |.int k,v=>v.getInt k
 |.bool,v=>v.getBool
 |.str,v=>v.SC
 |.ah c,v=>elems [] c v
 |.el c,v=>match v.Md with
   |some l=>sure (D.dec c l)
   |none=>none
 |.rp c o,v=>v.SE c o
 |.dt,v=>v.SG
 |.dj,v=>v.SH
 |.ptr h o,v=>v.SI h o
 |.own h,v=>v.SJ h
 |.np h,v=>v.SK h
 |.ep h c o,v=>v.SL h c o
 |.fn g l,v=>match v.getFn g with
   |some l'=>Sh.d6 D l l'
   |none=>none
 |.agg l,v=>match v.Md with
   |some l'=>Sh.d6 D l l'
   |none=>none
 |.bU l,v=>match v.SD with
   |some l'=>Sh.d6 D l l'
   |none=>none
def Sh.d6(D:bP K):(l:List (Sh K))->List (AV K)->Option (Sh.Ts l)
 |[],[]=>some ()
 |s::r,v::l=>match Sh.dec D s v,Sh.d6 D r l with
  |some x,some y=>some (x,y)
  |_,_=>none
 |_,_=>none
end
def Ob.AI:Ob K->Option (List (AV K))
 |.box l=>some l
 |_=>none
def Ob.SR(c:K.U):Ob K->Option (List (K.El c))
 |.arr c' l=>match K.jR c' c with
   |.isTrue h=>some (h ▸ l)
   |.isFalse _=>none
 |_=>none
def Ob.SS(c:K.U):Ob K->Option (List (K.El c))
 |.gp c' l=>match K.jR c' c with
   |.isTrue h=>some (h ▸ l)
   |.isFalse _=>none
 |_=>none
def Ob.SU(c:K.U):Ob K->Option (List (K.El c))
 |.tree c' l=>match K.jR c' c with
   |.isTrue h=>some (h ▸ l)
   |.isFalse _=>none
 |_=>none
theorem Ob.amv{v:Ob K}{n:List (AV K)}(h:v.AI=some n):v=.box n:=by
 unfold Ob.AI at h;split at h
 ·simp only[aD]at h;subst h;rfl
 ·cases h
theorem Ob.aEG{c:K.U}{v:Ob K}{n:List (K.El c)}(h:v.SR c=some n):v=.arr c n:=by
 unfold Ob.SR at h;split at h
 ·split at h
  ·rename_i he _;subst he;simp only[aD]at h;subst h;rfl
  ·cases h
 ·cases h
theorem Ob.aEH{c:K.U}{v:Ob K}{n:List (K.El c)}(h:v.SS c=some n):v=.gp c n:=by
 unfold Ob.SS at h;split at h
 ·split at h
  ·rename_i he _;subst he;simp only[aD]at h;subst h;rfl
  ·cases h
 ·cases h
theorem Ob.aEI{c:K.U}{v:Ob K}{n:List (K.El c)}(h:v.SU c=some n):v=.tree c n:=by
 unfold Ob.SU at h;split at h
 ·split at h
  ·rename_i he _;subst he;simp only[aD]at h;subst h;rfl
  ·cases h
 ·cases h
def bh.dec(D:bP K):(s:bh K)->Ob K->Option s.T
 |.dead,_=>some ()
 |.box l,o=>match o.AI with
   |some cs=>Sh.d6 D l cs
   |none=>none
 |.el c,o=>match o.AI with
   |some cs=>sure (D.dec c cs)
   |none=>none
 |.arr c,o=>o.SR c
 |.gp c,o=>o.SS c
 |.tree c,o=>o.SU c
def bh.d6(D:bP K):(l:List (bh K))->List (Ob K)->Option (bh.Ts l)
 |[],[]=>some ()
 |s::r,v::l=>match bh.dec D s v,bh.d6 D r l with
  |some x,some y=>some (x,y)
  |_,_=>none
 |_,_=>none
theorem aEJ(hD:bW D){c:K.U}{v:AV K}{l:List (K.El c)}(h:elems [] c v=some l){u:Value}(hr:Rep D ρ S w v u):Rep D ρ S w (.ah c l) u:=by
 unfold elems at h;split at h
 ·simp only[aD]at h;subst h;cases hr;exact .eM _ _
 ·split at h
  ·rename_i he _;subst he;simp only[aD]at h;subst h;exact hr
  ·cases h
 ·simp at h
 ·cases h
mutual
theorem Sh.AK(hD:bW D):∀(s:Sh K)(v:AV K)(x:s.T),Sh.dec D s v=some x->∀u,Rep D ρ S w v u->Rep D ρ S w (Sh.enc D s x) u
 |.any,v,x,h,u,hr=>.any u
 |.int k,v,x,h,u,hr=>by rw[AV.SN h]at hr;exact hr
 |.bool,v,x,h,u,hr=>by rw[AV.SO h]at hr;exact hr
 |.str,v,x,h,u,hr=>by rw[AV.SQ h]at hr;exact hr
 |.ah c,v,x,h,u,hr=>aEJ hD h hr
 |.el c,v,x,h,u,hr=>by
   unfold Sh.dec at h;split at h
   ·rename_i l hl;rw[AV.amr hl]at hr;cases hr with
    |agg hl hh=>
     have:=hD.dec c _ _ (amu h) ρ S w _ ⟨hl,hh⟩;exact .agg this.1 this.2
   ·cases h
 |.rp c o,v,x,h,u,hr=>by rw[AV.aEB h]at hr;exact hr
 |.dt,v,x,h,u,hr=>by rw[AV.aEC h]at hr;exact hr
 |.dj,v,x,h,u,hr=>by rw[AV.aED h]at hr;exact hr
 |.ptr a b,v,x,h,u,hr=>by rw[AV.aEE h]at hr;exact hr
 |.own a,v,x,h,u,hr=>by rw[AV.aEF h]at hr;exact hr
 |.np a,v,x,h,u,hr=>by rw[AV.ams h]at hr;exact hr
 |.ep a c o,v,x,h,u,hr=>by rw[AV.aEy h]at hr;exact hr
 |.fn g l,v,x,h,u,hr=>by
   unfold Sh.dec at h;split at h
   ·rename_i l' hl;rw[AV.aEA hl]at hr;cases hr with
    |fn hl hh=>
     have:=Sh.uC hD l _ x h _ ⟨hl,hh⟩;exact .fn this.1 this.2
   ·cases h
 |.agg l,v,x,h,u,hr=>by
   unfold Sh.dec at h;split at h
   ·rename_i l' hl;rw[AV.amr hl]at hr;cases hr with
    |agg hl hh=>
     have:=Sh.uC hD l _ x h _ ⟨hl,hh⟩;exact .agg this.1 this.2
   ·cases h
 |.bU l,v,x,h,u,hr=>by
   unfold Sh.dec at h;split at h
   ·rename_i l' hl;rw[AV.aEz hl]at hr;cases hr with
    |bU hl hh=>
     have:=Sh.uC hD l _ x h _ ⟨hl,hh⟩;exact .bU this.1 this.2
   ·cases h
theorem Sh.uC(hD:bW D):∀(l:List (Sh K))(vs:List (AV K))(x:Sh.Ts l),Sh.d6 D l vs=some x->∀us,bE D ρ S w vs us->bE D ρ S w (Sh.encs D l x) us
 |[],vs,x,h,us,hr=>by
   cases vs with
   |nil=>exact hr
   |cons v r=>unfold Sh.d6 at h;cases h
 |s::r,vs,x,h,us,hr=>by
  cases vs with
  |nil=>unfold Sh.d6 at h;cases h
  |cons v l=>
   unfold Sh.d6 at h;split at h
   ·rename_i a b h1 h2;have h:=f6 h;subst h;obtain⟨u,t,rfl,g1,g2⟩:=hr.fE;exact .cons (Sh.AK hD s v a h1 u g1) (Sh.uC hD r l b h2 t g2)
   ·cases h
end
theorem aEK{l:List (AV K)}(h:gI l=true):kC l=false:=by
 cases l with
 |nil=>rfl
 |cons v r=>
  simp only[gI,bC]at h;cases v<;>first|rfl|(simp[AV.closed]at h)
theorem aEL{l:List (Sh K)}{cs:List (AV K)}{x:Sh.Ts l}(h:Sh.d6 D l cs=some x)(hn:kC (Sh.encs D l x)=true):kC cs=true:=by
 cases l with
 |nil=>unfold Sh.encs at hn;cases hn
 |cons s r=>
  cases cs with
  |nil=>unfold Sh.d6 at h;cases h
  |cons v vs=>
   unfold Sh.d6 at h;split at h
   ·rename_i a b h1 h2;have h:=f6 h;subst h;change kC (Sh.enc D s a::Sh.encs D r b)=true at hn;cases s
    all_goals first
     |exact absurd (show false=true from hn) (by simp)
     |(have h3:=AV.ams (v:=v) h1;rw[h3];rfl)
   ·cases h
theorem bh.AK(hD:bW D)(s:bh K)(o:Ob K)(x:s.T)(h:bh.dec D s o=some x):((bh.enc D s x).live=true->o.live=true/\∀w r b,cu D w (bh.enc D s x) r b->cu D w o r b)/\∀r,f8 D ρ S w o r->f8 D ρ S w (bh.enc D s x) r:=by
 cases s with
 |dead=>exact⟨fun h=>Bool.noConfusion h,fun _ _=>trivial⟩
 |box l=>
  change(match o.AI with
   |some cs=>Sh.d6 D l cs
   |none=>none)=some x at h
  split at h
  ·rename_i cs hcs;rw[Ob.amv hcs];refine⟨fun _=>⟨rfl,fun _ _ _ h=>h⟩,fun r hh=>?_⟩;obtain⟨b,vs,T,e,h1,h2,h3⟩:=hh;exact⟨b,vs,T,e,h1,Sh.uC hD l _ x h _ h2,fun hn=>h3 (aEL h hn)⟩
  ·cases h
 |el c=>
  change(match o.AI with
   |some cs=>sure (D.dec c cs)
   |none=>none)=some x at h
  split at h
  ·rename_i cs hcs;rw[Ob.amv hcs];refine⟨fun _=>⟨rfl,fun _ _ _ h=>h⟩,fun r hh=>?_⟩;obtain⟨b,vs,T,e,h1,h2,h3⟩:=hh;exact⟨b,vs,T,e,h1,hD.dec c _ _ (amu h) ρ S w _ h2,fun hn=>by rw[aEK (hD.closed c x)]at hn;cases hn⟩
  ·cases h
 |arr c=>rw[Ob.aEG h];exact⟨fun h=>⟨h,fun _ _ _ h=>h⟩,fun _ h=>h⟩
 |gp c=>rw[Ob.aEH h];exact⟨fun h=>⟨h,fun _ _ _ h=>h⟩,fun _ h=>h⟩
 |tree c=>rw[Ob.aEI h];exact⟨fun h=>⟨h,fun _ _ _ h=>h⟩,fun _ h=>h⟩
theorem bh.Me:∀(l:List (bh K))(os:List (Ob K))(x:bh.Ts l),bh.d6 D l os=some x->(bh.encs D l x).length=os.length/\∀(i:Nat) o',(bh.encs D l x)[i]?=some o'->∃o,os[i]?=some o/\∃(s:bh K)(y:s.T),bh.dec D s o=some y/\o'=bh.enc D s y
 |[],os,x,h=>by
   cases os with
   |nil=>exact⟨rfl,fun i o' h=>by simp[bh.encs]at h⟩
   |cons v r=>simp[bh.d6]at h
 |s::r,os,x,h=>by
  cases os with
  |nil=>simp[bh.d6]at h
  |cons v l=>
   simp only[bh.d6]at h;split at h
   ·rename_i a b h1 h2;have h:=f6 h;subst h;obtain⟨g1,g2⟩:=bh.Me r l b h2;refine⟨by simp only[bh.encs,aO];rw[g1],fun i o' hi=>?_⟩;cases i with
    |zero=>simp[bh.encs]at hi;exact⟨v,rfl,s,a,h1,hi.symm⟩
    |succ i=>simp[bh.encs]at hi;obtain⟨o,q⟩:=g2 i o' hi;exact⟨o,by simpa using q.1,q.2⟩
   ·cases h
structure Wk (D:bP K) (vs:List (AV K)) (H:List (Ob K)) (vs':List (AV K)) (H':List (Ob K)):Prop where
 len:H'.length=H.length
 SV:∀ρ S w us,bE D ρ S w vs us->bE D ρ S w vs' us
 heap:∀ρ S w,aY D ρ S w H->aY D ρ S w H'
 own:∀w ρ b,Own D w ρ H' b->Own D w ρ H b
theorem Wk.step{vs vs':List (AV K)}{n0:Nat}(h:Wk D vs H vs' H'):Step D n0 ρ S H w ρ S H' w:=
 ⟨rfl,rfl,rfl,bY _,fun _ _ _=>rfl,fun b hb=>.inl (h.own _ _ b hb),fun _ h=>h,fun _ h=>.inl h,fun _ _=>rfl⟩
theorem bh.amw{l:List (bh K)}{os:List (Ob K)}{x:bh.Ts l}(hD:bW D)(h:bh.d6 D l os=some x)(w:World)(ρ:List Value)(b:Nat)(hb:Own D w ρ (bh.encs D l x) b):Own D w ρ os b:=by
 obtain⟨i,o',r,h1,h2,h3,h4⟩:=hb;obtain⟨o,q1,s,y,q2,rfl⟩:=(bh.Me l os x h).2 i o' h1;have q3:=(bh.AK (ρ:=ρ) (S:=fun _=>False) (w:=w) hD s o y q2).1 h2;exact⟨i,o,r,q1,q3.1,h3,q3.2 _ _ _ h4⟩
theorem bh.uC{l:List (bh K)}{os:List (Ob K)}{x:bh.Ts l}(hD:bW D)(h:bh.d6 D l os=some x)(hs:aY D ρ S w os):aY D ρ S w (bh.encs D l x):=by
 obtain⟨g1,g2⟩:=bh.Me l os x h;refine⟨by rw[g1];exact hs.len,fun i o' r h1 h2=>?_,fun i j o o' r r' b h1 h2 h3 h4 c1 c2 c3 c4=>?_,fun b hb=>hs.lt b (bh.amw hD h w ρ b hb),hs.slt,hs.base⟩
 ·obtain⟨o,q1,s,y,q2,rfl⟩:=g2 i o' h1;exact(bh.AK hD s o y q2).2 r (hs.ob i o r q1 h2)
 ·obtain⟨o1,q1,s,y,q2,rfl⟩:=g2 i o h1;obtain⟨o2,p1,s',y',p2,rfl⟩:=g2 j o' c1;have a1:=(bh.AK (ρ:=ρ) (S:=S) (w:=w) hD s o1 y q2).1 h2;have a2:=(bh.AK (ρ:=ρ) (S:=S) (w:=w) hD s' o2 y' p2).1 c2;exact hs.eX i j o1 o2 r r' b q1 a1.1 h3 (a1.2 _ _ _ h4) p1 a2.1 c3 (a2.2 _ _ _ c4)
structure aK (K:db) where
 vs:List (Sh K)
 os:List (bh K)
def aK.T(c:aK K):Type:=Sh.Ts c.vs×bh.Ts c.os
def aK.dec(D:bP K)(c:aK K)(vs:List (AV K))(H:List (Ob K)):Option c.T:=
 match Sh.d6 D c.vs vs,bh.d6 D c.os H with
 |some a,some b=>some (a,b)
 |_,_=>none
def aK.kX(D:bP K)(c:aK K)(x:c.T):List (AV K):=Sh.encs D c.vs x.1
def aK.ahp(D:bP K)(c:aK K)(x:c.T):List (Ob K):=bh.encs D c.os x.2
theorem aK.Gh(hD:bW D){c:aK K}{vs:List (AV K)}{x:c.T}(h:c.dec D vs H=some x):Wk D vs H (c.kX D x) (c.ahp D x):=by
 unfold aK.dec at h;split at h
 ·rename_i a b h1 h2;have h:=f6 h;subst h;exact⟨(bh.Me c.os H b h2).1,fun ρ S w us hr=>Sh.uC hD c.vs vs a h1 us hr,fun ρ S w hs=>bh.uC hD h2 hs,fun w ρ b' hb=>bh.amw hD h2 w ρ b' hb⟩
 ·cases h
end Go.V
namespace Go.V
open Go
variable {K :db}{ρ ρ':List Value}{S S':Nat->Prop}{w w':World}{H H':List (Ob K)}
def nR(dp:K.U->Bool)(H:List (Ob K))(cs:List (List (Option K.U))):AV K->AV K×List (Ob K)
 |.bU l=>(.bU (fl dp H cs l).1,(fl dp H cs l).2)
 |v=>((fl dp H cs [v]).1.headD v,(fl dp H cs [v]).2)
def forgets:List Bool->List (AV K)->List (AV K)
 |[],vs=>vs
 |_::_,[]=>[]
 |true::r,_::vs=>.any::forgets r vs
 |false::r,v::vs=>v::forgets r vs
def MA:List Bool->AV K->AV K
 |[],v=>v
 |l,.bU vs=>.bU (forgets l vs)
 |true::_,_=>.any
 |false::_,v=>v
theorem SX{D:bP K}:∀(l:List Bool)(vs:List (AV K))(us:List Value),bE D ρ S w vs us->bE D ρ S w (forgets l vs) us
 |[],vs,us,h=>by simpa only[forgets]using h
 |_::_,[],us,h=>by simpa only[forgets]using h
 |b::r,v::vs,us,h=>by
  obtain⟨u,t,rfl,h1,h2⟩:=h.fE;cases b
  ·exact .cons h1 (SX r vs t h2)
  ·exact .cons (.any u) (SX r vs t h2)
theorem aEM{D:bP K}(l:List Bool)(v:AV K)(u:Value)(h:Rep D ρ S w v u):Rep D ρ S w (MA l v) u:=by
 unfold MA;split
 ·exact h
 ·cases h with
  |bU hl hh=>
   have:=SX l _ _ ⟨hl,hh⟩;exact .bU this.1 this.2
 ·exact .any _
 ·exact h
def SY(cx:Cx K)(fz:Bool)(fn:Func)(n0:Nat){R:Type}(fin:AV K->List (Ob K)->Option R)(e:Ex)(st:St K):Option R:=
 match e with
 |.exit _=>none
 |_=>match resV cx fn st with
  |some v0=>let v:=MA cx.I8 v0
   cond st.ok (cond fz (match Lr cx.mv n0 (eK (iN st.H (hands v)) v) (iN st.H (hands v))with
    |some (v',H')=>fin v' H'
    |none=>none) (match Lr cx.mv n0 (nR cx.deep st.H cx.mN v).1 (nR cx.deep st.H cx.mN v).2 with
    |some (v',H')=>fin v' H'
    |none=>none)) none
  |none=>none
def IY(cx:Cx K)(fz:Bool)(fn:Func)(args:List (AV K))(H:List (Ob K)){R:Type}(fin:AV K->List (Ob K)->Option R):Option R:=
 match fn.body with
 |some c=>fw cx c ⟨args++List.replicate (fn.ntmps-args.length) .any,H,true⟩ (SY cx fz fn H.length fin)
 |none=>none
structure amx (P:Program) (f:FuncId) (fn:Func):Prop where
 get:P.funcs[f]?=some fn
 name:(fn.name== "runtime.NumGoroutine")=false
theorem SZ{D:bP K}(dp:K.U->Bool):∀(css:List (List (Option K.U)))(l:List (AV K))(H:List (Ob K))(ρ:List Value)(vs:List Value),aY D ρ S w H->bE D ρ S w l vs->Ao D S w H ρ vs (fl dp H css l)
 |[],l,H,ρ,vs,hs,hr=>⟨ρ,by simpa [fl]using hs,by simpa [fl]using hr,by simpa [fl]using Step.refl,fun _ _ h=>h,by simp[fl],fun _ _ h=>by simpa [fl]using h⟩
 |cs::css,[],H,ρ,vs,hs,hr=>⟨ρ,by simpa [fl]using hs,by simpa [fl]using hr,by simpa [fl]using Step.refl,fun _ _ h=>h,by simp[fl],fun _ _ h=>by simpa [fl]using h⟩
 |cs::css,v::r,H,ρ,vs,hs,hr=>by
  obtain⟨u,t,rfl,h1,h2⟩:=hr.fE;have fin:∀(v':AV K)(p:List (AV K)×List (Ob K))(us:List Value),(∀ρ',bE D ρ' S w p.1 us->Rep D ρ' S w v' u)->Ao D S w H ρ us p->Ao D S w H ρ (u::t) (v'::(fl dp p.2 css r).1,(fl dp p.2 css r).2):=fun v' p us hv hp=>by
   obtain⟨ρ1,g1,g2,g3,g4,g5,g6⟩:=hp;obtain⟨ρ2,k1,k2,k3,k4,k5,k6⟩:=SZ dp css r p.2 ρ1 t g1 (h2.mono (fun _ h=>h) (fun _ _=>rfl) g4);exact⟨ρ2,k1,.cons ((hv ρ1 g2).mono (fun _ h=>h) (fun _ _=>rfl) k4) k2,g3.trans (k3.weaken g5),fun h r hr=>k4 h r (g4 h r hr),cD g5 k5,fun h o ho=>k6 h o (g6 h o ho)⟩
  have one:∀v,Rep D ρ S w v u->fl dp H (cs::css) (v::r)=((thaw dp H cs [v]).1.headD v::(fl dp (thaw dp H cs [v]).2 css r).1,(fl dp (thaw dp H cs [v]).2 css r).2)->Ao D S w H ρ (u::t) (fl dp H (cs::css) (v::r)):=fun v h1 e=>by
   rw[e];refine fin _ _ [u] (fun ρ' hr'=>?_) (xF dp cs [v] H ρ [u] hs (.cons h1 .nil));generalize hq:(thaw dp H cs [v]).1=q at hr';cases q with
   |nil=>have:=hr'.1;simp at this
   |cons x y=>exact hr'.head
  cases v with
  |agg l=>
   cases h1 with
   |agg hl hh=>
    have e:fl dp H (cs::css) (.agg l::r)=(.agg (thaw dp H cs l).1::(fl dp (thaw dp H cs l).2 css r).1,(fl dp (thaw dp H cs l).2 css r).2):=rfl;rw[e];exact fin _ _ _ (fun ρ' hr'=>.agg hr'.1 hr'.2) (xF dp cs l H ρ _ hs ⟨hl,hh⟩)
  |_=>exact one _ h1 rfl
theorem aEN{D:bP K}(dp:K.U->Bool)(cs:List (List (Option K.U)))(v:AV K)(hs:aY D ρ S w H){u:Value}(hr:Rep D ρ S w v u):
 ∃ρ',aY D ρ' S w (nR dp H cs v).2/\Rep D ρ' S w (nR dp H cs v).1 u/\Step D H.length ρ S H w ρ' S (nR dp H cs v).2 w/\H.length<=(nR dp H cs v).2.length:=by
 have one:∀v,Rep D ρ S w v u->nR dp H cs v=((fl dp H cs [v]).1.headD v,(fl dp H cs [v]).2)->∃ρ',aY D ρ' S w (nR dp H cs v).2/\Rep D ρ' S w (nR dp H cs v).1 u/\Step D H.length ρ S H w ρ' S (nR dp H cs v).2 w/\H.length<=(nR dp H cs v).2.length:=fun v hr e=>by
  rw[e];obtain⟨ρ',g1,g2,g3,g4,g5,g6⟩:=SZ dp cs [v] H ρ [u] hs (.cons hr .nil);refine⟨ρ',g1,?_,g3,g5⟩;generalize hq:(fl dp H cs [v]).1=q at g2;cases q with
  |nil=>have:=g2.1;simp at this
  |cons x y=>exact g2.head
 cases v with
 |bU l=>
  cases hr with
  |bU hl hh=>
   obtain⟨ρ',g1,g2,g3,g4,g5,g6⟩:=SZ dp cs l H ρ _ hs ⟨hl,hh⟩;exact⟨ρ',g1,.bU g2.1 g2.2,g3,g5⟩
 |_=>exact one _ hr rfl
theorem aEO{cx:Cx K}(hD:bW cx.D){fz:Bool}{fn:Func}{n0:Nat}{R:Type}{fin:AV K->List (Ob K)->Option R}{e:Ex}{st:St K}{r:R}(h:SY cx fz fn n0 fin e st=some r):
 st.ok=true/\(∀i,e≠.exit i)/\∃v v' H',resV cx fn st=some v/\fin v' H'=some r/\∀ρ S w,n0<=st.H.length->aY cx.D ρ S w st.H->∀u,Rep cx.D ρ S w v u->∃ρ' S',aY cx.D ρ' S' w H'/\Rep cx.D ρ' S' w v' u/\Step cx.D n0 ρ S st.H w ρ' S' H' w:=by
 have key:∀(v0:AV K)(H0:List (Ob K)) v' H',Lr cx.mv n0 v0 H0=some (v',H')->∀ρ S w,n0<=H0.length->aY cx.D ρ S w H0->∀u,Rep cx.D ρ S w v0 u->∃ρ',aY cx.D ρ' S w H'/\Rep cx.D ρ' S w v' u/\Step cx.D n0 ρ S H0 w ρ' S H' w:=fun v0 H0 v' H' hp ρ S w hn hs u hr=>by
  unfold Lr QD at hp;split at hp
  ·rename_i hk;simp only[bC,bq]at hk;split at hp
   ·rename_i v'' H1 hv' hH';simp only[aD,bj]at hp;obtain⟨rfl,rfl⟩:=hp;obtain⟨s1,s2,s3,s4⟩:=aml hD hs hn hk.1 hk.2 hH';exact⟨_,s1,uw hD s3 _ _ u hv' hr,s2⟩
   ·cases hp
  ·cases hp
 unfold SY at h;split at h
 ·cases h
 ·rename_i hne;split at h
  ·rename_i v0 hv0;dsimp only at h;generalize hv:MA cx.I8 v0=v at h;have fgt:∀{ρ S w}{u:Value},Rep cx.D ρ S w v0 u->Rep cx.D ρ S w v u:=fun hr=>by rw[<-hv];exact aEM _ _ _ hr
   cases hok:st.ok with
   |false=>rw[hok]at h;cases h
   |true=>
    rw[hok]at h;simp only[aA]at h;refine⟨rfl,hne,?_⟩;cases fz with
    |false=>
     simp only[bN]at h;split at h
     ·rename_i v' H' hp;exact⟨v0,v',H',hv0,h,fun ρ S w hn hs u hr0=>by
       have hr:=fgt hr0;obtain⟨ρ1,t1,t2,t3,t4⟩:=aEN cx.deep cx.mN v hs hr;obtain⟨ρ',a,b,c⟩:=key _ _ _ _ hp ρ1 S w (cD hn t4) t1 u t2;exact⟨ρ',S,a,b,(t3.weaken hn).trans c⟩⟩
     ·cases h
    |true=>
     simp only[aA]at h;split at h
     ·rename_i v' H' hp;exact⟨v0,v',H',hv0,h,fun ρ S w hn hs u hr0=>by
       have hr:=fgt hr0;obtain⟨S1,g1,g2,g3⟩:=Lt (n0:=n0) (hands v) hs;obtain⟨ρ',a,b,c⟩:=key _ _ _ _ hp ρ S1 w (by omega) g1 u (pZ g1 _ _ (hr.mono g2.s1 (fun _ _=>rfl) (fun _ _ h=>h)));exact⟨ρ',S1,a,b,g2.trans c⟩⟩
     ·cases h
  ·cases h
theorem aEP{cx:Cx K}(hD:bW cx.D)(hc:aJ cx)(hm:cx.P.follows .mixedOrders=true){fz:Bool}{f:FuncId}{fn:Func}(hf:amx cx.P f fn)(hl:∀c,fn.body=some c->gW cx c)
 {args:List (AV K)} {R:Type} {fin:AV K->List (Ob K)->Option R} {r:R} (h:IY cx fz fn args H fin=some r):∃v H',fin v H'=some r/\RC cx.D cx.P f args H v H':=by
 unfold IY at h;split at h
 ·rename_i c hb;obtain⟨e,st,h1,-,h3⟩:=qb hD hc hm c (hl c hb) _ _ _ h;obtain⟨hok,hne,v,v',H',hv,hr,hfin⟩:=aEO hD h1;refine⟨v',H',hr,⟨fn,hf.get,hf.name,by rw[hb];rfl⟩,fun ρ S w vals hs ha=>?_⟩;have h0:dy (args++List.replicate (fn.ntmps-args.length) (AV.any:AV K)):=fun t g b y e=>by
   rcases cA t args.length with hlt|hge
   ·rw[dD hlt]at e;obtain⟨x,-,hx⟩:=ha.get e;cases hx
   ·rw[d5 hge,mo]at e;split at e<;>cases e
  obtain⟨n1,htr⟩:=h3 hok h0;refine calls_of_wp hf.get hb ?_;have bS:Sat cx ρ S {tmps:=vals.toArray++Array.replicate (fn.ntmps-vals.toArray.size) undef,defers:=[]} w ⟨args++List.replicate (fn.ntmps-args.length) .any,H,true⟩:=⟨hs,⟨by simp[ha.1],fun t v x h1 h2=>.jV (by
   rcases cA t args.length with hlt|hge
   ·rw[dD hlt]at h1;rw[Array.getElem?_append_left (by simpa [<-ha.1]using hlt)]at h2;exact ha.2 t v x h1 (by simpa using h2)
   ·rw[d5 hge,mo]at h1;split at h1
    ·simp at h1;subst h1;exact .any x
    ·cases h1)⟩,rfl⟩
  refine wp_mono (htr H.length ρ S _ w (bY _) bS) ?_
  rintro e' a' w' ⟨rfl,hn,ρ1,S1,fh,hst1⟩
  obtain⟨u,hu,hr1⟩:=aEr hD n1 fh hv;have amz:∃u' ρ' S',Ending.returned u=.returned u'/\aY cx.D ρ' S' w' H'/\Rep cx.D ρ' S' w' v' u'/\Step cx.D H.length ρ S H w ρ' S' H' w':=by
   obtain⟨ρ2,S2,q1,q2,q3⟩:=hfin ρ1 S1 w' hn fh.heap u hr1;exact⟨u,ρ2,S2,rfl,q1,q2,hst1.trans q3⟩
  cases e with
  |exit i=>exact absurd rfl (hne i)
  |normal=>exact⟨fh.defers,u,hu,amz⟩
  |ret=>exact⟨fh.defers,u,hu,amz⟩
 ·cases h
structure ax (K:db) where
 f:FuncId
 sh:aK K
 R:Type
 run:sh.T->Option R
 dflt:R
 out:R->AV K×List (Ob K)
def ax.Ok(D:bP K)(P:Program)(c:ax K):Prop:=∀x r,c.run x=some r->RC D P c.f (c.sh.kX D x) (c.sh.ahp D x) (c.out r).1 (c.out r).2
def callOf(D:bP K):List (ax K)->FuncId->List (AV K)->List (Ob K)->Option (AV K×List (Ob K)×Bool)
 |[],_,_,_=>none
 |c::l,f,args,H=>cond (Nat.beq c.f f) (match c.sh.dec D args H with
  |some x=>some ((c.out ((c.run x).getD c.dflt)).1,(c.out ((c.run x).getD c.dflt)).2,(c.run x).isSome)
  |none=>callOf D l f args H) (callOf D l f args H)
theorem RC.weak{D:bP K}{P:Program}{f:FuncId}{args args':List (AV K)}{r:AV K}{Ho:List (Ob K)}(hw:Wk D args H args' H')(h:RC D P f args' H' r Ho):RC D P f args H r Ho:=by
 refine⟨h.1,fun ρ S w vals hs ha=>(h.2 ρ S w vals (hw.heap _ _ _ hs) (hw.SV _ _ _ _ ha)).mono ?_⟩
 rintro e w' ⟨u,ρ',S',rfl,h1,h2,h3⟩
 rw[hw.len]at h3;exact⟨u,ρ',S',rfl,h1,h2,hw.step.trans h3⟩
theorem amA{D:bP K}(hD:bW D){P:Program}:∀(l:List (ax K)),(∀c∈l,c.Ok D P)->∀f args H r H',callOf D l f args H=some (r,H',true)->RC D P f args H r H'
 |[],_,f,args,H,r,H',h=>by simp[callOf]at h
 |c::l,hl,f,args,H,r,H',h=>by
  have ih:=amA hD l (fun c hc=>hl c (by simp[hc])) f args H r H';unfold callOf at h;cases hb:Nat.beq c.f f with
  |false=>rw[hb]at h;exact ih h
  |true=>
   rw[hb]at h;have hf:c.f=f:=E9 hb;simp only[aA]at h;split at h
   ·rename_i x hx;simp only[aD,bj]at h;obtain⟨h1,h2,h3⟩:=h;obtain⟨y,hy⟩:=Option.isSome_iff_exists.1 h3;rw[hy]at h1 h2;simp only[aV]at h1 h2;have:=hl c (by simp) x y hy;rw[h1,h2,hf]at this;exact this.weak (aK.Gh hD hx)
   ·exact ih h
theorem aL{cx:Cx K}(hD:bW cx.D)(l:List (ax K))(hl:∀c∈l,c.Ok cx.D cx.P)(he:cx.call=callOf cx.D l:=by exact rfl)(ha:cx.alt=fun _ _ _ _=>none:=by exact rfl)(ho:(fun(R:Type)=>cx.Fg (R:=R))=fun(R:Type)(a b:Option R)=>Qk a b:=by exact rfl):aJ cx:=by
 refine⟨fun f args H r H' h=>?_,fun b f args H r H' h=>?_,fun R a b r h=>?_⟩
 ·rw[he]at h;exact amA hD l hl f args H r H' h
 ·rw[ha]at h;cases h
 ·have:=congrFun ho R;rw[this]at h;exact aCy h
def ax.X5(D:bP K)(c:ax K):ax K:={c with out:=fun r=>(iz D (c.out r).2 (c.out r).1,[])}
theorem ax.ap2{D:bP K}(hD:bW D){P:Program}{c:ax K}(h:c.Ok D P)(h0:c.sh.os=[])(hcl:∀r,(iz D (c.out r).2 (c.out r).1).closed=true):(c.X5 D).Ok D P:=by
 intro x r hr;have hH:c.sh.ahp D x=[]:=by
  unfold aK.ahp;have:∀(l:List (bh K))(y:bh.Ts l),l=[]->bh.encs D l y=[]:=fun l y e=>by subst e;rfl
  exact this _ _ h0
 obtain⟨h1,h2⟩:=h x r hr;refine⟨h1,fun ρ S w vals hs ha=>(h2 ρ S w vals hs ha).mono ?_⟩
 rintro e w' ⟨u,ρ',S',rfl,g1,g2,g3⟩
 show ∃u_1 ρ' S',Ending.returned u=.returned u_1/\aY D ρ' S' w' ([]:List (Ob K))/\Rep D ρ' S' w' (iz D (c.out r).2 (c.out r).1) u_1/\Step D (c.sh.ahp D x).length ρ S (c.sh.ahp D x) w ρ' S' ([]:List (Ob K)) w'
 change aY D ρ S w (c.sh.ahp D x)at hs;rw[hH]at g3 hs⊢;have hρ:ρ=[]:=by have:=hs.len;simpa using this
 refine⟨u,[],fun b=>S' b\/Own D w' ρ' (c.out r).2 b,rfl,⟨rfl,fun _ _ _ h=>by simp at h,fun _ _ _ _ _ _ _ h=>by simp at h,fun b ⟨_,_,_,h,_⟩=>by simp at h,fun b hb=>hb.elim (g1.slt b) fun h=>(g1.lt b h).1,D.base.mono (fun _ h=>.inl h) (fun _ _=>rfl) g1.base⟩,
  (ak4 hD g1 _ _ g2).closed hD (hcl r),⟨g3.os,g3.tape,g3.output,g3.size,g3.old,fun b ⟨_,_,_,h,_⟩=>by simp at h,fun b hb=>.inl (g3.s1 b hb),fun b hb=>?_,fun h hh=>by simp at hh⟩⟩
 rcases hb with hb|hb
 ·exact g3.s2 b hb
 ·exact .inr (g3.own b hb)
structure Dl (K:db) (D:bP K) (R:Type) where
 sh:aK K
 conv:sh.T->R
def Dl.fin{D:bP K}{R:Type}(d:Dl K D R)(v:AV K)(H:List (Ob K)):Option R:=match d.sh.dec D [v] H with
 |some x=>some (d.conv x)
 |none=>none
theorem eR{cx:Cx K}(hD:bW cx.D)(hc:aJ cx)(hm:cx.P.follows .mixedOrders=true){c:ax K}{fz:Bool}{fn:Func}(hf:amx cx.P c.f fn)(hl:∀b,fn.body=some b->gW cx b)
 (d:Dl K cx.D c.R) (ho:∀x,([(c.out (d.conv x)).1],(c.out (d.conv x)).2)=(d.sh.kX cx.D x,d.sh.ahp cx.D x)) (he:∀x,IY cx fz fn (c.sh.kX cx.D x) (c.sh.ahp cx.D x) d.fin=c.run x):c.Ok cx.D cx.P:=by
 intro x r hr;rw[<-he x]at hr;obtain⟨v,H',h1,h2⟩:=aEP hD hc hm hf hl hr;unfold Dl.fin at h1;split at h1
 ·rename_i y hy;simp only[aD]at h1;have hw:=aK.Gh hD hy;have:=ho y;simp only[bj]at this;rw[<-this.1,<-this.2]at hw;rw[h1]at hw;refine⟨h2.1,fun ρ S w vals hs ha=>(h2.2 ρ S w vals hs ha).mono ?_⟩
  rintro e w' ⟨u,ρ',S',rfl,g1,g2,g3⟩
  have:=(hw.SV _ _ _ [u] (.cons g2 .nil)).head;exact⟨u,ρ',S',rfl,hw.heap _ _ _ g1,this,g3.trans hw.step⟩
 ·cases h1
instance : Coe Bool Nat:=⟨fun b=>cond b 1 0⟩
def stays(kp i:Nat):Bool:=Nat.beq kp 1||Nat.blt (i+2) kp
def S3(kp:Nat):Nat->List (Ob K)->List (Option Nat)×List (Option Nat)
 |_,[]=>([],[])
 |i,o::r=>match S3 kp (i+1) r with
  |(a,b)=>match o with
   |.arr ..=>cond (stays kp i) (some i::a,b) (none::a,some i::b)
   |.tree ..=>cond (stays kp i) (some i::a,b) (none::a,some i::b)
   |_=>(some i::a,b)
def amC(kp:Nat)(n n0:Nat)(ins:List Nat)(vals:List (AV K))(Hi:List (Ob K)):Option (St K):=
 match rq n0 ((S3 kp 0 Hi).1++(S3 kp 0 Hi).2) ins ⟨ee (List.replicate n .any) ins vals,Hi,true⟩with
 |some st=>xB n0 ins st
 |none=>none
def mD(st:St K)(ts:List Nat):List (AV K):=ts.map fun t=>st.tm.getD t .any
def bB(D:bP K)(kp:Nat)(n n0:Nat)(ins outs:List Nat)(sh:aK K){Y:Type}(run:sh.T->Option Y)(out:Y->{R:Type}->(Ex->List (AV K)->List (Ob K)->R)->R):bo K:={
 n:=n
 ins:=ins
 outs:=outs
 run vals Hi k:=cond (Nat.beq Hi.length n0) (match amC kp n n0 ins vals Hi with
  |some st=>match sh.dec D (mD st ins) st.H with
   |some x=>match run x with
    |some y=>out y k
    |none=>none
   |none=>none
  |none=>none) none}
def NR(cx:Cx K)(n n0:Nat)(ins outs:List Nat)(sh:aK K){Y:Type}(next:sh.T->Option Y)(fin:Ex->List (AV K)->List (Ob K)->Option Y)(e:Ex)(s:St K):Option Y:=
 cond s.ok (cond (Nat.beq s.tm.length n) (match e with
  |.normal=>match uk cx s with
    |some (b,s1)=>cond b (match xB n0 ins s1 with
     |some s'=>match sh.dec cx.D (mD s' ins) s'.H with
      |some x=>next x
      |none=>none
     |none=>none) none
    |none=>none
  |e=>match uk cx s with
   |some (b,s1)=>cond b (match xB n0 outs s1 with
    |some s'=>fin e (mD s' outs) s'.H
    |none=>none) none
   |none=>none) none) none
def vI(D:bP K)(n:Nat)(ins:List Nat)(sh:aK K)(x:sh.T):St K:=⟨ee (List.replicate n .any) ins (sh.kX D x),sh.ahp D x,true⟩
structure cq (K:db) (Y:Type) where
 e:Ex
 sh:aK K
 conv:sh.T->Y
def Ex.same:Ex->Ex->Bool
 |.normal,.normal=>true
 |.exit a,.exit b=>Nat.beq a b
 |.ret,.ret=>true
 |_,_=>false
theorem Ex.same_eq{a b:Ex}(h:Ex.same a b=true):a=b:=by
 cases a<;>cases b<;>simp only[Ex.same]at h<;>first|rfl|cases h|(rw[E9 h])
def yS(D:bP K){Y:Type}:List (cq K Y)->Ex->List (AV K)->List (Ob K)->Option Y
 |[],_,_,_=>none
 |d::l,e,vs,H=>cond (Ex.same d.e e) (match d.sh.dec D vs H with
  |some x=>some (d.conv x)
  |none=>none) (yS D l e vs H)
theorem amD{D:bP K}:∀(l:List (Sh K))(vs:List (AV K))(x:Sh.Ts l),Sh.d6 D l vs=some x->vs.length=l.length
 |[],vs,x,h=>by
   cases vs with
   |nil=>rfl
   |cons v r=>unfold Sh.d6 at h;cases h
 |s::r,vs,x,h=>by
  cases vs with
  |nil=>unfold Sh.d6 at h;cases h
  |cons v l=>
   unfold Sh.d6 at h;split at h
   ·rename_i a b h1 h2;simp only[aO];rw[amD r l b h2]
   ·cases h
theorem S4{D:bP K}:∀(l:List (Sh K))(x:Sh.Ts l),(Sh.encs D l x).length=l.length
 |[],x=>rfl
 |s::r,x=>by simp only[Sh.encs,aO];rw[S4 r]
theorem pD{D:bP K}{sh:aK K}{vs:List (AV K)}{x:sh.T}(h:sh.dec D vs H=some x):(sh.kX D x).length=vs.length:=by
 unfold aK.dec at h;split at h
 ·rename_i a b h1 h2;unfold aK.kX;rw[S4,amD _ _ _ h1]
 ·cases h
theorem S5{D:bP K}(hD:bW D){Y:Type}{out:Y->{R:Type}->(Ex->List (AV K)->List (Ob K)->R)->R}:∀(l:List (cq K Y)),(∀d∈l,d.e≠.normal/\∀x (R:Type) (k:Ex->List (AV K)->List (Ob K)->R),out (d.conv x) k=k d.e (d.sh.kX D x) (d.sh.ahp D x))->
 ∀e vs H y,yS D l e vs H=some y->e≠.normal/\∃vs' H',(∀(R:Type)(k:Ex->List (AV K)->List (Ob K)->R),out y k=k e vs' H')/\Wk D vs H vs' H'/\vs'.length=vs.length
 |[],_,e,vs,H,y,h=>by simp[yS]at h
 |d::l,hl,e,vs,H,y,h=>by
  unfold yS at h;cases hs:Ex.same d.e e with
  |false=>rw[hs]at h;exact S5 hD l (fun d hd=>hl d (by simp[hd])) e vs H y h
  |true=>
   rw[hs]at h;have he:=Ex.same_eq hs;simp only[aA]at h;split at h
   ·rename_i x hx;simp only[aD]at h;subst h;obtain⟨h1,h2⟩:=hl d (by simp);rw[he]at h1 h2;exact⟨h1,_,_,fun R k=>h2 x R k,aK.Gh hD hx,pD hx⟩
   ·cases h
theorem retag{cx:Cx K}{n0:Nat}{st:St K}{ts:List Nat}{n:Nat}(hn:st.tm.length=n)(h0:dy st.tm){vs':List (AV K)}(hw:Wk cx.D (mD st ts) st.H vs' H')(hlen:vs'.length=ts.length):
 Goes cx n0 st ⟨ee (List.replicate n .any) ts vs',H',st.ok⟩:=by
 intro ρ S a w hn0 bS;refine⟨by show n0<=H'.length;rw[hw.len];exact hn0,ρ,S,⟨hw.heap _ _ _ bS.heap,?_,bS.defers⟩,hw.step⟩;have hsz:a.tmps.size=n:=by rw[<-hn];exact bS.slots.len.symm
 have hrep:∀t,Rep cx.D ρ S w (st.tm.getD t .any) (a.tmps.getD t undef):=fun t=>by
  rw[dG,nD];cases hg:st.tm[t]? with
  |none=>exact .any _
  |some v=>
   obtain⟨x,hx,-⟩:=bS.slots.get hg;rw[hx];exact bS.slots.rep h0 hg hx
 have hus:bE cx.D ρ S w (mD st ts) (ts.map fun t=>a.tmps.getD t undef):=⟨by simp[mD],fun i v x h1 h2=>by
  simp only[mD,f5,eN]at h1 h2;obtain⟨t,e1,rfl⟩:=h1;obtain⟨t',e2,rfl⟩:=h2;rw[e1]at e2;simp at e2;subst e2;exact hrep t⟩
 have aEQ:=hw.SV _ _ _ _ hus;refine Ss hsz fun i t v x h1 h2 h3=>aEQ.2 i v x h2 ?_
 simp only[f5,h1,pM];rw[nD,h3];rfl
theorem amE{D:bP K}:∀(l:List (Sh K))(x:Sh.Ts l)(i:Nat)(v:AV K),(Sh.encs D l x)[i]?=some v->v.jh=false
 |[],x,i,v,h=>by simp[Sh.encs]at h
 |s::r,x,i,v,h=>by
  cases i with
  |zero=>
   simp only[Sh.encs,List.getElem?_cons_zero,aD]at h;subst h;cases s<;>simp only[Sh.enc]<;>rfl
  |succ i=>exact amE r x.2 i v (by simpa [Sh.encs]using h)
theorem aER{n:Nat}{ds:List Nat}{l:List (AV K)}(h:∀(i:Nat) v,l[i]?=some v->v.jh=false):dy (ee (List.replicate n .any) ds l):=fun t g b v e=>by
 rcases AH ds l _ t _ e with h1|⟨i,-,h2⟩
 ·rw[mo]at h1;split at h1<;>cases h1
 ·have:=h i _ h2;simp[AV.jh]at this
theorem S7{n0:Nat}{src:List (Option Nat)}{keep:List Nat}{st st':St K}(h:rq n0 src keep st=some st'):st'.tm.length=st.tm.length:=by
 unfold rq at h;split at h
 ·split at h
  ·simp only[aD]at h;subst h;simp[xM]
  ·cases h
 ·cases h
theorem Tr.goes{cx:Cx K}{n0:Nat}{c:Code}{st st1 st2:St K}{e:Ex}(h:Tr cx n0 c st e st1)(g:Goes cx n0 st1 st2):Tr cx n0 c st e st2:=fun ρ S a w hn bS=>by
 refine wp_mono (h ρ S a w hn bS) ?_
 rintro e' a' w' ⟨he,hn1,ρ1,S1,fh,hst1⟩
 obtain⟨hn2,ρ2,S2,Gg,hst2⟩:=g ρ1 S1 a' w' hn1 fh;exact⟨he,hn2,ρ2,S2,Gg,hst1.trans hst2⟩
section
variable {cx :Cx K}(hD:bW cx.D)(hc:aJ cx)(hm:cx.P.follows .mixedOrders=true){c:Code}(hl:gW cx c){n n0:Nat}{ins outs:List Nat}{sh:aK K}{Y:Type}{run:Nat->sh.T->Option Y}
 {bu:List (cq K Y)} {out:Y->{R:Type}->(Ex->List (AV K)->List (Ob K)->R)->R}
 (h0:∀x,run 0 x=none) (hs:∀m x,fw cx c (vI cx.D n ins sh x) (NR cx n n0 ins outs sh (run m) (yS cx.D bu))=run (m+1) x)
 (hx:∀d∈bu,d.e≠.normal/\∀x (R:Type) (k:Ex->List (AV K)->List (Ob K)->R),out (d.conv x) k=k d.e (d.sh.kX cx.D x) (d.sh.ahp cx.D x))
include hD hc hm hl h0 hs hx
theorem amF{y:Y}:∀(m:Nat)(x:sh.T),run m x=some y->∃e vs Ho,(∀(R:Type)(k:Ex->List (AV K)->List (Ob K)->R),out y k=k e vs Ho)/\
 ∀(ρ0:List Value)(S0:Nat->Prop)(H0:List (Ob K))(w0:World)(ρ:List Value)(S:Nat->Prop)(a:Act)(w:World),n0<=(vI cx.D n ins sh x).H.length->Sat cx ρ S a w (vI cx.D n ins sh x)->Step cx.D n0 ρ0 S0 H0 w0 ρ S (vI cx.D n ins sh x).H w->
  Code.rounds cx.P c (fun e' a' w'=>e'=e.nE/\n0<=Ho.length/\∃ρ' S',Sat cx ρ' S' a' w' ⟨ee (List.replicate n .any) outs vs,Ho,true⟩/\Step cx.D n0 ρ0 S0 H0 w0 ρ' S' Ho w') m a w
 |0,x,h=>by rw[h0]at h;cases h
 |m+1,x,h=>by
  rw[<-hs m x]at h;obtain⟨e,s,h1,h2,h3⟩:=qb hD hc hm c hl _ _ _ h;unfold NR at h1;have hno:dy (vI cx.D n ins sh x).tm:=aER (amE _ _);cases hok:s.ok with
  |false=>rw[hok]at h1;cases h1
  |true=>
   rw[hok]at h1;simp only[aA]at h1;obtain⟨n1,htr⟩:=h3 hok hno;cases hlen:Nat.beq s.tm.length n with
   |false=>rw[hlen]at h1;cases h1
   |true=>
   rw[hlen]at h1;simp only[aA]at h1;have hsn:s.tm.length=n:=E9 hlen;have key:∀keep s1 s' vs' pY,uk cx s=some (true,s1)->xB n0 keep s1=some s'->Wk cx.D (mD s' keep) s'.H vs' pY->vs'.length=keep.length->Tr cx n0 c (vI cx.D n ins sh x) e ⟨ee (List.replicate n .any) keep vs',pY,true⟩:=fun keep s1 s' vs' pY hcl hn hw hvl=>by
    have hr:rq n0 ((reach s1.H 64 (List.range n0++cJ (keep.map fun t=>s1.tm.getD t .any)) []).map some) keep s1=some s':=hn;obtain⟨hk1,g1,g2⟩:=Mc (cx:=cx) hD hr;obtain⟨c1,c2,c3,c4⟩:=amn hD hcl;have gc:Goes cx n0 s s1:=fun ρ S a w hn bS=>by
     obtain⟨q1,q2⟩:=c4 n0 ρ S a w bS;exact⟨by rw[c3];exact hn,ρ,S,q1,q2⟩
    have hl2:s1.tm.length=n:=by rw[c1];exact hsn
    have hn2:dy s1.tm:=by rw[c1];exact n1
    have:=(htr n0).goes (gc.trans ((g2 hn2).trans (retag ((S7 hr).trans hl2) g1 hw hvl)));rw[hk1,c2,hok]at this;exact this
   cases e with
   |normal=>
    dsimp only at h1;split at h1
    ·rename_i b s1 hcl;cases b with
     |false=>cases h1
     |true=>
     simp only[aA]at h1;split at h1
     ·rename_i s' hn;split at h1
      ·rename_i x' hx';obtain⟨e2,vs,Ho,q1,q2⟩:=amF m x' h1;refine⟨e2,vs,Ho,q1,fun ρ0 S0 H0 w0 ρ S a w hn0 bS hst=>?_⟩;rw[rounds_succ];refine wp_mono (key ins s1 s' _ _ hcl hn (aK.Gh hD hx') (by rw[pD hx'];simp[mD]) ρ S a w hn0 bS) ?_
       rintro e' a' w' ⟨rfl,hn1,ρ1,S1,fh,hst1⟩
       exact q2 ρ0 S0 H0 w0 ρ1 S1 a' w' hn1 fh (hst.trans hst1)
      ·cases h1
     ·cases h1
    ·cases h1
   |exit id=>
    dsimp only at h1;split at h1
    ·rename_i b s1 hcl;cases b with
     |false=>cases h1
     |true=>
     simp only[aA]at h1;split at h1
     ·rename_i s' hn;obtain⟨g1,vs',pY,g2,g3,g4⟩:=S5 hD bu hx _ _ _ _ h1;refine⟨.exit id,vs',pY,g2,fun ρ0 S0 H0 w0 ρ S a w hn0 bS hst=>?_⟩;rw[rounds_succ];refine wp_mono (key outs s1 s' _ _ hcl hn g3 (by rw[g4];simp[mD]) ρ S a w hn0 bS) ?_
      rintro e' a' w' ⟨rfl,hn1,ρ1,S1,fh,hst1⟩
      exact⟨rfl,hn1,ρ1,S1,fh,hst.trans hst1⟩
     ·cases h1
    ·cases h1
   |ret=>
    dsimp only at h1;split at h1
    ·rename_i b s1 hcl;cases b with
     |false=>cases h1
     |true=>
     simp only[aA]at h1;split at h1
     ·rename_i s' hn;obtain⟨g1,vs',pY,g2,g3,g4⟩:=S5 hD bu hx _ _ _ _ h1;refine⟨.ret,vs',pY,g2,fun ρ0 S0 H0 w0 ρ S a w hn0 bS hst=>?_⟩;rw[rounds_succ];refine wp_mono (key outs s1 s' _ _ hcl hn g3 (by rw[g4];simp[mD]) ρ S a w hn0 bS) ?_
      rintro e' a' w' ⟨rfl,hn1,ρ1,S1,fh,hst1⟩
      exact⟨rfl,hn1,ρ1,S1,fh,hst.trans hst1⟩
     ·cases h1
    ·cases h1
theorem dY(kp:Nat)(N:Nat):bn cx c (bB cx.D kp n n0 ins outs sh (run N) out):=by
 intro vals Hi R k r h;simp only[bB]at h;cases hb:Nat.beq Hi.length n0 with
 |false=>rw[hb]at h;cases h
 |true=>
  rw[hb]at h;have hlen:Hi.length=n0:=E9 hb;simp only[aA]at h;split at h
  ·rename_i st hst;split at h
   ·rename_i x hx1;split at h
    ·rename_i y hy;obtain⟨e,vs,Ho,q1,q2⟩:=amF hD hc hm hl h0 hs hx N x hy;rw[q1]at h;refine⟨e,vs,Ho,h,?_⟩;unfold amC at hst;split at hst
     ·rename_i st1 hst1;have hst':rq n0 ((reach st1.H 64 (List.range n0++cJ (ins.map fun t=>st1.tm.getD t .any)) []).map some) ins st1=some st:=hst;obtain⟨k1,g1,g2⟩:=Mc (cx:=cx) hD hst1;obtain⟨k2,g3,g4⟩:=Mc (cx:=cx) hD hst';intro ρ S a w hn0 bS;have hno:dy (ee (List.replicate n (AV.any:AV K)) ins vals):=fun t g b v e=>by
       rcases AH ins vals _ t _ e with h1|⟨i,h1,-⟩
       ·rw[mo]at h1;split at h1<;>cases h1
       ·unfold rq at hst1;split at hst1
        ·split at hst1
         ·rename_i ws H1 hv hm1;obtain⟨gl,gg⟩:=xN _ _ hv;have hi:i<ws.length:=by rw[gl];simp;exact(cz.1 h1).1
          obtain⟨v0,q1,q2⟩:=gg i _ (ct hi);simp only[f5,h1,pM,aD]at q1;rw[dG,e]at q1;simp only[aV]at q1;subst q1;simp[fe]at q2
         ·cases hst1
        ·cases hst1
      have hlen1:st1.tm.length=n:=by rw[S7 hst1];simp[xM]
      have hlen2:st.tm.length=n:=by rw[S7 hst'];exact hlen1
      have hw:=aK.Gh hD hx1;have hr:=retag (cx:=cx) (n0:=n0) hlen2 g3 hw (by rw[pD hx1];simp[mD]);have hok:st.ok=true:=by rw[k2,k1]
      rw[hok]at hr;rw[hlen];obtain⟨hn1,ρ1,S1,fh,hst2⟩:=((g2 hno).trans ((g4 g1).trans hr)) ρ S a w (by show n0<=Hi.length;omega) bS;exact wp_loop_rounds N (q2 ρ S Hi w ρ1 S1 a w hn1 fh hst2)
     ·cases hst
    ·cases h
   ·cases h
  ·cases h
end
def ahq:Code->List Code
 |.loop c=>[c]
 |.seq a b=>ahq a++ahq b
 |.cond _ a b=>ahq a++ahq b
 |.block _ c=>ahq c
 |_=>[]
def bc(c:Code)(i:Nat):Code:=(ahq c).getD i .skip
theorem AL{cx:Cx K}:∀(c:Code),(∀b∈ahq c,∀L,cx.loop (keyOf b)=some L->bn cx b L)->gW cx c
 |.loop c,h=>fun L hL=>h c (by simp[ahq]) L hL
 |.seq a b,h=>⟨AL a fun x hx=>h x (by simp[ahq,hx]),AL b fun x hx=>h x (by simp[ahq,hx])⟩
 |.cond _ a b,h=>⟨AL a fun x hx=>h x (by simp[ahq,hx]),AL b fun x hx=>h x (by simp[ahq,hx])⟩
 |.block _ c,h=>AL c h
 |.skip,_|.exit _,_|.ret,_|.region ..,_|.scope ..,_|.rangeFunc ..,_|.goto ..,_|.label ..,_|.refuse ..,_=>trivial
def S8(cx:Cx K)(c:Code):Prop:=∃L,cx.loop (keyOf c)=some L/\bn cx c L
theorem S8.mk{cx:Cx K}{c:Code}{L:bo K}(h:cx.loop (keyOf c)=some L)(ho:bn cx c L):S8 cx c:=⟨L,h,ho⟩
theorem kd{cx:Cx K}{c:Code}(n:Nat)(hn:(ahq c).length=n)(h:∀i,i<n->S8 cx (bc c i)):gW cx c:=
 AL c fun b hb L hL=>by
  obtain⟨i,hi,rfl⟩:=pK hb;obtain⟨L',h1,h2⟩:=h i (by omega);have e:bc c i=(ahq c)[i]:=by simp[bc,dG,ct hi]
  rw[e]at h1 h2;rw[h1]at hL;simp only[aD]at hL;subst hL;exact h2
theorem ed{cx:Cx K}{c:Code}(hn:(ahq c).length=0):gW cx c:=kd 0 hn fun i hi=>absurd hi (jQ i)
theorem kQ{p:Nat->Prop}(h:p 0):∀i,i<1->p i:=fun i hi=>by
 have:i=0:=by omega
 subst this;exact h
theorem lt_succ{p:Nat->Prop}{n:Nat}(h:∀i,i<n->p i)(hn:p n):∀i,i<n+1->p i:=fun i hi=>by
 by_cases he:i=n
 ·subst he;exact hn
 ·exact h i (by omega)
def bm(fn:Func):Code:=match fn.body with
 |some c=>c
 |none=>.skip
theorem CH{cx:Cx K}{fn:Func}(h:gW cx (bm fn)):∀c,fn.body=some c->gW cx c:=fun c hc=>by
 have:bm fn=c:=by unfold bm;rw[hc]
 rw[<-this];exact h
theorem ak{α:Type _}{p:α->Prop}:∀c∈([]:List α),p c:=fun c h=>by simp at h
theorem ae{α:Type _}{p:α->Prop}{a:α}{l:List α}(h:p a)(t:∀c∈l,p c):∀c∈a::l,p c:=fun c hc=>by
 rcases fi.1 hc with rfl|hc
 ·exact h
 ·exact t c hc
theorem bD{i:Nat}:Ex.exit i≠.normal:=fun h=>by cases h
theorem cn:Ex.ret≠.normal:=fun h=>by cases h
theorem ia{D:bP K}{P:Program}{c:ax K}(h:∀x,c.run x=none):c.Ok D P:=fun x r hr=>by rw[h]at hr;cases hr
theorem amG:∃n:Nat,2^63<=n:=⟨2^63,bY _⟩
noncomputable def af:Nat:=Classical.choose amG
theorem bV:2^63<=af:=Classical.choose_spec amG
end Go.V
namespace Go.V
open Go
variable {K :db}{D:bP K}{ρ ρ':List Value}{S S':Nat->Prop}{w w':World}
def Sh.flat:Sh K->Bool
 |.int _|.bool|.str|.ah _=>true
 |_=>false
def jS:List (Sh K)->Bool
 |[]=>true
 |s::r=>s.flat&&jS r
def D0(K:db):bP K:={cells:=fun _ _=>[],dec:=fun _ _=>none,byte:=fun _=>none,find:=fun _=>none}
def amH(cs:K.U->List (Sh K)):List K.U->List (AV K)->Option K.U
 |[],_=>none
 |c::r,l=>match Sh.d6 (D0 K) (cs c) l with
  |some _=>some c
  |none=>amH cs r l
def KC(cs:K.U->List (Sh K))(mk:(c:K.U)->Sh.Ts (cs c)->K.El c×Bool)(un:(c:K.U)->K.El c->Sh.Ts (cs c))(byte:(c:K.U)->Option ((K.El c->UInt8)×(UInt8->K.El c)))(codes:List K.U)(base:Base:=Base.aka)(rf:Option TypeId:=none)(pO:K.U->Option TypeId:=fun _=>none):bP K:={
 base:=base
 rf:=rf
 pO:=pO
 cells c x:=Sh.encs (D0 K) (cs c) (un c x)
 dec c l:=match Sh.d6 (D0 K) (cs c) l with
  |some y=>some (mk c y)
  |none=>none
 byte:=byte
 find l:=amH cs codes l}
theorem aES{c:K.U}{v:AV K}{l:List (K.El c)}(h:elems [] c v=some l){u:Value}(hr:Rep D ρ S w v u):Rep D ρ S w (.ah c l) u:=by
 unfold elems at h;split at h
 ·simp only[aD]at h;subst h;cases hr;exact .eM _ _
 ·split at h
  ·rename_i he _;subst he;simp only[aD]at h;subst h;exact hr
  ·cases h
 ·simp at h
 ·cases h
theorem amI:∀(l:List (Sh K))(vs:List (AV K))(x:Sh.Ts l),jS l=true->Sh.d6 (D0 K) l vs=some x->∀us,bE D ρ S w vs us->bE D ρ S w (Sh.encs (D0 K) l x) us
 |[],vs,x,hf,h,us,hr=>by
   cases vs with
   |nil=>exact hr
   |cons v r=>unfold Sh.d6 at h;cases h
 |s::r,vs,x,hf,h,us,hr=>by
  simp only[jS,bC]at hf;cases vs with
  |nil=>unfold Sh.d6 at h;cases h
  |cons v l=>
   unfold Sh.d6 at h;split at h
   ·rename_i a b h1 h2;have h:=f6 h;subst h;obtain⟨u,t,rfl,g1,g2⟩:=hr.fE;refine .cons ?_ (amI r l b hf.2 h2 t g2);cases s<;>simp only[Sh.flat]at hf<;>first|(exact absurd hf.1 xg)|skip
    ·rw[AV.SN h1]at g1;exact g1
    ·rw[AV.SO h1]at g1;exact g1
    ·rw[AV.SQ h1]at g1;exact g1
    ·exact aES h1 g1
   ·cases h
theorem S9:∀(l:List (Sh K))(x:Sh.Ts l),jS l=true->gI (Sh.encs (D0 K) l x)=true/\(Sh.encs (D0 K) l x).all AV.one=true
 |[],x,hf=>⟨rfl,rfl⟩
 |s::r,x,hf=>by
  simp only[jS,bC]at hf;obtain⟨h1,h2⟩:=S9 r x.2 hf.2;simp only[Sh.encs,gI,kK,bC];refine⟨⟨?_,h1⟩,?_,h2⟩<;>(cases s<;>simp only[Sh.flat]at hf<;>first|(exact absurd hf.1 xg)|rfl)
theorem amJ:∀(l:List (Sh K))(x y:Sh.Ts l),jS l=true->iw (Sh.encs (D0 K) l x)=iw (Sh.encs (D0 K) l y)
 |[],x,y,hf=>rfl
 |s::r,x,y,hf=>by
  simp only[jS,bC]at hf;simp only[Sh.encs,iw];rw[amJ r x.2 y.2 hf.2];congr 1;cases s<;>simp only[Sh.flat]at hf<;>first|(exact absurd hf.1 xg)|rfl
theorem amK:∀(l:List (Sh K))(x:Sh.Ts l),jS l=true->∀(j:Nat) v,(Sh.encs (D0 K) l x)[j]?=some v->v≠.dj/\(v.pV=false->iC v=false)
 |[],x,hf,j,v,h=>by simp[Sh.encs]at h
 |s::r,x,hf,j,v,h=>by
  simp only[jS,bC]at hf;cases j with
  |zero=>
   simp[Sh.encs]at h;subst h;cases s<;>simp only[Sh.flat]at hf<;>first|(exact absurd hf.1 xg)|exact⟨fun e=>(by cases e),fun _=>rfl⟩|exact⟨fun e=>(by cases e),fun e=>by cases e⟩
  |succ j=>exact amK r x.2 hf.2 j v (by simpa [Sh.encs]using h)
theorem aET{c:K.U}{v:AV K}{l:List (K.El c)}(h:elems [] c v=some l):v=.ah c l\/(v=.dj/\l=[]):=by
 unfold elems at h;split at h
 ·simp only[aD]at h;exact .inr ⟨rfl,h.symm⟩
 ·split at h
  ·rename_i he _;subst he;simp only[aD]at h;subst h;exact .inl rfl
  ·cases h
 ·simp at h
 ·cases h
theorem amL:∀(l:List (Sh K))(vs:List (AV K))(x:Sh.Ts l),jS l=true->Sh.d6 (D0 K) l vs=some x->vs.length=l.length/\∀(j:Nat) v v',vs[j]?=some v->(Sh.encs (D0 K) l x)[j]?=some v'->v'=v\/(v=.dj/\∃c',v'=.ah c' [])
 |[],vs,x,hf,h=>by
   cases vs with
   |nil=>exact⟨rfl,fun j v v' h=>by simp at h⟩
   |cons v r=>unfold Sh.d6 at h;cases h
 |s::r,vs,x,hf,h=>by
  simp only[jS,bC]at hf;cases vs with
  |nil=>unfold Sh.d6 at h;cases h
  |cons v l=>
   unfold Sh.d6 at h;split at h
   ·rename_i a b h1 h2;have h:=f6 h;subst h;obtain⟨g1,g2⟩:=amL r l b hf.2 h2;refine⟨by simp[g1],fun j u u' hu hu'=>?_⟩;cases j with
    |zero=>
     simp[Sh.encs]at hu hu';subst hu;subst hu';cases s<;>simp only[Sh.flat]at hf<;>first|(exact absurd hf.1 xg)|skip
     ·exact .inl (AV.SN h1).symm
     ·exact .inl (AV.SO h1).symm
     ·exact .inl (AV.SQ h1).symm
     ·rcases aET h1 with h|⟨h,e⟩
      ·exact .inl h.symm
      ·exact .inr ⟨h,_,by rw[e];rfl⟩
    |succ j=>exact g2 j u u' (by simpa using hu) (by simpa [Sh.encs]using hu')
   ·cases h
theorem aB8{codes:List K.U}{base:Base}{rf:Option TypeId}{pO:K.U->Option TypeId}{cs:K.U->List (Sh K)}{mk:(c:K.U)->Sh.Ts (cs c)->K.El c×Bool}{un:(c:K.U)->K.El c->Sh.Ts (cs c)}{byte:(c:K.U)->Option ((K.El c->UInt8)×(UInt8->K.El c))}
 (hf:∀c,jS (cs c)=true) (hl:∀c,(cs c).length=K.sz c) (hu:∀c y x,mk c y=(x,true)->un c x=y) (hb:∀c f g,byte c=some (f,g)->(∀x,Sh.encs (D0 K) (cs c) (un c x)=[.int .u8 ((f x).toNat:Int)])/\∀b,f (g b)=b):bW (KC cs mk un byte codes base rf pO):={
 len c x:=by show(Sh.encs (D0 K) (cs c) (un c x)).length=_;rw[S4,hl]
 closed c x:=(S9 _ _ (hf c)).1
 one c x:=(S9 _ _ (hf c)).2
 dec c l x h:=fun ρ S w vs hr=>by
  change(match Sh.d6 (D0 K) (cs c) l with
   |some y=>some (mk c y)
   |none=>none)=some (x,true)at h
  split at h
  ·rename_i y hy
   show bE _ ρ S w (Sh.encs (D0 K) (cs c) (un c x)) vs
   rw[hu c y x (f6 h)];exact amI _ _ _ (hf c) hy _ hr
  ·cases h
 byte:=hb
 flat c x:=amJ _ _ _ (hf c)
 kinds c x:=amK _ _ (hf c)
 akl c l x h:=by
  change(match Sh.d6 (D0 K) (cs c) l with
   |some y=>some (mk c y)
   |none=>none)=some (x,true)at h
  split at h
  ·rename_i y hy;obtain⟨g1,g2⟩:=amL _ _ _ (hf c) hy;refine⟨by rw[g1,hl],fun j v v' h1 h2=>g2 j v v' h1 ?_⟩;change(Sh.encs (D0 K) (cs c) (un c x))[j]?=some v' at h2;rw[hu c y x (f6 h)]at h2;exact h2
  ·cases h}
def lQ(n:Int):Bool:=decide (0<=n)&&decide (n<256)
def lR(n:Int):UInt8:=UInt8.ofNat n.toNat
theorem ajL{n:Int×Unit}{x:UInt8}(h:(lR n.1,lQ n.1)=(x,true)):((x.toNat:Int),())=n:=by
 simp only[bj,lQ,bC,bq]at h;obtain⟨rfl,h0,h3⟩:=h;obtain⟨a,b⟩:=n;dsimp only at h0 h3⊢;have h1:a.toNat<256:=by omega
 have h2:((lR a).toNat:Int)=a:=by
  unfold lR;rw[UInt8.toNat_ofNat'];simp only[Nat.reducePow];rw[Nat.mod_eq_of_lt h1];omega
 rw[h2]
def gu{α:Type _}:List (Nat×α)->Nat->Option α
 |[],_=>none
 |p::r,n=>cond (Nat.beq p.1 n) (some p.2) (gu r n)
def ir{α:Type _}(d:α):List (Nat×α)->Nat->α
 |[],_=>d
 |p::r,n=>cond (Nat.beq p.1 n) p.2 (ir d r n)
end Go.V
namespace Go.V
open Go
def aFb(gM gT gS gR:Nat):Base:={
 inv S w:=(S gM/\S gT/\S gS/\S gR)/\(∃m,w.cell? ⟨gM,0,none⟩=some (.int .i64 m))/\(∃T fr,w.heap[gT]?=some (.cells (Lib.pow10Tab.map fun z=>Value.int .u64 z).toArray T fr))/\(∃t p,w.cell? ⟨gS,0,none⟩=some (.iface t p))/\∃t p,w.cell? ⟨gR,0,none⟩=some (.iface t p)
 mono:=fun{S S' w w'} hS hw h=>by
  obtain⟨⟨h1,h2,h3,h4⟩,⟨m,hm⟩,⟨T,fr,hT⟩,⟨t,p,hs⟩,⟨t2,p2,hr⟩⟩:=h;refine⟨⟨hS _ h1,hS _ h2,hS _ h3,hS _ h4⟩,⟨m,?_⟩,⟨T,fr,by rw[hw _ h2];exact hT⟩,⟨t,p,?_⟩,⟨t2,p2,?_⟩⟩
  ·rw[cell?_of_heap (w:=w) (a:=⟨gM,0,none⟩) (hw _ h1)];exact hm
  ·rw[cell?_of_heap (w:=w) (a:=⟨gS,0,none⟩) (hw _ h3)];exact hs
  ·rw[cell?_of_heap (w:=w) (a:=⟨gR,0,none⟩) (hw _ h4)];exact hr}
end Go.V
namespace Go.V
open Go
def aB7(gM gT gS gR gA:Nat):Base:={
 inv S w:=(S gA/\(∃T fr,w.heap[gA]?=some (.cells (Lib.asciiSpaceTab.map fun z=>Value.int .u8 z).toArray T fr))/\S gM/\S gT/\S gS/\S gR)/\(∃m,w.cell? ⟨gM,0,none⟩=some (.int .i64 m))/\(∃T fr,w.heap[gT]?=some (.cells (Lib.pow10Tab.map fun z=>Value.int .u64 z).toArray T fr))/\(∃t p,w.cell? ⟨gS,0,none⟩=some (.iface t p))/\∃t p,w.cell? ⟨gR,0,none⟩=some (.iface t p)
 mono:=fun{S S' w w'} hS hw h=>by
  obtain⟨⟨hA,⟨TA,OH,hTA⟩,h1,h2,h3,h4⟩,⟨m,hm⟩,⟨T,fr,hT⟩,⟨t,p,hs⟩,⟨t2,p2,hr⟩⟩:=h;refine⟨⟨hS _ hA,⟨TA,OH,by rw[hw _ hA];exact hTA⟩,hS _ h1,hS _ h2,hS _ h3,hS _ h4⟩,⟨m,?_⟩,⟨T,fr,by rw[hw _ h2];exact hT⟩,⟨t,p,?_⟩,⟨t2,p2,?_⟩⟩
  ·rw[cell?_of_heap (w:=w) (a:=⟨gM,0,none⟩) (hw _ h1)];exact hm
  ·rw[cell?_of_heap (w:=w) (a:=⟨gS,0,none⟩) (hw _ h3)];exact hs
  ·rw[cell?_of_heap (w:=w) (a:=⟨gR,0,none⟩) (hw _ h4)];exact hr}
end Go.V
namespace Go.V
end Go.V
