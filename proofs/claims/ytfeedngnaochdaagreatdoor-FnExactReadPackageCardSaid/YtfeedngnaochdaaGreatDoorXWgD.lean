/-
  NEW NUMBERS FOR THE OBJECTS.
-/
import Derived.Test.YtfeedngnaochdaaGreatDoorXWgC
import Derived.Test.YtfeedngnaochdaaGreatDoorXWgA
import Derived.Lib.ItoaNum
import Derived.Lib.Space
set_option linter.unusedVariables false
namespace Go.V
open Go
variable {K :cK}{ρ ρ':List Value}{S S':Nat->Prop}{w w':World}{H H':List (Ob K)}
theorem Ld{α β:Type}{f:α->Option β}:∀(l:List α)(l':List β),rO f l=some l'->l'.length=l.length/\∀(i:Nat) y,l'[i]?=some y->∃x,l[i]?=some x/\f x=some y
 |[],l',h=>by simp[rO]at h;subst h;simp
 |x::l,l',h=>by
  simp only[rO]at h;split at h
  ·rename_i y m h1 h2;simp only[aj]at h;subst h;obtain⟨g1,g2⟩:=Ld l m h2;refine⟨by simp[g1],fun i z hi=>?_⟩;cases i with
   |zero=>simp at hi;subst hi;exact⟨x,rfl,h1⟩
   |succ i=>simp at hi;obtain⟨v,q1,q2⟩:=g2 i z hi;exact⟨v,by simpa using q1,q2⟩
  ·cases h
theorem Fh{n0 n:Nat}:∀(src:List (Option Nat))(k:Nat),qc n0 n k src=true->
 (∀i:Nat,src[i]?=some none->k+i<n0)/\(∀(i h:Nat),src[i]?=some (some h)->h<n/\(k+i<n0->h=k+i))/\∀(i j h:Nat),src[i]?=some (some h)->src[j]?=some (some h)->i=j
 |[],k,h=>⟨fun i hi=>by simp at hi,fun i h hi=>by simp at hi,fun i j h hi=>by simp at hi⟩
 |none::r,k,h=>by
  simp only[qc,bz,bN]at h;obtain⟨a,b,c⟩:=Fh r (k+1) h.2;refine⟨fun i hi=>?_,fun i g hi=>?_,fun i j g hi hj=>?_⟩
  ·cases i with
   |zero=>exact h.1
   |succ i=>have:=a i (by simpa using hi);omega
  ·cases i with
   |zero=>simp at hi
   |succ i=>have:=b i g (by simpa using hi);exact⟨this.1,fun hh=>by have:=this.2 (by omega);omega⟩
  ·cases i with
   |zero=>simp at hi
   |succ i=>
    cases j with
    |zero=>simp at hj
    |succ j=>rw[c i j g (by simpa using hi) (by simpa using hj)]
 |some g0::r,k,h=>by
  simp only[qc,bz,iH,bN,fK,uB,iG]at h;obtain⟨h1,h2,h3,h4⟩:=h;obtain⟨a,b,c⟩:=Fh r (k+1) h4;refine⟨fun i hi=>?_,fun i g hi=>?_,fun i j g hi hj=>?_⟩
  ·cases i with
   |zero=>simp at hi
   |succ i=>have:=a i (by simpa using hi);omega
  ·cases i with
   |zero=>simp at hi;subst hi;exact⟨h1,fun hh=>by omega⟩
   |succ i=>have:=b i g (by simpa using hi);exact⟨this.1,fun hh=>by have:=this.2 (by omega);omega⟩
  ·cases i with
   |zero=>
    simp at hi;subst hi;cases j with
    |zero=>rfl
    |succ j=>exact absurd (gz (by simpa using hj)) h3
   |succ i=>
    cases j with
    |zero=>simp at hj;subst hj;exact absurd (gz (by simpa using hi)) h3
    |succ j=>rw[c i j g (by simpa using hi) (by simpa using hj)]
theorem X0{src:List (Option Nat)}{h i:Nat}(hi:qb src h=some i):src[i]?=some (some h):=by
 unfold qb at hi;rw[List.idxOf?_eq_some_iff]at hi;obtain⟨hlt,he,-⟩:=hi;rw[bY hlt];simpa using he
def jB(ρ:List Value):Nat->List (Option Nat)->List Value
 |_,[]=>[]
 |i,none::r=>ρ.getD i undef::jB ρ (i+1) r
 |i,some h::r=>ρ.getD h undef::jB ρ (i+1) r
theorem AM{ρ:List Value}:∀(src:List (Option Nat))(k i:Nat)(x:Option Nat),src[i]?=some x->(jB ρ k src)[i]?=some (ρ.getD (x.getD (k+i)) undef)
 |[],k,i,x,h=>by simp at h
 |none::r,k,0,x,h=>by simp at h;subst h;simp[jB]
 |some h0::r,k,0,x,h=>by simp at h;subst h;simp[jB]
 |none::r,k,i+1,x,h=>by
  simp only[jB,List.getElem?_cons_succ];rw[AM r (k+1) i x (by simpa using h),iI,uE 1 i]
 |some h0::r,k,i+1,x,h=>by
  simp only[jB,List.getElem?_cons_succ];rw[AM r (k+1) i x (by simpa using h),iI,uE 1 i]
theorem Fj{ρ:List Value}:∀(src:List (Option Nat))(k:Nat),(jB ρ k src).length=src.length
 |[],k=>rfl
 |none::r,k=>by simp[jB,Fj r]
 |some h0::r,k=>by simp[jB,Fj r]
theorem Le{D:bg K}(hD:bu D)(hs:aK D ρ S w H){n0:Nat}(hn:n0<=H.length){src:List (Option Nat)}(hk:qc n0 H.length 0 src=true)(hl:n0<=src.length)(hm:rO (rQ src H) src=some H'):
 aK D (jB ρ 0 src) S w H'/\Step D n0 ρ S H w (jB ρ 0 src) S H' w/\Ren (qb src) ρ (jB ρ 0 src)/\n0<=H'.length:=by
 obtain⟨k1,k2,k3⟩:=Fh src 0 hk;obtain⟨m1,m2⟩:=Ld _ _ hm;have hlen:=hs.len;have Fo:∀{h:Nat},h<H.length->some (ρ.getD h undef)=ρ[h]?:=fun{h} hh=>by
  rw[fB,bY (show h<ρ.length by omega)];rfl
 have hsub:∀(i h:Nat),src[i]?=some (some h)->(jB ρ 0 src)[i]?=ρ[h]?:=fun i h hi=>by
  rw[AM src 0 i _ hi];exact Fo (k2 i h hi).1
 have oH:Ren (qb src) ρ (jB ρ 0 src):=fun i j r hij hr=>by rw[hsub j i (X0 hij)];exact hr
 have hsrc:∀{i:Nat}{o:Ob K},H'[i]?=some o->o.live=true->∃h o0,src[i]?=some (some h)/\H[h]?=some o0/\jS (qb src) o0=some o:=fun{i o} ho hlive=>by
  obtain⟨x,q1,q2⟩:=m2 i o ho;cases x with
  |none=>simp only[rQ,aj]at q2;subst q2;simp[Ob.live]at hlive
  |some h=>
   simp only[rQ]at q2;split at q2
   ·rename_i o0 ho0;exact⟨h,o0,q1,ho0,q2⟩
   ·cases q2
 have hown:∀b,Own D w (jB ρ 0 src) H' b->Own D w ρ H b:=fun b ⟨i,o,r,h1,h2,h3,h4⟩=>by
  obtain⟨h,o0,e1,e2,e3⟩:=hsrc h1 h2;rw[hsub i h e1]at h3;exact⟨h,o0,r,e2,by rw[<-lK e3];exact h2,h3,(mn e3).1 h4⟩
 refine⟨⟨by rw[Fj,m1],fun i o r h1 h2=>?_,fun i j o o' r r' b h1 h2 h3 h4 g1 g2 g3 g4=>?_,fun b hb=>hs.lt b (hown b hb),hs.slt,hs.base⟩,⟨rfl,rfl,rfl,bH _,fun _ _ _=>rfl,fun b hb=>.inl (hown b hb),fun _ h=>h,fun _ h=>.inl h,fun i hi=>?_⟩,oH,by rw[m1];exact hl⟩
 ·obtain⟨x,q1,q2⟩:=m2 i o h1;cases x with
  |none=>simp only[rQ,aj]at q2;subst q2;trivial
  |some h=>
   simp only[rQ]at q2;split at q2
   ·rename_i o0 ho0;rw[hsub i h q1]at h2;exact Eh hD oH q2 (hs.ob h o0 r ho0 h2)
   ·cases q2
 ·obtain⟨h,o0,e1,e2,e3⟩:=hsrc h1 h2;obtain⟨h',Ep,c1,c2,c3⟩:=hsrc g1 g2;rw[hsub i h e1]at h3;rw[hsub j h' c1]at g3;have:=hs.ed h h' o0 Ep r r' b e2 (by rw[<-lK e3];exact h2) h3 ((mn e3).1 h4) c2 (by rw[<-lK c3];exact g2) g3 ((mn c3).1 g4);subst this;exact k3 i j h e1 c1
 ·have hi':i<src.length:=by omega
  have hg:=bY hi';rw[AM src 0 i _ hg];cases hx:src[i]with
  |none=>rw[Option.getD_none,fu];exact Fo (by omega)
  |some h=>
   rw[hx]at hg;have:=(k2 i h hg).2 (by omega);rw[aw,this,fu];exact Fo (by omega)
def Goes(cx:Cx K)(n0:Nat)(st st':St K):Prop:=
 ∀(ρ:List Value)(S:Nat->Prop)(a:Act)(w:World),n0<=st.H.length->Sat cx ρ S a w st->n0<=st'.H.length/\∃ρ' S',Sat cx ρ' S' a w st'/\Step cx.D n0 ρ S st.H w ρ' S' st'.H w
theorem Goes.trans{cx:Cx K}{n0:Nat}{st st1 st2:St K}(a:Goes cx n0 st st1)(b:Goes cx n0 st1 st2):Goes cx n0 st st2:=fun ρ S a' w hn bn=>by
 obtain⟨h1,ρ1,S1,q1,q2⟩:=a ρ S a' w hn bn;obtain⟨h2,ρ2,S2,q3,q4⟩:=b ρ1 S1 a' w h1 q1;exact⟨h2,ρ2,S2,q3,q2.trans q4⟩
theorem AN{cx:Cx K}(hD:bu cx.D){n0:Nat}{src:List (Option Nat)}{keep:List Nat}{st st':St K}(h:ot n0 src keep st=some st'):st'.ok=st.ok/\dr st'.tm/\(dr st.tm->Goes cx n0 st st'):=by
 unfold ot at h;split at h
 ·rename_i hk;simp only[bz,bN]at hk;split at h
  ·rename_i vs H' hv hm;simp only[aj]at h;subst h;refine⟨rfl,La hv,fun h0 ρ S a w hn bn=>?_⟩;obtain⟨s1,s2,s3,s4⟩:=Le hD bn.heap hn hk.1 hk.2 hm;refine⟨s4,_,S,⟨s1,Fg bn.slots.len.symm fun i t v x g1 g2 g3=>?_,bn.defers⟩,s2⟩;obtain⟨v0,q1,q2⟩:=(sk _ _ hv).2 i v g2;simp only[gP,g1,gk,aj]at q1;subst q1;refine qm hD s3 _ v x q2 ?_;rw[fB];cases hg:st.tm[t]? with
   |none=>exact .any x
   |some v1=>exact bn.slots.rep h0 hg g3
  ·cases h
 ·cases h
end Go.V
namespace Go.V
open Go
variable {K :cK}{ρ ρ':List Value}{S S':Nat->Prop}{w w':World}{H H':List (Ob K)}
theorem Fp{cx:Cx K}(hD:bu cx.D){st:St K}{a:Act}(h0:dr st.tm)(bn:Sat cx ρ S a w st):∀(rs:List ResultVar)(l:List (AV K)),qa cx st rs=some l->
 ∃vs:List Value,(rs.mapM fun r=>(match r with
  |.tmp t=>pure (a.tmps.getD t undef)
  |.cell p t=>do loadVar t (<-asAddr (a.tmps.getD p undef)):Sem Value)).run cx.P w=.ok vs w/\aW cx.D ρ S w l vs
 |[],l,h=>by
   simp only[qa,aj]at h;subst h;exact⟨[],by simp,.nil⟩
 |.tmp t::r,l,h=>by
   simp only[qa]at h;split at h
   ·rename_i l1 h1;simp only[aj]at h;subst h;obtain⟨vs,q1,q2⟩:=Fp hD h0 bn r l1 h1;refine⟨a.tmps.getD t undef::vs,?_,.cons ?_ q2⟩
    ·simp only[List.mapM_cons,Sem.run_bind,Sem.run_pure,Result.andThen_ok];rw[q1];rfl
    ·rw[fB,l9];cases hg:st.tm[t]? with
     |none=>exact .any _
     |some v=>
      obtain⟨x,hx,-⟩:=bn.slots.get hg;rw[hx];exact bn.slots.rep h0 hg hx
   ·cases h
 |.cell p t::r,l,h=>by
   simp only[qa]at h;split at h
   ·rename_i v l1 hv h1;simp only[aj]at h;subst h;obtain⟨vs,q1,q2⟩:=Fp hD h0 bn r l1 h1;have hrep:Rep cx.D ρ S w (st.tm.getD p .any) (a.tmps.getD p undef):=by
     rw[fB,l9];cases hg:st.tm[p]? with
     |none=>exact .any _
     |some v=>
      obtain⟨x,hx,-⟩:=bn.slots.get hg;rw[hx];exact bn.slots.rep h0 hg hx
    obtain⟨u,hu,hr⟩:=I9 hD bn.heap hv hrep;refine⟨u::vs,?_,.cons hr q2⟩;have hu':(do loadVar t (<-asAddr (a.tmps.getD p undef)):Sem Value).run cx.P w=.ok u w:=by
     generalize a.tmps.getD p undef=X at hu;unfold Instr.loadAt at hu;simp only[Sem.run_bind]at hu⊢;cases X<;>first
      |(simp[Instr.sureAddr,Result.andThen]at hu;done)
      |skip
     rename_i pa;cases pa with
     |none=>simp[Instr.sureAddr,Result.andThen,stuck]at hu
     |some pa=>simpa [Instr.sureAddr,asAddr]using hu
    simp only[List.mapM_cons,Sem.run_bind]at hu'⊢;rw[hu'];simp only[Result.andThen_ok];rw[q1];rfl
   ·cases h
theorem X1{cx:Cx K}(hD:bu cx.D){fn:Func}{st:St K}{a:Act}(h0:dr st.tm)(bn:Sat cx ρ S a w st){v:AV K}(h:resV cx fn st=some v):∃u,(results fn a.tmps).run cx.P w=.ok u w/\Rep cx.D ρ S w v u:=by
 have key:∀l,qa cx st fn.results.toList=some l->∃vs:List Value,aW cx.D ρ S w l vs/\(results fn a.tmps).run cx.P w=.ok (if h:vs.toArray.size=1 then vs.toArray[0]else .tuple vs.toArray) w:=fun l hl=>by
  obtain⟨vs,q1,q2⟩:=Fp hD h0 bn _ l hl;refine⟨vs,q2,?_⟩;unfold results;rw[Array.mapM_eq_mapM_toList];simp only[map_eq_pure_bind,bind_assoc,pure_bind,Sem.run_bind];exact Eq.trans (fN (fun z:Result (List Value)=>z.andThen fun l w'=>Sem.run cx.P (pure (if h:l.toArray.size=1 then l.toArray[0]else Value.tuple l.toArray)) w') q1) rfl
 unfold resV at h;split at h
 ·rename_i v1 hl;simp only[aj]at h;subst h;obtain⟨vs,q1,q2⟩:=key _ hl;obtain⟨x,r,rfl,hx,hr⟩:=q1.hJ;have:=hr.ou;subst this;exact⟨x,by rw[q2];rfl,nk bn.heap _ _ hx⟩
 ·rename_i l hne hl;simp only[aj]at h;subst h;obtain⟨vs,q1,q2⟩:=key _ hl;have q1':=xb bn.heap _ _ q1;refine⟨.tuple vs.toArray,?_,.bk q1'.1 q1'.2⟩;rw[q2,dif_neg];intro h1;have:l.length=1:=by rw[q1.1];simpa using h1
  match l,this with
  |[x],_=>exact hne x rfl
 ·cases h
end Go.V
namespace Go.V
open Go
variable {K :cK}{ρ ρ':List Value}{S S':Nat->Prop}{w w':World}{H H':List (Ob K)}
inductive ns (X Y:Type):Type 1 where
 |nx (x:X)
 |out (y:Y)
 |bad
 |br (b:Bool) (l r:ns X Y)
 |sum {A B:Type} (s:A⊕B) (f:A->ns X Y) (g:B->ns X Y)
noncomputable def ns.elim{X Y R:Type}(t:ns X Y)(nx:X->R)(out:Y->R)(bad:R):R:=
 ns.rec (motive:=fun _=>R) nx out bad (fun b _ _ l r=>cond b l r) (fun s _ _ f g=>Sum.rec (motive:=fun _=>R) f g s) t
theorem ns.cases{X Y:Type}(t:ns X Y):(∃x,∀(R:Type) nx out bad,t.elim (R:=R) nx out bad=nx x)\/(∃y,∀(R:Type) nx out bad,t.elim (R:=R) nx out bad=out y)\/∀(R:Type) nx out bad,t.elim (R:=R) nx out bad=bad:=by
 induction t with
 |nx x=>exact .inl ⟨x,fun _ _ _ _=>rfl⟩
 |out y=>exact .inr (.inl ⟨y,fun _ _ _ _=>rfl⟩)
 |bad=>exact .inr (.inr fun _ _ _ _=>rfl)
 |br b l r ihl ihr=>cases b;exact ihr;exact ihl
 |sum s f g X2 X3=>
  cases s with
  |inl a=>exact X2 a
  |inr b=>exact X3 b
noncomputable def iter{X Y:Type}(step:X->ns X Y):Nat->X->Option Y
 |0,_=>none
 |n+1,x=>(step x).elim (iter step n) some none
structure lq (K:cK) (X Y:Type) where
 n:Nat
 n0:Nat
 ins:List Nat
 outs:List Nat
 start:List (AV K)->List (Ob K)->Option X
 vals:X->List (AV K)
 X4:X->List (Ob K)
 step:X->ns X Y
 chk:X->Bool
 fin:X->Y
 out:Y->{R:Type}->(Ex->List (AV K)->List (Ob K)->R)->R
variable {X Y:Type}
def lq.st(M:lq K X Y)(x:X):St K:=⟨d4 (List.replicate M.n .any) M.ins (M.vals x),M.X4 x,true⟩
def lq.fst(M:lq K X Y)(y:Y):Ex×St K:=M.out y fun e vs Ho=>(e,⟨d4 (List.replicate M.n .any) M.outs vs,Ho,true⟩)
def lq.Lh(M:lq K X Y):bZ K:={
 n:=M.n
 ins:=M.ins
 outs:=M.outs
 run vs H k:=match M.start vs H with
  |some x=>cond (M.chk x) (M.out (M.fin x) k) none
  |none=>none}
noncomputable def lq.tree(M:lq K X Y)(x:X):Option (St K⊕Ex×St K):=(M.step x).elim (fun x'=>some (.inl (M.st x'))) (fun y=>some (.inr (M.fst y))) none
theorem Lj{cx:Cx K}(hD:bu cx.D){s s1:St K}(h:qd cx s=some (true,s1)):s1.tm=s.tm/\s1.ok=s.ok/\s1.H.length=s.H.length/\∀(n0:Nat)(ρ:List Value)(S:Nat->Prop)(a:Act)(w:World),Sat cx ρ S a w s->Sat cx ρ S a w s1/\Step cx.D n0 ρ S s.H w ρ S s1.H w:=by
 unfold qd at h;split at h
 ·simp only[aj,aF,true_and]at h;subst h;exact⟨rfl,rfl,rfl,fun n0 ρ S a w hs=>⟨hs,Step.refl⟩⟩
 ·split at h
  ·rename_i H' b t hsh;simp only[aj,aF]at h;obtain⟨rfl,rfl⟩:=h;have hl:H'.length=s.H.length:=by
    unfold shut at hsh;split at hsh
    ·simp only[aj,aF]at hsh;rw[<-hsh.1]
    ·split at hsh
     ·split at hsh
      ·split at hsh
       ·split at hsh
        ·simp only[aj,aF]at hsh;rw[<-hsh.1];simp[u9]
        ·cases hsh
       ·cases hsh
      ·cases hsh
     ·cases hsh
   refine⟨rfl,rfl,hl,fun n0 ρ S a w hs=>?_⟩;obtain⟨g1,g2,-⟩:=J0 (n0:=n0) hD hs.heap hsh;exact⟨⟨g1,hs.slots,hs.defers⟩,g2⟩
  ·cases h
theorem Ll{cx:Cx K}(hD:bu cx.D)(hc:aZ cx)(hm:cx.P.follows .mixedOrders=true){c:Code}(hl:gp cx c){n0:Nat}{keep outs:List Nat}{st:St K}{r:St K⊕Ex×St K}(h:zU cx n0 keep outs c st=some r)(h0:dr st.tm):
 st.ok=true/\match r with
   |.inl st'=>dr st'.tm/\Tr cx n0 c st .normal st'
   |.inr (e,st')=>e≠.normal/\Tr cx n0 c st e st':=by
 unfold zU at h;obtain⟨e,s,h1,h2,h3⟩:=nr hD hc hm c hl _ _ _ h;cases hok:s.ok with
 |false=>rw[hok]at h1;cases h1
 |true=>
  rw[hok]at h1;simp only[af]at h1;obtain⟨n1,htr⟩:=h3 hok h0;refine⟨h2 hok,?_⟩;have key:∀keep' s1 s',qd cx s=some (true,s1)->rR n0 keep' s1=some s'->dr s'.tm/\Tr cx n0 c st e s':=fun keep' s1 s' hcl hn=>by
   obtain⟨g1,g2⟩:dr s'.tm/\(dr s1.tm->Goes cx n0 s1 s'):=(AN (cx:=cx) hD hn).2;obtain⟨c1,c2,c3,c4⟩:=Lj hD hcl;refine⟨g1,fun ρ S a w hn0 bn=>wp_mono (htr n0 ρ S a w hn0 bn) ?_⟩
   rintro e' a' w' ⟨he,hn1,ρ1,S1,fa,hst1⟩
   obtain⟨X5,X6⟩:=c4 n0 ρ1 S1 a' w' fa;obtain⟨hn2,ρ2,S2,xz,hst2⟩:=g2 (by rw[c1];exact n1) ρ1 S1 a' w' (by rw[c3];exact hn1) X5;exact⟨he,hn2,ρ2,S2,xz,(hst1.trans X6).trans hst2⟩
  cases e with
  |normal=>
   dsimp only at h1;split at h1
   ·rename_i b s1 hcl;cases b with
    |false=>cases h1
    |true=>
    simp only[af]at h1;split at h1
    ·rename_i s' hn;simp only[aj]at h1;subst h1;exact key _ _ _ hcl hn
    ·cases h1
   ·cases h1
  |exit id=>
   dsimp only at h1;split at h1
   ·rename_i b s1 hcl;cases b with
    |false=>cases h1
    |true=>
    simp only[af]at h1;split at h1
    ·rename_i s' hn;simp only[aj]at h1;subst h1;exact⟨by simp,(key _ _ _ hcl hn).2⟩
    ·cases h1
   ·cases h1
  |ret=>
   dsimp only at h1;split at h1
   ·rename_i b s1 hcl;cases b with
    |false=>cases h1
    |true=>
    simp only[af]at h1;split at h1
    ·rename_i s' hn;simp only[aj]at h1;subst h1;exact⟨by simp,(key _ _ _ hcl hn).2⟩
    ·cases h1
   ·cases h1
theorem Lm{cx:Cx K}(hD:bu cx.D)(hc:aZ cx)(hm:cx.P.follows .mixedOrders=true){c:Code}(hl:gp cx c){M:lq K X Y}(hr:∀x,zU cx M.n0 M.ins M.outs c (M.st x)=M.tree x){ρ0:List Value}{S0:Nat->Prop}{H0:List (Ob K)}{w0:World}{y:Y}:
 ∀(n:Nat)(x:X),iter M.step n x=some y->dr (M.st x).tm->∀(ρ:List Value)(S:Nat->Prop)(a:Act)(w:World),M.n0<=(M.st x).H.length->Sat cx ρ S a w (M.st x)->Step cx.D M.n0 ρ0 S0 H0 w0 ρ S (M.st x).H w->
  Code.rounds cx.P c (fun e' a' w'=>e'=(M.fst y).1.mf/\M.n0<=(M.fst y).2.H.length/\∃ρ' S',Sat cx ρ' S' a' w' (M.fst y).2/\Step cx.D M.n0 ρ0 S0 H0 w0 ρ' S' (M.fst y).2.H w') n a w
 |0,x,h,_,_,_,_,_,_,_,_=>by simp[iter]at h
 |n+1,x,h,h0,ρ,S,a,w,hn,bn,hst=>by
  have hrx:=hr x;rw[rounds_succ];simp only[iter]at h;unfold lq.tree at hrx;rcases(M.step x).cases with⟨x',hx⟩|⟨y',hy⟩|hb
  ·rw[hx]at h hrx;obtain⟨-,n1,htr⟩:=Ll hD hc hm hl hrx h0;refine wp_mono (htr ρ S a w hn bn) ?_
   rintro e' a' w' ⟨rfl,hn1,ρ1,S1,fa,hst1⟩
   exact Lm hD hc hm hl hr n x' h n1 ρ1 S1 a' w' hn1 fa (hst.trans hst1)
  ·rw[hy]at h hrx;simp only[aj]at h;subst h;obtain⟨-,hne,htr⟩:=Ll hD hc hm hl hrx h0;refine wp_mono (htr ρ S a w hn bn) ?_
   rintro e' a' w' ⟨rfl,hn1,ρ1,S1,fa,hst1⟩
   have:∀(e:Ex),e≠.normal->∀(N:Act->World->Prop)(Q:Exit->Act->World->Prop),Q e.mf a' w'->Exit.then N Q e.mf a' w':=fun e he N Q hq=>by
    cases e with
    |normal=>exact absurd rfl he
    |exit id=>exact hq
    |ret=>exact hq
   exact this _ hne _ _ ⟨rfl,hn1,ρ1,S1,fa,hst.trans hst1⟩
  ·rw[hb]at h;cases h
theorem lq.ok{cx:Cx K}(hD:bu cx.D)(hc:aZ cx)(hm:cx.P.follows .mixedOrders=true){c:Code}(hl:gp cx c)(M:lq K X Y)(hr:∀x,zU cx M.n0 M.ins M.outs c (M.st x)=M.tree x)
 (hs:∀vs Hi x,M.start vs Hi=some x->Hi.length=M.n0/\Goes cx M.n0 ⟨d4 (List.replicate M.n .any) M.ins vs,Hi,true⟩ (M.st x)) (hno:∀x,(M.vals x).all (fun v=> !v.iJ)=true)
 (hf:∀x,M.chk x=true->∃n,iter M.step n x=some (M.fin x)) (ho:∀y,∃e vs Ho,∀(R:Type)(k:Ex->List (AV K)->List (Ob K)->R),M.out y k=k e vs Ho):b9 cx c M.Lh:=by
 intro vals Hi R k r h;simp only[lq.Lh]at h;split at h
 ·rename_i x hx;cases Fq:M.chk x with
  |false=>rw[Fq]at h;cases h
  |true=>
   rw[Fq]at h;simp only[af]at h;obtain⟨n,hn⟩:=hf x Fq;obtain⟨e,vs,Ho,hout⟩:=ho (M.fin x);rw[hout]at h;refine⟨e,vs,Ho,h,?_⟩;obtain⟨hlen,hgo⟩:=hs vals Hi x hx;have X7:M.fst (M.fin x)=(e,⟨d4 (List.replicate M.n .any) M.outs vs,Ho,true⟩):=hout _ _;have h0:dr (M.st x).tm:=fun t g b v e=>by
    rcases vl M.ins (M.vals x) _ t _ e with h1|⟨i,-,h2⟩
    ·rw[iF]at h1;split at h1<;>cases h1
    ·have:=ig.1 (hno x) _ (gz h2);simp[AV.iJ]at this
   intro ρ S a w hn0 bn;rw[hlen]at hn0⊢;obtain⟨hn1,ρ1,S1,fa,hst1⟩:=hgo ρ S a w (by show M.n0<=Hi.length;omega) bn;have:=Lm hD hc hm hl hr n x hn h0 ρ1 S1 a w hn1 fa hst1;rw[X7]at this;exact wp_loop_rounds n this
 ·cases h
end Go.V
namespace Go.V
open Go
variable {K :cK}{D:bg K}{ρ ρ':List Value}{S S':Nat->Prop}{w w':World}{H H':List (Ob K)}
inductive Sh (K:cK) where
 |any
 |int (k:IntKind)
 |bool
 |str
 |ax (c:K.U)
 |el (c:K.U)
 |rp (c:K.U) (off:Nat)
 |da
 |cP
 |ptr (h off:Nat)
 |own (h:Nat)
 |fn (g:Nat) (caps:List (Sh K))
 |agg (l:List (Sh K))
 |bk (l:List (Sh K))
 |np (h:Nat)
 |ep (h:Nat) (c:K.U) (off:Nat)
inductive aR (K:cK) where
 |dead
 |box (l:List (Sh K))
 |el (c:K.U)
 |arr (c:K.U)
 |fR (c:K.U)
 |tree (c:K.U)
mutual
def Sh.T:Sh K->Type
 |.int _=>Int
 |.bool=>Bool
 |.str=>List UInt8
 |.ax c=>List (K.El c)
 |.el c=>K.El c
 |.rp c _=>K.El c
 |.ep _ _ _=>Nat
 |.fn _ l=>Sh.Ts l
 |.agg l=>Sh.Ts l
 |.bk l=>Sh.Ts l
 |_=>Unit
def Sh.Ts:List (Sh K)->Type
 |[]=>Unit
 |s::r=>Sh.T s×Sh.Ts r
end
def aR.T:aR K->Type
 |.dead=>Unit
 |.box l=>Sh.Ts l
 |.el c=>K.El c
 |.arr c=>List (K.El c)
 |.fR c=>List (K.El c)
 |.tree c=>List (K.El c)
def aR.Ts:List (aR K)->Type
 |[]=>Unit
 |s::r=>aR.T s×aR.Ts r
mutual
def Sh.enc(D:bg K):(s:Sh K)->s.T->AV K
 |.any,_=>.any
 |.int k,n=>.int k n
 |.bool,b=>.bool b
 |.str,s=>.str s
 |.ax c,l=>.ax c l
 |.el c,x=>.agg (D.cells c x)
 |.rp c o,x=>.rp c x o
 |.da,_=>.da
 |.cP,_=>.cP
 |.ptr h o,_=>.ptr h o
 |.own h,_=>.sl h
 |.np h,_=>.np h
 |.ep h c o,i=>.ep h (K.sz c) i o
 |.fn g l,x=>.fn g (Sh.encs D l x)
 |.agg l,x=>.agg (Sh.encs D l x)
 |.bk l,x=>.bk (Sh.encs D l x)
def Sh.encs(D:bg K):(l:List (Sh K))->Sh.Ts l->List (AV K)
 |[],_=>[]
 |s::r,x=>Sh.enc D s x.1::Sh.encs D r x.2
end
def aR.enc(D:bg K):(s:aR K)->s.T->Ob K
 |.dead,_=>.dead
 |.box l,x=>.box (Sh.encs D l x)
 |.el c,x=>.box (D.cells c x)
 |.arr c,x=>.arr c x
 |.fR c,x=>.fR c x
 |.tree c,x=>.tree c x
def aR.encs(D:bg K):(l:List (aR K))->aR.Ts l->List (Ob K)
 |[],_=>[]
 |s::r,x=>aR.enc D s x.1::aR.encs D r x.2
def AV.getInt(k:IntKind):AV K->Option Int
 |.int k' n=>if k=k' then some n else none
 |_=>none
def AV.getBool:AV K->Option Bool
 |.bool b=>some b
 |_=>none
def AV.Ft:AV K->Option (List UInt8)
 |.str s=>some s
 |_=>none
def AV.AO:AV K->Option (List (AV K))
 |.agg l=>some l
 |_=>none
def AV.Fv:AV K->Option (List (AV K))
 |.bk l=>some l
 |_=>none
def AV.getFn(g:Nat):AV K->Option (List (AV K))
 |.fn g' l=>if g=g' then some l else none
 |_=>none
def AV.Fz(c:K.U)(o:Nat):AV K->Option (K.El c)
 |.rp c' x o'=>if o=o' then match K.je c' c with
   |.isTrue h=>some (h ▸ x)
   |.isFalse _=>none else none
 |_=>none
def AV.FA:AV K->Option Unit
 |.da=>some ()
 |_=>none
def AV.FB:AV K->Option Unit
 |.cP=>some ()
 |_=>none
def AV.FC(h o:Nat):AV K->Option Unit
 |.ptr h' o'=>if h=h' then if o=o' then some ()else none else none
 |_=>none
def AV.FD(h:Nat):AV K->Option Unit
 |.sl h'=>if h=h' then some ()else none
 |_=>none
def AV.FG(h:Nat):AV K->Option Unit
 |.np h'=>if h=h' then some ()else none
 |_=>none
def AV.FH(h:Nat)(c:K.U)(o:Nat):AV K->Option Nat
 |.ep h' st i o'=>if h=h' then if K.sz c=st then if o=o' then some i else none else none else none
 |_=>none
theorem AV.X8{h:Nat}{c:K.U}{o:Nat}{v:AV K}{n:Nat}(hh:v.FH h c o=some n):v=.ep h (K.sz c) n o:=by
 unfold AV.FH at hh;split at hh
 ·split at hh
  ·split at hh
   ·split at hh
    ·rename_i h1 h2 h3;subst h1;subst h2;subst h3;simp only[aj]at hh;subst hh;rfl
    ·cases hh
   ·cases hh
  ·cases hh
 ·cases hh
theorem AV.FI{k:IntKind}{v:AV K}{n:Int}(h:v.getInt k=some n):v=.int k n:=by
 unfold AV.getInt at h;split at h
 ·split at h
  ·rename_i hk;subst hk;simp only[aj]at h;subst h;rfl
  ·cases h
 ·cases h
theorem AV.FK{v:AV K}{n:Bool}(h:v.getBool=some n):v=.bool n:=by
 unfold AV.getBool at h;split at h
 ·simp only[aj]at h;subst h;rfl
 ·cases h
theorem AV.FM{v:AV K}{n:List UInt8}(h:v.Ft=some n):v=.str n:=by
 unfold AV.Ft at h;split at h
 ·simp only[aj]at h;subst h;rfl
 ·cases h
theorem AV.Ln{v:AV K}{n:List (AV K)}(h:v.AO=some n):v=.agg n:=by
 unfold AV.AO at h;split at h
 ·simp only[aj]at h;subst h;rfl
 ·cases h
theorem AV.X9{v:AV K}{n:List (AV K)}(h:v.Fv=some n):v=.bk n:=by
 unfold AV.Fv at h;split at h
 ·simp only[aj]at h;subst h;rfl
 ·cases h
theorem AV.Ya{g:Nat}{v:AV K}{n:List (AV K)}(h:v.getFn g=some n):v=.fn g n:=by
 unfold AV.getFn at h;split at h
 ·split at h
  ·rename_i hk;subst hk;simp only[aj]at h;subst h;rfl
  ·cases h
 ·cases h
theorem AV.Yb{c:K.U}{o:Nat}{v:AV K}{n:K.El c}(h:v.Fz c o=some n):v=.rp c n o:=by
 unfold AV.Fz at h;split at h
 ·split at h
  ·rename_i hk;subst hk;split at h
   ·rename_i he _;subst he;simp only[aj]at h;subst h;rfl
   ·cases h
  ·cases h
 ·cases h
theorem AV.Yc{v:AV K}{n:Unit}(h:v.FA=some n):v=.da:=by
 unfold AV.FA at h;split at h
 ·rfl
 ·cases h
theorem AV.Yd{v:AV K}{n:Unit}(h:v.FB=some n):v=.cP:=by
 unfold AV.FB at h;split at h
 ·rfl
 ·cases h
theorem AV.Ye{a o:Nat}{v:AV K}{n:Unit}(h:v.FC a o=some n):v=.ptr a o:=by
 unfold AV.FC at h;split at h
 ·split at h
  ·split at h
   ·rename_i h1 h2;subst h1;subst h2;rfl
   ·cases h
  ·cases h
 ·cases h
theorem AV.Yf{a:Nat}{v:AV K}{n:Unit}(h:v.FD a=some n):v=.sl a:=by
 unfold AV.FD at h;split at h
 ·split at h
  ·rename_i h1;subst h1;rfl
  ·cases h
 ·cases h
theorem AV.Lo{a:Nat}{v:AV K}{n:Unit}(h:v.FG a=some n):v=.np a:=by
 unfold AV.FG at h;split at h
 ·split at h
  ·rename_i h1;subst h1;rfl
  ·cases h
 ·cases h
def sure{α:Type}:Option (α×Bool)->Option α
 |some (x,true)=>some x
 |_=>none
theorem Lp{α:Type}{o:Option (α×Bool)}{x:α}(h:sure o=some x):o=some (x,true):=by
 unfold sure at h;split at h
 ·simp only[aj]at h;subst h;rfl
 ·cases h
mutual
def Sh.dec(D:bg K):(s:Sh K)->AV K->Option s.T
 |.any,_=>some ()
 |.int k,v=>v.getInt k
 |.bool,v=>v.getBool
 |.str,v=>v.Ft
 |.ax c,v=>elems [] c v
 |.el c,v=>match v.AO with
   |some l=>sure (D.dec c l)
   |none=>none
 |.rp c o,v=>v.Fz c o
 |.da,v=>v.FA
 |.cP,v=>v.FB
 |.ptr h o,v=>v.FC h o
 |.own h,v=>v.FD h
 |.np h,v=>v.FG h
 |.ep h c o,v=>v.FH h c o
 |.fn g l,v=>match v.getFn g with
   |some l'=>Sh.dV D l l'
   |none=>none
 |.agg l,v=>match v.AO with
   |some l'=>Sh.dV D l l'
   |none=>none
 |.bk l,v=>match v.Fv with
   |some l'=>Sh.dV D l l'
   |none=>none
def Sh.dV(D:bg K):(l:List (Sh K))->List (AV K)->Option (Sh.Ts l)
 |[],[]=>some ()
 |s::r,v::l=>match Sh.dec D s v,Sh.dV D r l with
  |some x,some y=>some (x,y)
  |_,_=>none
 |_,_=>none
end
def Ob.vm:Ob K->Option (List (AV K))
 |.box l=>some l
 |_=>none
def Ob.FN(c:K.U):Ob K->Option (List (K.El c))
 |.arr c' l=>match K.je c' c with
   |.isTrue h=>some (h ▸ l)
   |.isFalse _=>none
 |_=>none
def Ob.FO(c:K.U):Ob K->Option (List (K.El c))
 |.fR c' l=>match K.je c' c with
   |.isTrue h=>some (h ▸ l)
   |.isFalse _=>none
 |_=>none
def Ob.FP(c:K.U):Ob K->Option (List (K.El c))
 |.tree c' l=>match K.je c' c with
   |.isTrue h=>some (h ▸ l)
   |.isFalse _=>none
 |_=>none
theorem Ob.Lq{v:Ob K}{n:List (AV K)}(h:v.vm=some n):v=.box n:=by
 unfold Ob.vm at h;split at h
 ·simp only[aj]at h;subst h;rfl
 ·cases h
theorem Ob.Yg{c:K.U}{v:Ob K}{n:List (K.El c)}(h:v.FN c=some n):v=.arr c n:=by
 unfold Ob.FN at h;split at h
 ·split at h
  ·rename_i he _;subst he;simp only[aj]at h;subst h;rfl
  ·cases h
 ·cases h
theorem Ob.Yh{c:K.U}{v:Ob K}{n:List (K.El c)}(h:v.FO c=some n):v=.fR c n:=by
 unfold Ob.FO at h;split at h
 ·split at h
  ·rename_i he _;subst he;simp only[aj]at h;subst h;rfl
  ·cases h
 ·cases h
theorem Ob.Yi{c:K.U}{v:Ob K}{n:List (K.El c)}(h:v.FP c=some n):v=.tree c n:=by
 unfold Ob.FP at h;split at h
 ·split at h
  ·rename_i he _;subst he;simp only[aj]at h;subst h;rfl
  ·cases h
 ·cases h
def aR.dec(D:bg K):(s:aR K)->Ob K->Option s.T
 |.dead,_=>some ()
 |.box l,o=>match o.vm with
   |some cs=>Sh.dV D l cs
   |none=>none
 |.el c,o=>match o.vm with
   |some cs=>sure (D.dec c cs)
   |none=>none
 |.arr c,o=>o.FN c
 |.fR c,o=>o.FO c
 |.tree c,o=>o.FP c
def aR.dV(D:bg K):(l:List (aR K))->List (Ob K)->Option (aR.Ts l)
 |[],[]=>some ()
 |s::r,v::l=>match aR.dec D s v,aR.dV D r l with
  |some x,some y=>some (x,y)
  |_,_=>none
 |_,_=>none
theorem Yj(hD:bu D){c:K.U}{v:AV K}{l:List (K.El c)}(h:elems [] c v=some l){u:Value}(hr:Rep D ρ S w v u):Rep D ρ S w (.ax c l) u:=by
 unfold elems at h;split at h
 ·simp only[aj]at h;subst h;cases hr;exact .eP _ _
 ·split at h
  ·rename_i he _;subst he;simp only[aj]at h;subst h;exact hr
  ·cases h
 ·simp at h
 ·cases h
mutual
theorem Sh.vn(hD:bu D):∀(s:Sh K)(v:AV K)(x:s.T),Sh.dec D s v=some x->∀u,Rep D ρ S w v u->Rep D ρ S w (Sh.enc D s x) u
 |.any,v,x,h,u,hr=>.any u
 |.int k,v,x,h,u,hr=>by rw[AV.FI h]at hr;exact hr
 |.bool,v,x,h,u,hr=>by rw[AV.FK h]at hr;exact hr
 |.str,v,x,h,u,hr=>by rw[AV.FM h]at hr;exact hr
 |.ax c,v,x,h,u,hr=>Yj hD h hr
 |.el c,v,x,h,u,hr=>by
   unfold Sh.dec at h;split at h
   ·rename_i l hl;rw[AV.Ln hl]at hr;cases hr with
    |agg hl hh=>
     have:=hD.dec c _ _ (Lp h) ρ S w _ ⟨hl,hh⟩;exact .agg this.1 this.2
   ·cases h
 |.rp c o,v,x,h,u,hr=>by rw[AV.Yb h]at hr;exact hr
 |.da,v,x,h,u,hr=>by rw[AV.Yc h]at hr;exact hr
 |.cP,v,x,h,u,hr=>by rw[AV.Yd h]at hr;exact hr
 |.ptr a b,v,x,h,u,hr=>by rw[AV.Ye h]at hr;exact hr
 |.own a,v,x,h,u,hr=>by rw[AV.Yf h]at hr;exact hr
 |.np a,v,x,h,u,hr=>by rw[AV.Lo h]at hr;exact hr
 |.ep a c o,v,x,h,u,hr=>by rw[AV.X8 h]at hr;exact hr
 |.fn g l,v,x,h,u,hr=>by
   unfold Sh.dec at h;split at h
   ·rename_i l' hl;rw[AV.Ya hl]at hr;cases hr with
    |fn hl hh=>
     have:=Sh.qu hD l _ x h _ ⟨hl,hh⟩;exact .fn this.1 this.2
   ·cases h
 |.agg l,v,x,h,u,hr=>by
   unfold Sh.dec at h;split at h
   ·rename_i l' hl;rw[AV.Ln hl]at hr;cases hr with
    |agg hl hh=>
     have:=Sh.qu hD l _ x h _ ⟨hl,hh⟩;exact .agg this.1 this.2
   ·cases h
 |.bk l,v,x,h,u,hr=>by
   unfold Sh.dec at h;split at h
   ·rename_i l' hl;rw[AV.X9 hl]at hr;cases hr with
    |bk hl hh=>
     have:=Sh.qu hD l _ x h _ ⟨hl,hh⟩;exact .bk this.1 this.2
   ·cases h
theorem Sh.qu(hD:bu D):∀(l:List (Sh K))(vs:List (AV K))(x:Sh.Ts l),Sh.dV D l vs=some x->∀us,aW D ρ S w vs us->aW D ρ S w (Sh.encs D l x) us
 |[],vs,x,h,us,hr=>by
   cases vs with
   |nil=>exact hr
   |cons v r=>unfold Sh.dV at h;cases h
 |s::r,vs,x,h,us,hr=>by
  cases vs with
  |nil=>unfold Sh.dV at h;cases h
  |cons v l=>
   unfold Sh.dV at h;split at h
   ·rename_i a b h1 h2;have h:=gU h;subst h;obtain⟨u,t,rfl,g1,g2⟩:=hr.hJ;exact .cons (Sh.vn hD s v a h1 u g1) (Sh.qu hD r l b h2 t g2)
   ·cases h
end
theorem Yk{l:List (AV K)}(h:fY l=true):jR l=false:=by
 cases l with
 |nil=>rfl
 |cons v r=>
  simp only[fY,bz]at h;cases v<;>first|rfl|(simp[AV.closed]at h)
theorem Yl{l:List (Sh K)}{cs:List (AV K)}{x:Sh.Ts l}(h:Sh.dV D l cs=some x)(hn:jR (Sh.encs D l x)=true):jR cs=true:=by
 cases l with
 |nil=>unfold Sh.encs at hn;cases hn
 |cons s r=>
  cases cs with
  |nil=>unfold Sh.dV at h;cases h
  |cons v vs=>
   unfold Sh.dV at h;split at h
   ·rename_i a b h1 h2;have h:=gU h;subst h;change jR (Sh.enc D s a::Sh.encs D r b)=true at hn;cases s
    all_goals first
     |exact absurd (show false=true from hn) (by simp)
     |(have h3:=AV.Lo (v:=v) h1;rw[h3];rfl)
   ·cases h
theorem aR.vn(hD:bu D)(s:aR K)(o:Ob K)(x:s.T)(h:aR.dec D s o=some x):((aR.enc D s x).live=true->o.live=true/\∀w r b,bU D w (aR.enc D s x) r b->bU D w o r b)/\∀r,fx D ρ S w o r->fx D ρ S w (aR.enc D s x) r:=by
 cases s with
 |dead=>exact⟨fun h=>Bool.noConfusion h,fun _ _=>trivial⟩
 |box l=>
  change(match o.vm with
   |some cs=>Sh.dV D l cs
   |none=>none)=some x at h
  split at h
  ·rename_i cs hcs;rw[Ob.Lq hcs];refine⟨fun _=>⟨rfl,fun _ _ _ h=>h⟩,fun r hh=>?_⟩;obtain⟨b,vs,T,e,h1,h2,h3⟩:=hh;exact⟨b,vs,T,e,h1,Sh.qu hD l _ x h _ h2,fun hn=>h3 (Yl h hn)⟩
  ·cases h
 |el c=>
  change(match o.vm with
   |some cs=>sure (D.dec c cs)
   |none=>none)=some x at h
  split at h
  ·rename_i cs hcs;rw[Ob.Lq hcs];refine⟨fun _=>⟨rfl,fun _ _ _ h=>h⟩,fun r hh=>?_⟩;obtain⟨b,vs,T,e,h1,h2,h3⟩:=hh;exact⟨b,vs,T,e,h1,hD.dec c _ _ (Lp h) ρ S w _ h2,fun hn=>by rw[Yk (hD.closed c x)]at hn;cases hn⟩
  ·cases h
 |arr c=>rw[Ob.Yg h];exact⟨fun h=>⟨h,fun _ _ _ h=>h⟩,fun _ h=>h⟩
 |fR c=>rw[Ob.Yh h];exact⟨fun h=>⟨h,fun _ _ _ h=>h⟩,fun _ h=>h⟩
 |tree c=>rw[Ob.Yi h];exact⟨fun h=>⟨h,fun _ _ _ h=>h⟩,fun _ h=>h⟩
theorem aR.AP:∀(l:List (aR K))(os:List (Ob K))(x:aR.Ts l),aR.dV D l os=some x->(aR.encs D l x).length=os.length/\∀(i:Nat) o',(aR.encs D l x)[i]?=some o'->∃o,os[i]?=some o/\∃(s:aR K)(y:s.T),aR.dec D s o=some y/\o'=aR.enc D s y
 |[],os,x,h=>by
   cases os with
   |nil=>exact⟨rfl,fun i o' h=>by simp[aR.encs]at h⟩
   |cons v r=>simp[aR.dV]at h
 |s::r,os,x,h=>by
  cases os with
  |nil=>simp[aR.dV]at h
  |cons v l=>
   simp only[aR.dV]at h;split at h
   ·rename_i a b h1 h2;have h:=gU h;subst h;obtain⟨g1,g2⟩:=aR.AP r l b h2;refine⟨by simp only[aR.encs,dH];rw[g1],fun i o' hi=>?_⟩;cases i with
    |zero=>simp[aR.encs]at hi;exact⟨v,rfl,s,a,h1,hi.symm⟩
    |succ i=>simp[aR.encs]at hi;obtain⟨o,q⟩:=g2 i o' hi;exact⟨o,by simpa using q.1,q.2⟩
   ·cases h
structure Wk (D:bg K) (vs:List (AV K)) (H:List (Ob K)) (vs':List (AV K)) (H':List (Ob K)):Prop where
 len:H'.length=H.length
 FQ:∀ρ S w us,aW D ρ S w vs us->aW D ρ S w vs' us
 heap:∀ρ S w,aK D ρ S w H->aK D ρ S w H'
 own:∀w ρ b,Own D w ρ H' b->Own D w ρ H b
theorem Wk.step{vs vs':List (AV K)}{n0:Nat}(h:Wk D vs H vs' H'):Step D n0 ρ S H w ρ S H' w:=
 ⟨rfl,rfl,rfl,bH _,fun _ _ _=>rfl,fun b hb=>.inl (h.own _ _ b hb),fun _ h=>h,fun _ h=>.inl h,fun _ _=>rfl⟩
theorem aR.Lr{l:List (aR K)}{os:List (Ob K)}{x:aR.Ts l}(hD:bu D)(h:aR.dV D l os=some x)(w:World)(ρ:List Value)(b:Nat)(hb:Own D w ρ (aR.encs D l x) b):Own D w ρ os b:=by
 obtain⟨i,o',r,h1,h2,h3,h4⟩:=hb;obtain⟨o,q1,s,y,q2,rfl⟩:=(aR.AP l os x h).2 i o' h1;have q3:=(aR.vn (ρ:=ρ) (S:=fun _=>False) (w:=w) hD s o y q2).1 h2;exact⟨i,o,r,q1,q3.1,h3,q3.2 _ _ _ h4⟩
theorem aR.qu{l:List (aR K)}{os:List (Ob K)}{x:aR.Ts l}(hD:bu D)(h:aR.dV D l os=some x)(hs:aK D ρ S w os):aK D ρ S w (aR.encs D l x):=by
 obtain⟨g1,g2⟩:=aR.AP l os x h;refine⟨by rw[g1];exact hs.len,fun i o' r h1 h2=>?_,fun i j o o' r r' b h1 h2 h3 h4 c1 c2 c3 c4=>?_,fun b hb=>hs.lt b (aR.Lr hD h w ρ b hb),hs.slt,hs.base⟩
 ·obtain⟨o,q1,s,y,q2,rfl⟩:=g2 i o' h1;exact(aR.vn hD s o y q2).2 r (hs.ob i o r q1 h2)
 ·obtain⟨o1,q1,s,y,q2,rfl⟩:=g2 i o h1;obtain⟨o2,p1,s',y',p2,rfl⟩:=g2 j o' c1;have a1:=(aR.vn (ρ:=ρ) (S:=S) (w:=w) hD s o1 y q2).1 h2;have a2:=(aR.vn (ρ:=ρ) (S:=S) (w:=w) hD s' o2 y' p2).1 c2;exact hs.ed i j o1 o2 r r' b q1 a1.1 h3 (a1.2 _ _ _ h4) p1 a2.1 c3 (a2.2 _ _ _ c4)
structure aU (K:cK) where
 vs:List (Sh K)
 os:List (aR K)
def aU.T(c:aU K):Type:=Sh.Ts c.vs×aR.Ts c.os
def aU.dec(D:bg K)(c:aU K)(vs:List (AV K))(H:List (Ob K)):Option c.T:=
 match Sh.dV D c.vs vs,aR.dV D c.os H with
 |some a,some b=>some (a,b)
 |_,_=>none
def aU.kF(D:bg K)(c:aU K)(x:c.T):List (AV K):=Sh.encs D c.vs x.1
def aU.lr(D:bg K)(c:aU K)(x:c.T):List (Ob K):=aR.encs D c.os x.2
theorem aU.xA(hD:bu D){c:aU K}{vs:List (AV K)}{x:c.T}(h:c.dec D vs H=some x):Wk D vs H (c.kF D x) (c.lr D x):=by
 unfold aU.dec at h;split at h
 ·rename_i a b h1 h2;have h:=gU h;subst h;exact⟨(aR.AP c.os H b h2).1,fun ρ S w us hr=>Sh.qu hD c.vs vs a h1 us hr,fun ρ S w hs=>aR.qu hD h2 hs,fun w ρ b' hb=>aR.Lr hD h2 w ρ b' hb⟩
 ·cases h
end Go.V
namespace Go.V
open Go
variable {K :cK}{ρ ρ':List Value}{S S':Nat->Prop}{w w':World}{H H':List (Ob K)}
def my(dp:K.U->Bool)(H:List (Ob K))(cs:List (List (Option K.U))):AV K->AV K×List (Ob K)
 |.bk l=>(.bk (fh dp H cs l).1,(fh dp H cs l).2)
 |v=>((fh dp H cs [v]).1.headD v,(fh dp H cs [v]).2)
def forgets:List Bool->List (AV K)->List (AV K)
 |[],vs=>vs
 |_::_,[]=>[]
 |true::r,_::vs=>.any::forgets r vs
 |false::r,v::vs=>v::forgets r vs
def AQ:List Bool->AV K->AV K
 |[],v=>v
 |l,.bk vs=>.bk (forgets l vs)
 |true::_,_=>.any
 |false::_,v=>v
theorem FR{D:bg K}:∀(l:List Bool)(vs:List (AV K))(us:List Value),aW D ρ S w vs us->aW D ρ S w (forgets l vs) us
 |[],vs,us,h=>by simpa only[forgets]using h
 |_::_,[],us,h=>by simpa only[forgets]using h
 |b::r,v::vs,us,h=>by
  obtain⟨u,t,rfl,h1,h2⟩:=h.hJ;cases b
  ·exact .cons h1 (FR r vs t h2)
  ·exact .cons (.any u) (FR r vs t h2)
theorem Ym{D:bg K}(l:List Bool)(v:AV K)(u:Value)(h:Rep D ρ S w v u):Rep D ρ S w (AQ l v) u:=by
 unfold AQ;split
 ·exact h
 ·cases h with
  |bk hl hh=>
   have:=FR l _ _ ⟨hl,hh⟩;exact .bk this.1 this.2
 ·exact .any _
 ·exact h
def FT(cx:Cx K)(fz:Bool)(fn:Func)(n0:Nat){R:Type}(fin:AV K->List (Ob K)->Option R)(e:Ex)(st:St K):Option R:=
 match e with
 |.exit _=>none
 |_=>match resV cx fn st with
  |some v0=>let v:=AQ cx.IL v0
   cond st.ok (cond fz (match zV cx.mv n0 (d3 (ik st.H (hands v)) v) (ik st.H (hands v))with
    |some (v',H')=>fin v' H'
    |none=>none) (match zV cx.mv n0 (my cx.deep st.H cx.fX v).1 (my cx.deep st.H cx.fX v).2 with
    |some (v',H')=>fin v' H'
    |none=>none)) none
  |none=>none
def AS(cx:Cx K)(fz:Bool)(fn:Func)(args:List (AV K))(H:List (Ob K)){R:Type}(fin:AV K->List (Ob K)->Option R):Option R:=
 match fn.body with
 |some c=>fw cx c ⟨args++List.replicate (fn.ntmps-args.length) .any,H,true⟩ (FT cx fz fn H.length fin)
 |none=>none
structure Ls (P:Program) (f:FuncId) (fn:Func):Prop where
 get:P.funcs[f]?=some fn
 name:(fn.name== "runtime.NumGoroutine")=false
theorem FU{D:bg K}(dp:K.U->Bool):∀(css:List (List (Option K.U)))(l:List (AV K))(H:List (Ob K))(ρ:List Value)(vs:List Value),aK D ρ S w H->aW D ρ S w l vs->uV D S w H ρ vs (fh dp H css l)
 |[],l,H,ρ,vs,hs,hr=>⟨ρ,by simpa [fh]using hs,by simpa [fh]using hr,by simpa [fh]using Step.refl,fun _ _ h=>h,by simp[fh],fun _ _ h=>by simpa [fh]using h⟩
 |cs::css,[],H,ρ,vs,hs,hr=>⟨ρ,by simpa [fh]using hs,by simpa [fh]using hr,by simpa [fh]using Step.refl,fun _ _ h=>h,by simp[fh],fun _ _ h=>by simpa [fh]using h⟩
 |cs::css,v::r,H,ρ,vs,hs,hr=>by
  obtain⟨u,t,rfl,h1,h2⟩:=hr.hJ;have fin:∀(v':AV K)(p:List (AV K)×List (Ob K))(us:List Value),(∀ρ',aW D ρ' S w p.1 us->Rep D ρ' S w v' u)->uV D S w H ρ us p->uV D S w H ρ (u::t) (v'::(fh dp p.2 css r).1,(fh dp p.2 css r).2):=fun v' p us hv hp=>by
   obtain⟨ρ1,g1,g2,g3,g4,g5,g6⟩:=hp;obtain⟨ρ2,k1,k2,k3,k4,k5,k6⟩:=FU dp css r p.2 ρ1 t g1 (h2.mono (fun _ h=>h) (fun _ _=>rfl) g4);exact⟨ρ2,k1,.cons ((hv ρ1 g2).mono (fun _ h=>h) (fun _ _=>rfl) k4) k2,g3.trans (k3.weaken g5),fun h r hr=>k4 h r (g4 h r hr),kX g5 k5,fun h o ho=>k6 h o (g6 h o ho)⟩
  have one:∀v,Rep D ρ S w v u->fh dp H (cs::css) (v::r)=((thaw dp H cs [v]).1.headD v::(fh dp (thaw dp H cs [v]).2 css r).1,(fh dp (thaw dp H cs [v]).2 css r).2)->uV D S w H ρ (u::t) (fh dp H (cs::css) (v::r)):=fun v h1 e=>by
   rw[e];refine fin _ _ [u] (fun ρ' hr'=>?_) (rU dp cs [v] H ρ [u] hs (.cons h1 .nil));generalize hq:(thaw dp H cs [v]).1=q at hr';cases q with
   |nil=>have:=hr'.1;simp at this
   |cons x y=>exact hr'.head
  cases v with
  |agg l=>
   cases h1 with
   |agg hl hh=>
    have e:fh dp H (cs::css) (.agg l::r)=(.agg (thaw dp H cs l).1::(fh dp (thaw dp H cs l).2 css r).1,(fh dp (thaw dp H cs l).2 css r).2):=rfl;rw[e];exact fin _ _ _ (fun ρ' hr'=>.agg hr'.1 hr'.2) (rU dp cs l H ρ _ hs ⟨hl,hh⟩)
  |_=>exact one _ h1 rfl
theorem Yn{D:bg K}(dp:K.U->Bool)(cs:List (List (Option K.U)))(v:AV K)(hs:aK D ρ S w H){u:Value}(hr:Rep D ρ S w v u):
 ∃ρ',aK D ρ' S w (my dp H cs v).2/\Rep D ρ' S w (my dp H cs v).1 u/\Step D H.length ρ S H w ρ' S (my dp H cs v).2 w/\H.length<=(my dp H cs v).2.length:=by
 have one:∀v,Rep D ρ S w v u->my dp H cs v=((fh dp H cs [v]).1.headD v,(fh dp H cs [v]).2)->∃ρ',aK D ρ' S w (my dp H cs v).2/\Rep D ρ' S w (my dp H cs v).1 u/\Step D H.length ρ S H w ρ' S (my dp H cs v).2 w/\H.length<=(my dp H cs v).2.length:=fun v hr e=>by
  rw[e];obtain⟨ρ',g1,g2,g3,g4,g5,g6⟩:=FU dp cs [v] H ρ [u] hs (.cons hr .nil);refine⟨ρ',g1,?_,g3,g5⟩;generalize hq:(fh dp H cs [v]).1=q at g2;cases q with
  |nil=>have:=g2.1;simp at this
  |cons x y=>exact g2.head
 cases v with
 |bk l=>
  cases hr with
  |bk hl hh=>
   obtain⟨ρ',g1,g2,g3,g4,g5,g6⟩:=FU dp cs l H ρ _ hs ⟨hl,hh⟩;exact⟨ρ',g1,.bk g2.1 g2.2,g3,g5⟩
 |_=>exact one _ hr rfl
theorem Yo{cx:Cx K}(hD:bu cx.D){fz:Bool}{fn:Func}{n0:Nat}{R:Type}{fin:AV K->List (Ob K)->Option R}{e:Ex}{st:St K}{r:R}(h:FT cx fz fn n0 fin e st=some r):
 st.ok=true/\(∀i,e≠.exit i)/\∃v v' H',resV cx fn st=some v/\fin v' H'=some r/\∀ρ S w,n0<=st.H.length->aK cx.D ρ S w st.H->∀u,Rep cx.D ρ S w v u->∃ρ' S',aK cx.D ρ' S' w H'/\Rep cx.D ρ' S' w v' u/\Step cx.D n0 ρ S st.H w ρ' S' H' w:=by
 have key:∀(v0:AV K)(H0:List (Ob K)) v' H',zV cx.mv n0 v0 H0=some (v',H')->∀ρ S w,n0<=H0.length->aK cx.D ρ S w H0->∀u,Rep cx.D ρ S w v0 u->∃ρ',aK cx.D ρ' S w H'/\Rep cx.D ρ' S w v' u/\Step cx.D n0 ρ S H0 w ρ' S H' w:=fun v0 H0 v' H' hp ρ S w hn hs u hr=>by
  unfold zV DV at hp;split at hp
  ·rename_i hk;simp only[bz,bN]at hk;split at hp
   ·rename_i v'' H1 hv' hH';simp only[aj,aF]at hp;obtain⟨rfl,rfl⟩:=hp;obtain⟨s1,s2,s3,s4⟩:=Le hD hs hn hk.1 hk.2 hH';exact⟨_,s1,qm hD s3 _ _ u hv' hr,s2⟩
   ·cases hp
  ·cases hp
 unfold FT at h;split at h
 ·cases h
 ·rename_i hne;split at h
  ·rename_i v0 hv0;dsimp only at h;generalize hv:AQ cx.IL v0=v at h;have Lt:∀{ρ S w}{u:Value},Rep cx.D ρ S w v0 u->Rep cx.D ρ S w v u:=fun hr=>by rw[<-hv];exact Ym _ _ _ hr
   cases hok:st.ok with
   |false=>rw[hok]at h;cases h
   |true=>
    rw[hok]at h;simp only[af]at h;refine⟨rfl,hne,?_⟩;cases fz with
    |false=>
     simp only[ar]at h;split at h
     ·rename_i v' H' hp;exact⟨v0,v',H',hv0,h,fun ρ S w hn hs u hr0=>by
       have hr:=Lt hr0;obtain⟨ρ1,t1,t2,t3,t4⟩:=Yn cx.deep cx.fX v hs hr;obtain⟨ρ',a,b,c⟩:=key _ _ _ _ hp ρ1 S w (kX hn t4) t1 u t2;exact⟨ρ',S,a,b,(t3.weaken hn).trans c⟩⟩
     ·cases h
    |true=>
     simp only[af]at h;split at h
     ·rename_i v' H' hp;exact⟨v0,v',H',hv0,h,fun ρ S w hn hs u hr0=>by
       have hr:=Lt hr0;obtain⟨S1,g1,g2,g3⟩:=zY (n0:=n0) (hands v) hs;obtain⟨ρ',a,b,c⟩:=key _ _ _ _ hp ρ S1 w (by omega) g1 u (nk g1 _ _ (hr.mono g2.s1 (fun _ _=>rfl) (fun _ _ h=>h)));exact⟨ρ',S1,a,b,g2.trans c⟩⟩
     ·cases h
  ·cases h
theorem Yp{cx:Cx K}(hD:bu cx.D)(hc:aZ cx)(hm:cx.P.follows .mixedOrders=true){fz:Bool}{f:FuncId}{fn:Func}(hf:Ls cx.P f fn)(hl:∀c,fn.body=some c->gp cx c)
 {args:List (AV K)} {R:Type} {fin:AV K->List (Ob K)->Option R} {r:R} (h:AS cx fz fn args H fin=some r):∃v H',fin v H'=some r/\RC cx.D cx.P f args H v H':=by
 unfold AS at h;split at h
 ·rename_i c hb;obtain⟨e,st,h1,-,h3⟩:=nr hD hc hm c (hl c hb) _ _ _ h;obtain⟨hok,hne,v,v',H',hv,hr,hfin⟩:=Yo hD h1;refine⟨v',H',hr,⟨fn,hf.get,hf.name,by rw[hb];rfl⟩,fun ρ S w vals hs ha=>?_⟩;have h0:dr (args++List.replicate (fn.ntmps-args.length) (AV.any:AV K)):=fun t g b y e=>by
   rcases cV t args.length with hlt|hge
   ·rw[cU hlt]at e;obtain⟨x,-,hx⟩:=ha.get e;cases hx
   ·rw[dA hge,iF]at e;split at e<;>cases e
  obtain⟨n1,htr⟩:=h3 hok h0;refine calls_of_wp hf.get hb ?_;have bn:Sat cx ρ S {tmps:=vals.toArray++Array.replicate (fn.ntmps-vals.toArray.size) undef,defers:=[]} w ⟨args++List.replicate (fn.ntmps-args.length) .any,H,true⟩:=⟨hs,⟨by simp[ha.1],fun t v x h1 h2=>.jz (by
   rcases cV t args.length with hlt|hge
   ·rw[cU hlt]at h1;rw[Array.getElem?_append_left (by simpa [<-ha.1]using hlt)]at h2;exact ha.2 t v x h1 (by simpa using h2)
   ·rw[dA hge,iF]at h1;split at h1
    ·simp at h1;subst h1;exact .any x
    ·cases h1)⟩,rfl⟩
  refine wp_mono (htr H.length ρ S _ w (bH _) bn) ?_
  rintro e' a' w' ⟨rfl,hn,ρ1,S1,fa,hst1⟩
  obtain⟨u,hu,hr1⟩:=X1 hD n1 fa hv;have Lu:∃u' ρ' S',Ending.returned u=.returned u'/\aK cx.D ρ' S' w' H'/\Rep cx.D ρ' S' w' v' u'/\Step cx.D H.length ρ S H w ρ' S' H' w':=by
   obtain⟨ρ2,S2,q1,q2,q3⟩:=hfin ρ1 S1 w' hn fa.heap u hr1;exact⟨u,ρ2,S2,rfl,q1,q2,hst1.trans q3⟩
  cases e with
  |exit i=>exact absurd rfl (hne i)
  |normal=>exact⟨fa.defers,u,hu,Lu⟩
  |ret=>exact⟨fa.defers,u,hu,Lu⟩
 ·cases h
structure aP (K:cK) where
 f:FuncId
 sh:aU K
 R:Type
 run:sh.T->Option R
 dflt:R
 out:R->AV K×List (Ob K)
def aP.Ok(D:bg K)(P:Program)(c:aP K):Prop:=∀x r,c.run x=some r->RC D P c.f (c.sh.kF D x) (c.sh.lr D x) (c.out r).1 (c.out r).2
def callOf(D:bg K):List (aP K)->FuncId->List (AV K)->List (Ob K)->Option (AV K×List (Ob K)×Bool)
 |[],_,_,_=>none
 |c::l,f,args,H=>cond (Nat.beq c.f f) (match c.sh.dec D args H with
  |some x=>some ((c.out ((c.run x).getD c.dflt)).1,(c.out ((c.run x).getD c.dflt)).2,(c.run x).isSome)
  |none=>callOf D l f args H) (callOf D l f args H)
theorem RC.weak{D:bg K}{P:Program}{f:FuncId}{args args':List (AV K)}{r:AV K}{Ho:List (Ob K)}(hw:Wk D args H args' H')(h:RC D P f args' H' r Ho):RC D P f args H r Ho:=by
 refine⟨h.1,fun ρ S w vals hs ha=>(h.2 ρ S w vals (hw.heap _ _ _ hs) (hw.FQ _ _ _ _ ha)).mono ?_⟩
 rintro e w' ⟨u,ρ',S',rfl,h1,h2,h3⟩
 rw[hw.len]at h3;exact⟨u,ρ',S',rfl,h1,h2,hw.step.trans h3⟩
theorem Lx{D:bg K}(hD:bu D){P:Program}:∀(l:List (aP K)),(∀c∈l,c.Ok D P)->∀f args H r H',callOf D l f args H=some (r,H',true)->RC D P f args H r H'
 |[],_,f,args,H,r,H',h=>by simp[callOf]at h
 |c::l,hl,f,args,H,r,H',h=>by
  have ih:=Lx hD l (fun c hc=>hl c (by simp[hc])) f args H r H';unfold callOf at h;cases hb:Nat.beq c.f f with
  |false=>rw[hb]at h;exact ih h
  |true=>
   rw[hb]at h;have hf:c.f=f:=wI hb;simp only[af]at h;split at h
   ·rename_i x hx;simp only[aj,aF]at h;obtain⟨h1,h2,h3⟩:=h;obtain⟨y,hy⟩:=Option.isSome_iff_exists.1 h3;rw[hy]at h1 h2;simp only[aw]at h1 h2;have:=hl c (by simp) x y hy;rw[h1,h2,hf]at this;exact this.weak (aU.xA hD hx)
   ·exact ih h
theorem bm{cx:Cx K}(hD:bu cx.D)(l:List (aP K))(hl:∀c∈l,c.Ok cx.D cx.P)(he:cx.call=callOf cx.D l:=by exact rfl)(ha:cx.alt=fun _ _ _ _=>none:=by exact rfl)(ho:(fun(R:Type)=>cx.wO (R:=R))=fun(R:Type)(a b:Option R)=>Dw a b:=by exact rfl):aZ cx:=by
 refine⟨fun f args H r H' h=>?_,fun b f args H r H' h=>?_,fun R a b r h=>?_⟩
 ·rw[he]at h;exact Lx hD l hl f args H r H' h
 ·rw[ha]at h;cases h
 ·have:=congrFun ho R;rw[this]at h;exact VJ h
def aP.frz(D:bg K)(c:aP K):aP K:={c with out:=fun r=>(iK D (c.out r).2 (c.out r).1,[])}
structure xB (K:cK) (D:bg K) (R:Type) where
 sh:aU K
 conv:sh.T->R
def xB.fin{D:bg K}{R:Type}(d:xB K D R)(v:AV K)(H:List (Ob K)):Option R:=match d.sh.dec D [v] H with
 |some x=>some (d.conv x)
 |none=>none
theorem jC{cx:Cx K}(hD:bu cx.D)(hc:aZ cx)(hm:cx.P.follows .mixedOrders=true){c:aP K}{fz:Bool}{fn:Func}(hf:Ls cx.P c.f fn)(hl:∀b,fn.body=some b->gp cx b)
 (d:xB K cx.D c.R) (ho:∀x,([(c.out (d.conv x)).1],(c.out (d.conv x)).2)=(d.sh.kF cx.D x,d.sh.lr cx.D x)) (he:∀x,AS cx fz fn (c.sh.kF cx.D x) (c.sh.lr cx.D x) d.fin=c.run x):c.Ok cx.D cx.P:=by
 intro x r hr;rw[<-he x]at hr;obtain⟨v,H',h1,h2⟩:=Yp hD hc hm hf hl hr;unfold xB.fin at h1;split at h1
 ·rename_i y hy;simp only[aj]at h1;have hw:=aU.xA hD hy;have:=ho y;simp only[aF]at this;rw[<-this.1,<-this.2]at hw;rw[h1]at hw;refine⟨h2.1,fun ρ S w vals hs ha=>(h2.2 ρ S w vals hs ha).mono ?_⟩
  rintro e w' ⟨u,ρ',S',rfl,g1,g2,g3⟩
  have:=(hw.FQ _ _ _ [u] (.cons g2 .nil)).head;exact⟨u,ρ',S',rfl,hw.heap _ _ _ g1,this,g3.trans hw.step⟩
 ·cases h1
instance : Coe Bool Nat:=⟨fun b=>cond b 1 0⟩
def stays(kp i:Nat):Bool:=Nat.beq kp 1||Nat.blt (i+2) kp
def FV(kp:Nat):Nat->List (Ob K)->List (Option Nat)×List (Option Nat)
 |_,[]=>([],[])
 |i,o::r=>match FV kp (i+1) r with
  |(a,b)=>match o with
   |.arr ..=>cond (stays kp i) (some i::a,b) (none::a,some i::b)
   |.tree ..=>cond (stays kp i) (some i::a,b) (none::a,some i::b)
   |_=>(some i::a,b)
def Ly(kp:Nat)(n n0:Nat)(ins:List Nat)(vals:List (AV K))(Hi:List (Ob K)):Option (St K):=
 match ot n0 ((FV kp 0 Hi).1++(FV kp 0 Hi).2) ins ⟨d4 (List.replicate n .any) ins vals,Hi,true⟩with
 |some st=>rR n0 ins st
 |none=>none
def lO(st:St K)(ts:List Nat):List (AV K):=ts.map fun t=>st.tm.getD t .any
def cr(D:bg K)(kp:Nat)(n n0:Nat)(ins outs:List Nat)(sh:aU K){Y:Type}(run:sh.T->Option Y)(out:Y->{R:Type}->(Ex->List (AV K)->List (Ob K)->R)->R):bZ K:={
 n:=n
 ins:=ins
 outs:=outs
 run vals Hi k:=cond (Nat.beq Hi.length n0) (match Ly kp n n0 ins vals Hi with
  |some st=>match sh.dec D (lO st ins) st.H with
   |some x=>match run x with
    |some y=>out y k
    |none=>none
   |none=>none
  |none=>none) none}
def FW(cx:Cx K)(n n0:Nat)(ins outs:List Nat)(sh:aU K){Y:Type}(next:sh.T->Option Y)(fin:Ex->List (AV K)->List (Ob K)->Option Y)(e:Ex)(s:St K):Option Y:=
 cond s.ok (cond (Nat.beq s.tm.length n) (match e with
  |.normal=>match qd cx s with
    |some (b,s1)=>cond b (match rR n0 ins s1 with
     |some s'=>match sh.dec cx.D (lO s' ins) s'.H with
      |some x=>next x
      |none=>none
     |none=>none) none
    |none=>none
  |e=>match qd cx s with
   |some (b,s1)=>cond b (match rR n0 outs s1 with
    |some s'=>fin e (lO s' outs) s'.H
    |none=>none) none
   |none=>none) none) none
def sn(D:bg K)(n:Nat)(ins:List Nat)(sh:aU K)(x:sh.T):St K:=⟨d4 (List.replicate n .any) ins (sh.kF D x),sh.lr D x,true⟩
structure dc (K:cK) (Y:Type) where
 e:Ex
 sh:aU K
 conv:sh.T->Y
def Ex.same:Ex->Ex->Bool
 |.normal,.normal=>true
 |.exit a,.exit b=>Nat.beq a b
 |.ret,.ret=>true
 |_,_=>false
theorem Ex.same_eq{a b:Ex}(h:Ex.same a b=true):a=b:=by
 cases a<;>cases b<;>simp only[Ex.same]at h<;>first|rfl|cases h|(rw[wI h])
def vo(D:bg K){Y:Type}:List (dc K Y)->Ex->List (AV K)->List (Ob K)->Option Y
 |[],_,_,_=>none
 |d::l,e,vs,H=>cond (Ex.same d.e e) (match d.sh.dec D vs H with
  |some x=>some (d.conv x)
  |none=>none) (vo D l e vs H)
theorem LA{D:bg K}:∀(l:List (Sh K))(vs:List (AV K))(x:Sh.Ts l),Sh.dV D l vs=some x->vs.length=l.length
 |[],vs,x,h=>by
   cases vs with
   |nil=>rfl
   |cons v r=>unfold Sh.dV at h;cases h
 |s::r,vs,x,h=>by
  cases vs with
  |nil=>unfold Sh.dV at h;cases h
  |cons v l=>
   unfold Sh.dV at h;split at h
   ·rename_i a b h1 h2;simp only[dH];rw[LA r l b h2]
   ·cases h
theorem FX{D:bg K}:∀(l:List (Sh K))(x:Sh.Ts l),(Sh.encs D l x).length=l.length
 |[],x=>rfl
 |s::r,x=>by simp only[Sh.encs,dH];rw[FX r]
theorem mZ{D:bg K}{sh:aU K}{vs:List (AV K)}{x:sh.T}(h:sh.dec D vs H=some x):(sh.kF D x).length=vs.length:=by
 unfold aU.dec at h;split at h
 ·rename_i a b h1 h2;unfold aU.kF;rw[FX,LA _ _ _ h1]
 ·cases h
theorem FY{D:bg K}(hD:bu D){Y:Type}{out:Y->{R:Type}->(Ex->List (AV K)->List (Ob K)->R)->R}:∀(l:List (dc K Y)),(∀d∈l,d.e≠.normal/\∀x (R:Type) (k:Ex->List (AV K)->List (Ob K)->R),out (d.conv x) k=k d.e (d.sh.kF D x) (d.sh.lr D x))->
 ∀e vs H y,vo D l e vs H=some y->e≠.normal/\∃vs' H',(∀(R:Type)(k:Ex->List (AV K)->List (Ob K)->R),out y k=k e vs' H')/\Wk D vs H vs' H'/\vs'.length=vs.length
 |[],_,e,vs,H,y,h=>by simp[vo]at h
 |d::l,hl,e,vs,H,y,h=>by
  unfold vo at h;cases hs:Ex.same d.e e with
  |false=>rw[hs]at h;exact FY hD l (fun d hd=>hl d (by simp[hd])) e vs H y h
  |true=>
   rw[hs]at h;have he:=Ex.same_eq hs;simp only[af]at h;split at h
   ·rename_i x hx;simp only[aj]at h;subst h;obtain⟨h1,h2⟩:=hl d (by simp);rw[he]at h1 h2;exact⟨h1,_,_,fun R k=>h2 x R k,aU.xA hD hx,mZ hx⟩
   ·cases h
theorem retag{cx:Cx K}{n0:Nat}{st:St K}{ts:List Nat}{n:Nat}(hn:st.tm.length=n)(h0:dr st.tm){vs':List (AV K)}(hw:Wk cx.D (lO st ts) st.H vs' H')(hlen:vs'.length=ts.length):
 Goes cx n0 st ⟨d4 (List.replicate n .any) ts vs',H',st.ok⟩:=by
 intro ρ S a w hn0 bn;refine⟨by show n0<=H'.length;rw[hw.len];exact hn0,ρ,S,⟨hw.heap _ _ _ bn.heap,?_,bn.defers⟩,hw.step⟩;have hsz:a.tmps.size=n:=by rw[<-hn];exact bn.slots.len.symm
 have hrep:∀t,Rep cx.D ρ S w (st.tm.getD t .any) (a.tmps.getD t undef):=fun t=>by
  rw[fB,l9];cases hg:st.tm[t]? with
  |none=>exact .any _
  |some v=>
   obtain⟨x,hx,-⟩:=bn.slots.get hg;rw[hx];exact bn.slots.rep h0 hg hx
 have hus:aW cx.D ρ S w (lO st ts) (ts.map fun t=>a.tmps.getD t undef):=⟨by simp[lO],fun i v x h1 h2=>by
  simp only[lO,gP,eN]at h1 h2;obtain⟨t,e1,rfl⟩:=h1;obtain⟨t',e2,rfl⟩:=h2;rw[e1]at e2;simp at e2;subst e2;exact hrep t⟩
 have Yq:=hw.FQ _ _ _ _ hus;refine Fg hsz fun i t v x h1 h2 h3=>Yq.2 i v x h2 ?_
 simp only[gP,h1,gk];rw[l9,h3];rfl
theorem LC{D:bg K}:∀(l:List (Sh K))(x:Sh.Ts l)(i:Nat)(v:AV K),(Sh.encs D l x)[i]?=some v->v.iJ=false
 |[],x,i,v,h=>by simp[Sh.encs]at h
 |s::r,x,i,v,h=>by
  cases i with
  |zero=>
   simp only[Sh.encs,List.getElem?_cons_zero,aj]at h;subst h;cases s<;>simp only[Sh.enc]<;>rfl
  |succ i=>exact LC r x.2 i v (by simpa [Sh.encs]using h)
theorem Yr{n:Nat}{ds:List Nat}{l:List (AV K)}(h:∀(i:Nat) v,l[i]?=some v->v.iJ=false):dr (d4 (List.replicate n .any) ds l):=fun t g b v e=>by
 rcases vl ds l _ t _ e with h1|⟨i,-,h2⟩
 ·rw[iF]at h1;split at h1<;>cases h1
 ·have:=h i _ h2;simp[AV.iJ]at this
theorem FZ{n0:Nat}{src:List (Option Nat)}{keep:List Nat}{st st':St K}(h:ot n0 src keep st=some st'):st'.tm.length=st.tm.length:=by
 unfold ot at h;split at h
 ·split at h
  ·simp only[aj]at h;subst h;simp[sj]
  ·cases h
 ·cases h
theorem Tr.goes{cx:Cx K}{n0:Nat}{c:Code}{st st1 st2:St K}{e:Ex}(h:Tr cx n0 c st e st1)(g:Goes cx n0 st1 st2):Tr cx n0 c st e st2:=fun ρ S a w hn bn=>by
 refine wp_mono (h ρ S a w hn bn) ?_
 rintro e' a' w' ⟨he,hn1,ρ1,S1,fa,hst1⟩
 obtain⟨hn2,ρ2,S2,xz,hst2⟩:=g ρ1 S1 a' w' hn1 fa;exact⟨he,hn2,ρ2,S2,xz,hst1.trans hst2⟩
section
variable {cx :Cx K}(hD:bu cx.D)(hc:aZ cx)(hm:cx.P.follows .mixedOrders=true){c:Code}(hl:gp cx c){n n0:Nat}{ins outs:List Nat}{sh:aU K}{Y:Type}{run:Nat->sh.T->Option Y}
 {cg:List (dc K Y)} {out:Y->{R:Type}->(Ex->List (AV K)->List (Ob K)->R)->R}
 (h0:∀x,run 0 x=none) (hs:∀m x,fw cx c (sn cx.D n ins sh x) (FW cx n n0 ins outs sh (run m) (vo cx.D cg))=run (m+1) x)
 (hx:∀d∈cg,d.e≠.normal/\∀x (R:Type) (k:Ex->List (AV K)->List (Ob K)->R),out (d.conv x) k=k d.e (d.sh.kF cx.D x) (d.sh.lr cx.D x))
include hD hc hm hl h0 hs hx
theorem LD{y:Y}:∀(m:Nat)(x:sh.T),run m x=some y->∃e vs Ho,(∀(R:Type)(k:Ex->List (AV K)->List (Ob K)->R),out y k=k e vs Ho)/\
 ∀(ρ0:List Value)(S0:Nat->Prop)(H0:List (Ob K))(w0:World)(ρ:List Value)(S:Nat->Prop)(a:Act)(w:World),n0<=(sn cx.D n ins sh x).H.length->Sat cx ρ S a w (sn cx.D n ins sh x)->Step cx.D n0 ρ0 S0 H0 w0 ρ S (sn cx.D n ins sh x).H w->
  Code.rounds cx.P c (fun e' a' w'=>e'=e.mf/\n0<=Ho.length/\∃ρ' S',Sat cx ρ' S' a' w' ⟨d4 (List.replicate n .any) outs vs,Ho,true⟩/\Step cx.D n0 ρ0 S0 H0 w0 ρ' S' Ho w') m a w
 |0,x,h=>by rw[h0]at h;cases h
 |m+1,x,h=>by
  rw[<-hs m x]at h;obtain⟨e,s,h1,h2,h3⟩:=nr hD hc hm c hl _ _ _ h;unfold FW at h1;have hno:dr (sn cx.D n ins sh x).tm:=Yr (LC _ _);cases hok:s.ok with
  |false=>rw[hok]at h1;cases h1
  |true=>
   rw[hok]at h1;simp only[af]at h1;obtain⟨n1,htr⟩:=h3 hok hno;cases hlen:Nat.beq s.tm.length n with
   |false=>rw[hlen]at h1;cases h1
   |true=>
   rw[hlen]at h1;simp only[af]at h1;have hsn:s.tm.length=n:=wI hlen;have key:∀keep s1 s' vs' ni,qd cx s=some (true,s1)->rR n0 keep s1=some s'->Wk cx.D (lO s' keep) s'.H vs' ni->vs'.length=keep.length->Tr cx n0 c (sn cx.D n ins sh x) e ⟨d4 (List.replicate n .any) keep vs',ni,true⟩:=fun keep s1 s' vs' ni hcl hn hw hvl=>by
    have hr:ot n0 ((reach s1.H 64 (List.range n0++bD (keep.map fun t=>s1.tm.getD t .any)) []).map some) keep s1=some s':=hn;obtain⟨hk1,g1,g2⟩:=AN (cx:=cx) hD hr;obtain⟨c1,c2,c3,c4⟩:=Lj hD hcl;have gc:Goes cx n0 s s1:=fun ρ S a w hn bn=>by
     obtain⟨q1,q2⟩:=c4 n0 ρ S a w bn;exact⟨by rw[c3];exact hn,ρ,S,q1,q2⟩
    have hl2:s1.tm.length=n:=by rw[c1];exact hsn
    have hn2:dr s1.tm:=by rw[c1];exact n1
    have:=(htr n0).goes (gc.trans ((g2 hn2).trans (retag ((FZ hr).trans hl2) g1 hw hvl)));rw[hk1,c2,hok]at this;exact this
   cases e with
   |normal=>
    dsimp only at h1;split at h1
    ·rename_i b s1 hcl;cases b with
     |false=>cases h1
     |true=>
     simp only[af]at h1;split at h1
     ·rename_i s' hn;split at h1
      ·rename_i x' hx';obtain⟨e2,vs,Ho,q1,q2⟩:=LD m x' h1;refine⟨e2,vs,Ho,q1,fun ρ0 S0 H0 w0 ρ S a w hn0 bn hst=>?_⟩;rw[rounds_succ];refine wp_mono (key ins s1 s' _ _ hcl hn (aU.xA hD hx') (by rw[mZ hx'];simp[lO]) ρ S a w hn0 bn) ?_
       rintro e' a' w' ⟨rfl,hn1,ρ1,S1,fa,hst1⟩
       exact q2 ρ0 S0 H0 w0 ρ1 S1 a' w' hn1 fa (hst.trans hst1)
      ·cases h1
     ·cases h1
    ·cases h1
   |exit id=>
    dsimp only at h1;split at h1
    ·rename_i b s1 hcl;cases b with
     |false=>cases h1
     |true=>
     simp only[af]at h1;split at h1
     ·rename_i s' hn;obtain⟨g1,vs',ni,g2,g3,g4⟩:=FY hD cg hx _ _ _ _ h1;refine⟨.exit id,vs',ni,g2,fun ρ0 S0 H0 w0 ρ S a w hn0 bn hst=>?_⟩;rw[rounds_succ];refine wp_mono (key outs s1 s' _ _ hcl hn g3 (by rw[g4];simp[lO]) ρ S a w hn0 bn) ?_
      rintro e' a' w' ⟨rfl,hn1,ρ1,S1,fa,hst1⟩
      exact⟨rfl,hn1,ρ1,S1,fa,hst.trans hst1⟩
     ·cases h1
    ·cases h1
   |ret=>
    dsimp only at h1;split at h1
    ·rename_i b s1 hcl;cases b with
     |false=>cases h1
     |true=>
     simp only[af]at h1;split at h1
     ·rename_i s' hn;obtain⟨g1,vs',ni,g2,g3,g4⟩:=FY hD cg hx _ _ _ _ h1;refine⟨.ret,vs',ni,g2,fun ρ0 S0 H0 w0 ρ S a w hn0 bn hst=>?_⟩;rw[rounds_succ];refine wp_mono (key outs s1 s' _ _ hcl hn g3 (by rw[g4];simp[lO]) ρ S a w hn0 bn) ?_
      rintro e' a' w' ⟨rfl,hn1,ρ1,S1,fa,hst1⟩
      exact⟨rfl,hn1,ρ1,S1,fa,hst.trans hst1⟩
     ·cases h1
    ·cases h1
theorem fS(kp:Nat)(N:Nat):b9 cx c (cr cx.D kp n n0 ins outs sh (run N) out):=by
 intro vals Hi R k r h;simp only[cr]at h;cases hb:Nat.beq Hi.length n0 with
 |false=>rw[hb]at h;cases h
 |true=>
  rw[hb]at h;have hlen:Hi.length=n0:=wI hb;simp only[af]at h;split at h
  ·rename_i st hst;split at h
   ·rename_i x hx1;split at h
    ·rename_i y hy;obtain⟨e,vs,Ho,q1,q2⟩:=LD hD hc hm hl h0 hs hx N x hy;rw[q1]at h;refine⟨e,vs,Ho,h,?_⟩;unfold Ly at hst;split at hst
     ·rename_i st1 hst1;have hst':ot n0 ((reach st1.H 64 (List.range n0++bD (ins.map fun t=>st1.tm.getD t .any)) []).map some) ins st1=some st:=hst;obtain⟨k1,g1,g2⟩:=AN (cx:=cx) hD hst1;obtain⟨k2,g3,g4⟩:=AN (cx:=cx) hD hst';intro ρ S a w hn0 bn;have hno:dr (d4 (List.replicate n (AV.any:AV K)) ins vals):=fun t g b v e=>by
       rcases vl ins vals _ t _ e with h1|⟨i,h1,-⟩
       ·rw[iF]at h1;split at h1<;>cases h1
       ·unfold ot at hst1;split at hst1
        ·split at hst1
         ·rename_i ws H1 hv hm1;obtain⟨gl,gg⟩:=sk _ _ hv;have hi:i<ws.length:=by rw[gl];simp;exact(bM.1 h1).1
          obtain⟨v0,q1,q2⟩:=gg i _ (bY hi);simp only[gP,h1,gk,aj]at q1;rw[fB,e]at q1;simp only[aw]at q1;subst q1;simp[eZ]at q2
         ·cases hst1
        ·cases hst1
      have hlen1:st1.tm.length=n:=by rw[FZ hst1];simp[sj]
      have hlen2:st.tm.length=n:=by rw[FZ hst'];exact hlen1
      have hw:=aU.xA hD hx1;have hr:=retag (cx:=cx) (n0:=n0) hlen2 g3 hw (by rw[mZ hx1];simp[lO]);have hok:st.ok=true:=by rw[k2,k1]
      rw[hok]at hr;rw[hlen];obtain⟨hn1,ρ1,S1,fa,hst2⟩:=((g2 hno).trans ((g4 g1).trans hr)) ρ S a w (by show n0<=Hi.length;omega) bn;exact wp_loop_rounds N (q2 ρ S Hi w ρ1 S1 a w hn1 fa hst2)
     ·cases hst
    ·cases h
   ·cases h
  ·cases h
end
def iQ:Code->List Code
 |.loop c=>[c]
 |.seq a b=>iQ a++iQ b
 |.cond _ a b=>iQ a++iQ b
 |.block _ c=>iQ c
 |_=>[]
def bR(c:Code)(i:Nat):Code:=(iQ c).getD i .skip
theorem vp{cx:Cx K}:∀(c:Code),(∀b∈iQ c,∀L,cx.loop (keyOf b)=some L->b9 cx b L)->gp cx c
 |.loop c,h=>fun L hL=>h c (by simp[iQ]) L hL
 |.seq a b,h=>⟨vp a fun x hx=>h x (by simp[iQ,hx]),vp b fun x hx=>h x (by simp[iQ,hx])⟩
 |.cond _ a b,h=>⟨vp a fun x hx=>h x (by simp[iQ,hx]),vp b fun x hx=>h x (by simp[iQ,hx])⟩
 |.block _ c,h=>vp c h
 |.skip,_|.exit _,_|.ret,_|.region ..,_|.scope ..,_|.rangeFunc ..,_|.goto ..,_|.label ..,_|.refuse ..,_=>trivial
def F3(cx:Cx K)(c:Code):Prop:=∃L,cx.loop (keyOf c)=some L/\b9 cx c L
theorem F3.mk{cx:Cx K}{c:Code}{L:bZ K}(h:cx.loop (keyOf c)=some L)(ho:b9 cx c L):F3 cx c:=⟨L,h,ho⟩
theorem nt{cx:Cx K}{c:Code}(n:Nat)(hn:(iQ c).length=n)(h:∀i,i<n->F3 cx (bR c i)):gp cx c:=
 vp c fun b hb L hL=>by
  obtain⟨i,hi,rfl⟩:=pV hb;obtain⟨L',h1,h2⟩:=h i (by omega);have e:bR c i=(iQ c)[i]:=by simp[bR,fB,bY hi]
  rw[e]at h1 h2;rw[h1]at hL;simp only[aj]at hL;subst hL;exact h2
theorem fP{cx:Cx K}{c:Code}(hn:(iQ c).length=0):gp cx c:=nt 0 hn fun i hi=>absurd hi (Nat.not_lt_zero i)
theorem oP{p:Nat->Prop}(h:p 0):∀i,i<1->p i:=fun i hi=>by
 have:i=0:=by omega
 subst this;exact h
theorem lt_succ{p:Nat->Prop}{n:Nat}(h:∀i,i<n->p i)(hn:p n):∀i,i<n+1->p i:=fun i hi=>by
 by_cases he:i=n
 ·subst he;exact hn
 ·exact h i (by omega)
def bX(fn:Func):Code:=match fn.body with
 |some c=>c
 |none=>.skip
theorem F4{cx:Cx K}{fn:Func}(h:gp cx (bX fn)):∀c,fn.body=some c->gp cx c:=fun c hc=>by
 have:bX fn=c:=by unfold bX;rw[hc]
 rw[<-this];exact h
theorem aI{α:Type _}{p:α->Prop}:∀c∈([]:List α),p c:=fun c h=>by simp at h
theorem ah{α:Type _}{p:α->Prop}{a:α}{l:List α}(h:p a)(t:∀c∈l,p c):∀c∈a::l,p c:=fun c hc=>by
 rcases fW.1 hc with rfl|hc
 ·exact h
 ·exact t c hc
theorem cw{i:Nat}:Ex.exit i≠.normal:=fun h=>by cases h
theorem ee:Ex.ret≠.normal:=fun h=>by cases h
theorem vq{D:bg K}{P:Program}{c:aP K}(h:∀x,c.run x=none):c.Ok D P:=fun x r hr=>by rw[h]at hr;cases hr
theorem LF:∃n:Nat,2^63<=n:=⟨2^63,bH _⟩
noncomputable def ai:Nat:=Classical.choose LF
theorem bB:2^63<=ai:=Classical.choose_spec LF
end Go.V
namespace Go.V
open Go
variable {K :cK}{D:bg K}{ρ ρ':List Value}{S S':Nat->Prop}{w w':World}
def Sh.flat:Sh K->Bool
 |.int _|.bool|.str|.ax _=>true
 |_=>false
def jD:List (Sh K)->Bool
 |[]=>true
 |s::r=>s.flat&&jD r
def D0(K:cK):bg K:={cells:=fun _ _=>[],dec:=fun _ _=>none,byte:=fun _=>none,find:=fun _=>none}
def LG(cs:K.U->List (Sh K)):List K.U->List (AV K)->Option K.U
 |[],_=>none
 |c::r,l=>match Sh.dV (D0 K) (cs c) l with
  |some _=>some c
  |none=>LG cs r l
def F5(cs:K.U->List (Sh K))(mk:(c:K.U)->Sh.Ts (cs c)->K.El c×Bool)(un:(c:K.U)->K.El c->Sh.Ts (cs c))(byte:(c:K.U)->Option ((K.El c->UInt8)×(UInt8->K.El c)))(codes:List K.U)(base:Base:=Base.IK)(oe:Option TypeId:=none)(kn:K.U->Option TypeId:=fun _=>none):bg K:={
 base:=base
 oe:=oe
 kn:=kn
 cells c x:=Sh.encs (D0 K) (cs c) (un c x)
 dec c l:=match Sh.dV (D0 K) (cs c) l with
  |some y=>some (mk c y)
  |none=>none
 byte:=byte
 find l:=LG cs codes l}
theorem Ys{c:K.U}{v:AV K}{l:List (K.El c)}(h:elems [] c v=some l){u:Value}(hr:Rep D ρ S w v u):Rep D ρ S w (.ax c l) u:=by
 unfold elems at h;split at h
 ·simp only[aj]at h;subst h;cases hr;exact .eP _ _
 ·split at h
  ·rename_i he _;subst he;simp only[aj]at h;subst h;exact hr
  ·cases h
 ·simp at h
 ·cases h
theorem LH:∀(l:List (Sh K))(vs:List (AV K))(x:Sh.Ts l),jD l=true->Sh.dV (D0 K) l vs=some x->∀us,aW D ρ S w vs us->aW D ρ S w (Sh.encs (D0 K) l x) us
 |[],vs,x,hf,h,us,hr=>by
   cases vs with
   |nil=>exact hr
   |cons v r=>unfold Sh.dV at h;cases h
 |s::r,vs,x,hf,h,us,hr=>by
  simp only[jD,bz]at hf;cases vs with
  |nil=>unfold Sh.dV at h;cases h
  |cons v l=>
   unfold Sh.dV at h;split at h
   ·rename_i a b h1 h2;have h:=gU h;subst h;obtain⟨u,t,rfl,g1,g2⟩:=hr.hJ;refine .cons ?_ (LH r l b hf.2 h2 t g2);cases s<;>simp only[Sh.flat]at hf<;>first|(exact absurd hf.1 rl)|skip
    ·rw[AV.FI h1]at g1;exact g1
    ·rw[AV.FK h1]at g1;exact g1
    ·rw[AV.FM h1]at g1;exact g1
    ·exact Ys h1 g1
   ·cases h
theorem F6:∀(l:List (Sh K))(x:Sh.Ts l),jD l=true->fY (Sh.encs (D0 K) l x)=true/\(Sh.encs (D0 K) l x).all AV.one=true
 |[],x,hf=>⟨rfl,rfl⟩
 |s::r,x,hf=>by
  simp only[jD,bz]at hf;obtain⟨h1,h2⟩:=F6 r x.2 hf.2;simp only[Sh.encs,fY,List.all_cons,bz];refine⟨⟨?_,h1⟩,?_,h2⟩<;>(cases s<;>simp only[Sh.flat]at hf<;>first|(exact absurd hf.1 rl)|rfl)
theorem LI:∀(l:List (Sh K))(x y:Sh.Ts l),jD l=true->db (Sh.encs (D0 K) l x)=db (Sh.encs (D0 K) l y)
 |[],x,y,hf=>rfl
 |s::r,x,y,hf=>by
  simp only[jD,bz]at hf;simp only[Sh.encs,db];rw[LI r x.2 y.2 hf.2];congr 1;cases s<;>simp only[Sh.flat]at hf<;>first|(exact absurd hf.1 rl)|rfl
theorem LJ:∀(l:List (Sh K))(x:Sh.Ts l),jD l=true->∀(j:Nat) v,(Sh.encs (D0 K) l x)[j]?=some v->v≠.cP/\(v.lh=false->gX v=false)
 |[],x,hf,j,v,h=>by simp[Sh.encs]at h
 |s::r,x,hf,j,v,h=>by
  simp only[jD,bz]at hf;cases j with
  |zero=>
   simp[Sh.encs]at h;subst h;cases s<;>simp only[Sh.flat]at hf<;>first|(exact absurd hf.1 rl)|exact⟨fun e=>(by cases e),fun _=>rfl⟩|exact⟨fun e=>(by cases e),fun e=>by cases e⟩
  |succ j=>exact LJ r x.2 hf.2 j v (by simpa [Sh.encs]using h)
theorem Yt{c:K.U}{v:AV K}{l:List (K.El c)}(h:elems [] c v=some l):v=.ax c l\/(v=.cP/\l=[]):=by
 unfold elems at h;split at h
 ·simp only[aj]at h;exact .inr ⟨rfl,h.symm⟩
 ·split at h
  ·rename_i he _;subst he;simp only[aj]at h;subst h;exact .inl rfl
  ·cases h
 ·simp at h
 ·cases h
theorem LK:∀(l:List (Sh K))(vs:List (AV K))(x:Sh.Ts l),jD l=true->Sh.dV (D0 K) l vs=some x->vs.length=l.length/\∀(j:Nat) v v',vs[j]?=some v->(Sh.encs (D0 K) l x)[j]?=some v'->v'=v\/(v=.cP/\∃c',v'=.ax c' [])
 |[],vs,x,hf,h=>by
   cases vs with
   |nil=>exact⟨rfl,fun j v v' h=>by simp at h⟩
   |cons v r=>unfold Sh.dV at h;cases h
 |s::r,vs,x,hf,h=>by
  simp only[jD,bz]at hf;cases vs with
  |nil=>unfold Sh.dV at h;cases h
  |cons v l=>
   unfold Sh.dV at h;split at h
   ·rename_i a b h1 h2;have h:=gU h;subst h;obtain⟨g1,g2⟩:=LK r l b hf.2 h2;refine⟨by simp[g1],fun j u u' hu hu'=>?_⟩;cases j with
    |zero=>
     simp[Sh.encs]at hu hu';subst hu;subst hu';cases s<;>simp only[Sh.flat]at hf<;>first|(exact absurd hf.1 rl)|skip
     ·exact .inl (AV.FI h1).symm
     ·exact .inl (AV.FK h1).symm
     ·exact .inl (AV.FM h1).symm
     ·rcases Yt h1 with h|⟨h,e⟩
      ·exact .inl h.symm
      ·exact .inr ⟨h,_,by rw[e];rfl⟩
    |succ j=>exact g2 j u u' (by simpa using hu) (by simpa [Sh.encs]using hu')
   ·cases h
theorem Yu{codes:List K.U}{base:Base}{oe:Option TypeId}{kn:K.U->Option TypeId}{cs:K.U->List (Sh K)}{mk:(c:K.U)->Sh.Ts (cs c)->K.El c×Bool}{un:(c:K.U)->K.El c->Sh.Ts (cs c)}{byte:(c:K.U)->Option ((K.El c->UInt8)×(UInt8->K.El c))}
 (hf:∀c,jD (cs c)=true) (hl:∀c,(cs c).length=K.sz c) (hu:∀c y x,mk c y=(x,true)->un c x=y) (hb:∀c f g,byte c=some (f,g)->(∀x,Sh.encs (D0 K) (cs c) (un c x)=[.int .u8 ((f x).toNat:Int)])/\∀b,f (g b)=b):bu (F5 cs mk un byte codes base oe kn):={
 len c x:=by show(Sh.encs (D0 K) (cs c) (un c x)).length=_;rw[FX,hl]
 closed c x:=(F6 _ _ (hf c)).1
 one c x:=(F6 _ _ (hf c)).2
 dec c l x h:=fun ρ S w vs hr=>by
  change(match Sh.dV (D0 K) (cs c) l with
   |some y=>some (mk c y)
   |none=>none)=some (x,true)at h
  split at h
  ·rename_i y hy
   show aW _ ρ S w (Sh.encs (D0 K) (cs c) (un c x)) vs
   rw[hu c y x (gU h)];exact LH _ _ _ (hf c) hy _ hr
  ·cases h
 byte:=hb
 flat c x:=LI _ _ _ (hf c)
 kinds c x:=LJ _ _ (hf c)
 uT c l x h:=by
  change(match Sh.dV (D0 K) (cs c) l with
   |some y=>some (mk c y)
   |none=>none)=some (x,true)at h
  split at h
  ·rename_i y hy;obtain⟨g1,g2⟩:=LK _ _ _ (hf c) hy;refine⟨by rw[g1,hl],fun j v v' h1 h2=>g2 j v v' h1 ?_⟩;change(Sh.encs (D0 K) (cs c) (un c x))[j]?=some v' at h2;rw[hu c y x (gU h)]at h2;exact h2
  ·cases h}
def mz(n:Int):Bool:=decide (0<=n)&&decide (n<256)
def nu(n:Int):UInt8:=UInt8.ofNat n.toNat
theorem LL{n:Int×Unit}{x:UInt8}(h:(nu n.1,mz n.1)=(x,true)):((x.toNat:Int),())=n:=by
 simp only[aF,mz,bz,bN]at h;obtain⟨rfl,h0,h3⟩:=h;obtain⟨a,b⟩:=n;dsimp only at h0 h3⊢;have h1:a.toNat<256:=by omega
 have h2:((nu a).toNat:Int)=a:=by
  unfold nu;rw[UInt8.toNat_ofNat'];simp only[Nat.reducePow];rw[Nat.mod_eq_of_lt h1];omega
 rw[h2]
def dP{α:Type _}:List (Nat×α)->Nat->Option α
 |[],_=>none
 |p::r,n=>cond (Nat.beq p.1 n) (some p.2) (dP r n)
def ef{α:Type _}(d:α):List (Nat×α)->Nat->α
 |[],_=>d
 |p::r,n=>cond (Nat.beq p.1 n) p.2 (ef d r n)
end Go.V
namespace Go.V
open Go
def Yv(gM gT gS gR:Nat):Base:={
 inv S w:=(S gM/\S gT/\S gS/\S gR)/\(∃m,w.cell? ⟨gM,0,none⟩=some (.int .i64 m))/\(∃T fr,w.heap[gT]?=some (.cells (Lib.pow10Tab.map fun z=>Value.int .u64 z).toArray T fr))/\(∃t p,w.cell? ⟨gS,0,none⟩=some (.iface t p))/\∃t p,w.cell? ⟨gR,0,none⟩=some (.iface t p)
 mono:=fun{S S' w w'} hS hw h=>by
  obtain⟨⟨h1,h2,h3,h4⟩,⟨m,hm⟩,⟨T,fr,hT⟩,⟨t,p,hs⟩,⟨t2,p2,hr⟩⟩:=h;refine⟨⟨hS _ h1,hS _ h2,hS _ h3,hS _ h4⟩,⟨m,?_⟩,⟨T,fr,by rw[hw _ h2];exact hT⟩,⟨t,p,?_⟩,⟨t2,p2,?_⟩⟩
  ·rw[cell?_of_heap (w:=w) (a:=⟨gM,0,none⟩) (hw _ h1)];exact hm
  ·rw[cell?_of_heap (w:=w) (a:=⟨gS,0,none⟩) (hw _ h3)];exact hs
  ·rw[cell?_of_heap (w:=w) (a:=⟨gR,0,none⟩) (hw _ h4)];exact hr}
end Go.V
namespace Go.V
open Go
def ahw(gM gT gS gR gA:Nat):Base:={
 inv S w:=(S gA/\(∃T fr,w.heap[gA]?=some (.cells (Lib.asciiSpaceTab.map fun z=>Value.int .u8 z).toArray T fr))/\S gM/\S gT/\S gS/\S gR)/\(∃m,w.cell? ⟨gM,0,none⟩=some (.int .i64 m))/\(∃T fr,w.heap[gT]?=some (.cells (Lib.pow10Tab.map fun z=>Value.int .u64 z).toArray T fr))/\(∃t p,w.cell? ⟨gS,0,none⟩=some (.iface t p))/\∃t p,w.cell? ⟨gR,0,none⟩=some (.iface t p)
 mono:=fun{S S' w w'} hS hw h=>by
  obtain⟨⟨hA,⟨TA,Yw,hTA⟩,h1,h2,h3,h4⟩,⟨m,hm⟩,⟨T,fr,hT⟩,⟨t,p,hs⟩,⟨t2,p2,hr⟩⟩:=h;refine⟨⟨hS _ hA,⟨TA,Yw,by rw[hw _ hA];exact hTA⟩,hS _ h1,hS _ h2,hS _ h3,hS _ h4⟩,⟨m,?_⟩,⟨T,fr,by rw[hw _ h2];exact hT⟩,⟨t,p,?_⟩,⟨t2,p2,?_⟩⟩
  ·rw[cell?_of_heap (w:=w) (a:=⟨gM,0,none⟩) (hw _ h1)];exact hm
  ·rw[cell?_of_heap (w:=w) (a:=⟨gS,0,none⟩) (hw _ h3)];exact hs
  ·rw[cell?_of_heap (w:=w) (a:=⟨gR,0,none⟩) (hw _ h4)];exact hr}
end Go.V
namespace Go.V
end Go.V
