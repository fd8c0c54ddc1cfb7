/-
  NEW NUMBERS FOR THE OBJECTS.
-/
import Derived.Test.YtkljhbbnhbklnaaGreatDoorXWgC
import Derived.Test.YtkljhbbnhbklnaaGreatDoorXWgA
import Derived.Lib.ItoaNum
set_option linter.unusedVariables false
namespace Go.V
open Go
variable {K :di}{ρ ρ':List Value}{S S':Nat->Prop}{w w':World}{H H':List (Ob K)}
theorem RV{α β:Type}{f:α->Option β}:∀(l:List α)(l':List β),uC f l=some l'->l'.length=l.length/\∀(i:Nat) y,l'[i]?=some y->∃x,l[i]?=some x/\f x=some y
 |[],l',h=>by simp[uC]at h;subst h;simp
 |x::l,l',h=>by
  simp only[uC]at h;split at h
  ·rename_i y m h1 h2;simp only[ax]at h;subst h;obtain⟨g1,g2⟩:=RV l m h2;refine⟨by simp[g1],fun i z hi=>?_⟩;cases i with
   |zero=>simp at hi;subst hi;exact⟨x,rfl,h1⟩
   |succ i=>simp at hi;obtain⟨v,q1,q2⟩:=g2 i z hi;exact⟨v,by simpa using q1,q2⟩
  ·cases h
theorem Ln{n0 n:Nat}:∀(src:List (Option Nat))(k:Nat),rO n0 n k src=true->
 (∀i:Nat,src[i]?=some none->k+i<n0)/\(∀(i h:Nat),src[i]?=some (some h)->h<n/\(k+i<n0->h=k+i))/\∀(i j h:Nat),src[i]?=some (some h)->src[j]?=some (some h)->i=j
 |[],k,h=>⟨fun i hi=>by simp at hi,fun i h hi=>by simp at hi,fun i j h hi=>by simp at hi⟩
 |none::r,k,h=>by
  simp only[rO,bB,bU]at h;obtain⟨a,b,c⟩:=Ln r (k+1) h.2;refine⟨fun i hi=>?_,fun i g hi=>?_,fun i j g hi hj=>?_⟩
  ·cases i with
   |zero=>exact h.1
   |succ i=>have:=a i (by simpa using hi);omega
  ·cases i with
   |zero=>simp at hi
   |succ i=>have:=b i g (by simpa using hi);exact⟨this.1,fun hh=>by have:=this.2 (by omega);omega⟩
  ·cases i with
   |zero=>simp at hi
   |succ i=>
    cases j with
    |zero=>simp at hj
    |succ j=>rw[c i j g (by simpa using hi) (by simpa using hj)]
 |some g0::r,k,h=>by
  simp only[rO,bB,gi,bU,fK,rH,eV]at h;obtain⟨h1,h2,h3,h4⟩:=h;obtain⟨a,b,c⟩:=Ln r (k+1) h4;refine⟨fun i hi=>?_,fun i g hi=>?_,fun i j g hi hj=>?_⟩
  ·cases i with
   |zero=>simp at hi
   |succ i=>have:=a i (by simpa using hi);omega
  ·cases i with
   |zero=>simp at hi;subst hi;exact⟨h1,fun hh=>by omega⟩
   |succ i=>have:=b i g (by simpa using hi);exact⟨this.1,fun hh=>by have:=this.2 (by omega);omega⟩
  ·cases i with
   |zero=>
    simp at hi;subst hi;cases j with
    |zero=>rfl
    |succ j=>exact absurd (iz (by simpa using hj)) h3
   |succ i=>
    cases j with
    |zero=>simp at hj;subst hj;exact absurd (iz (by simpa using hi)) h3
    |succ j=>rw[c i j g (by simpa using hi) (by simpa using hj)]
theorem ahN{src:List (Option Nat)}{h i:Nat}(hi:rN src h=some i):src[i]?=some (some h):=by
 unfold rN at hi;rw[List.idxOf?_eq_some_iff]at hi;obtain⟨hlt,he,-⟩:=hi;rw[cF hlt];simpa using he
def kf(ρ:List Value):Nat->List (Option Nat)->List Value
 |_,[]=>[]
 |i,none::r=>ρ.getD i undef::kf ρ (i+1) r
 |i,some h::r=>ρ.getD h undef::kf ρ (i+1) r
theorem EN{ρ:List Value}:∀(src:List (Option Nat))(k i:Nat)(x:Option Nat),src[i]?=some x->(kf ρ k src)[i]?=some (ρ.getD (x.getD (k+i)) undef)
 |[],k,i,x,h=>by simp at h
 |none::r,k,0,x,h=>by simp at h;subst h;simp[kf]
 |some h0::r,k,0,x,h=>by simp at h;subst h;simp[kf]
 |none::r,k,i+1,x,h=>by
  simp only[kf,List.getElem?_cons_succ];rw[EN r (k+1) i x (by simpa using h),kF,wo 1 i]
 |some h0::r,k,i+1,x,h=>by
  simp only[kf,List.getElem?_cons_succ];rw[EN r (k+1) i x (by simpa using h),kF,wo 1 i]
theorem Lo{ρ:List Value}:∀(src:List (Option Nat))(k:Nat),(kf ρ k src).length=src.length
 |[],k=>rfl
 |none::r,k=>by simp[kf,Lo r]
 |some h0::r,k=>by simp[kf,Lo r]
theorem RX{D:bI K}(hD:bN D)(hs:aZ D ρ S w H){n0:Nat}(hn:n0<=H.length){src:List (Option Nat)}(hk:rO n0 H.length 0 src=true)(hl:n0<=src.length)(hm:uC (uD src H) src=some H'):
 aZ D (kf ρ 0 src) S w H'/\Step D n0 ρ S H w (kf ρ 0 src) S H' w/\Ren (rN src) ρ (kf ρ 0 src)/\n0<=H'.length:=by
 obtain⟨k1,k2,k3⟩:=Ln src 0 hk;obtain⟨m1,m2⟩:=RV _ _ hm;have hlen:=hs.len;have Lp:∀{h:Nat},h<H.length->some (ρ.getD h undef)=ρ[h]?:=fun{h} hh=>by
  rw[gd,cF (show h<ρ.length by omega)];rfl
 have hsub:∀(i h:Nat),src[i]?=some (some h)->(kf ρ 0 src)[i]?=ρ[h]?:=fun i h hi=>by
  rw[EN src 0 i _ hi];exact Lp (k2 i h hi).1
 have qq:Ren (rN src) ρ (kf ρ 0 src):=fun i j r hij hr=>by rw[hsub j i (ahN hij)];exact hr
 have hsrc:∀{i:Nat}{o:Ob K},H'[i]?=some o->o.live=true->∃h o0,src[i]?=some (some h)/\H[h]?=some o0/\kK (rN src) o0=some o:=fun{i o} ho hlive=>by
  obtain⟨x,q1,q2⟩:=m2 i o ho;cases x with
  |none=>simp only[uD,ax]at q2;subst q2;simp[Ob.live]at hlive
  |some h=>
   simp only[uD]at q2;split at q2
   ·rename_i o0 ho0;exact⟨h,o0,q1,ho0,q2⟩
   ·cases q2
 have hown:∀b,Own D w (kf ρ 0 src) H' b->Own D w ρ H b:=fun b ⟨i,o,r,h1,h2,h3,h4⟩=>by
  obtain⟨h,o0,e1,e2,e3⟩:=hsrc h1 h2;rw[hsub i h e1]at h3;exact⟨h,o0,r,e2,by rw[<-my e3];exact h2,h3,(nz e3).1 h4⟩
 refine⟨⟨by rw[Lo,m1],fun i o r h1 h2=>?_,fun i j o o' r r' b h1 h2 h3 h4 g1 g2 g3 g4=>?_,fun b hb=>hs.lt b (hown b hb),hs.slt,hs.base⟩,⟨rfl,rfl,rfl,ct _,fun _ _ _=>rfl,fun b hb=>.inl (hown b hb),fun _ h=>h,fun _ h=>.inl h,fun i hi=>?_⟩,qq,by rw[m1];exact hl⟩
 ·obtain⟨x,q1,q2⟩:=m2 i o h1;cases x with
  |none=>simp only[uD,ax]at q2;subst q2;trivial
  |some h=>
   simp only[uD]at q2;split at q2
   ·rename_i o0 ho0;rw[hsub i h q1]at h2;exact J7 hD qq q2 (hs.ob h o0 r ho0 h2)
   ·cases q2
 ·obtain⟨h,o0,e1,e2,e3⟩:=hsrc h1 h2;obtain⟨h',Ks,c1,c2,c3⟩:=hsrc g1 g2;rw[hsub i h e1]at h3;rw[hsub j h' c1]at g3;have:=hs.eX h h' o0 Ks r r' b e2 (by rw[<-my e3];exact h2) h3 ((nz e3).1 h4) c2 (by rw[<-my c3];exact g2) g3 ((nz c3).1 g4);subst this;exact k3 i j h e1 c1
 ·have hi':i<src.length:=by omega
  have hg:=cF hi';rw[EN src 0 i _ hg];cases hx:src[i]with
  |none=>rw[Option.getD_none,fB];exact Lp (by omega)
  |some h=>
   rw[hx]at hg;have:=(k2 i h hg).2 (by omega);rw[av,this,fB];exact Lp (by omega)
def Goes(cx:Cx K)(n0:Nat)(st st':St K):Prop:=
 ∀(ρ:List Value)(S:Nat->Prop)(a:Act)(w:World),n0<=st.H.length->Sat cx ρ S a w st->n0<=st'.H.length/\∃ρ' S',Sat cx ρ' S' a w st'/\Step cx.D n0 ρ S st.H w ρ' S' st'.H w
theorem Goes.trans{cx:Cx K}{n0:Nat}{st st1 st2:St K}(a:Goes cx n0 st st1)(b:Goes cx n0 st1 st2):Goes cx n0 st st2:=fun ρ S a' w hn bK=>by
 obtain⟨h1,ρ1,S1,q1,q2⟩:=a ρ S a' w hn bK;obtain⟨h2,ρ2,S2,q3,q4⟩:=b ρ1 S1 a' w h1 q1;exact⟨h2,ρ2,S2,q3,q2.trans q4⟩
theorem EO{cx:Cx K}(hD:bN cx.D){n0:Nat}{src:List (Option Nat)}{keep:List Nat}{st st':St K}(h:qk n0 src keep st=some st'):st'.ok=st.ok/\dD st'.tm/\(dD st.tm->Goes cx n0 st st'):=by
 unfold qk at h;split at h
 ·rename_i hk;simp only[bB,bU]at hk;split at h
  ·rename_i vs H' hv hm;simp only[ax]at h;subst h;refine⟨rfl,RS hv,fun h0 ρ S a w hn bK=>?_⟩;obtain⟨s1,s2,s3,s4⟩:=RX hD bK.heap hn hk.1 hk.2 hm;refine⟨s4,_,S,⟨s1,Lm bK.slots.len.symm fun i t v x g1 g2 g3=>?_,bK.defers⟩,s2⟩;obtain⟨v0,q1,q2⟩:=(uR _ _ hv).2 i v g2;simp only[jk,g1,iC,ax]at q1;subst q1;refine rX hD s3 _ v x q2 ?_;rw[gd];cases hg:st.tm[t]? with
   |none=>exact .any x
   |some v1=>exact bK.slots.rep h0 hg g3
  ·cases h
 ·cases h
end Go.V
namespace Go.V
open Go
variable {K :di}{ρ ρ':List Value}{S S':Nat->Prop}{w w':World}{H H':List (Ob K)}
theorem Lq{cx:Cx K}(hD:bN cx.D){st:St K}{a:Act}(h0:dD st.tm)(bK:Sat cx ρ S a w st):∀(rs:List ResultVar)(l:List (AV K)),rM cx st rs=some l->
 ∃vs:List Value,(rs.mapM fun r=>(match r with
  |.tmp t=>pure (a.tmps.getD t undef)
  |.cell p t=>do loadVar t (<-asAddr (a.tmps.getD p undef)):Sem Value)).run cx.P w=.ok vs w/\bj cx.D ρ S w l vs
 |[],l,h=>by
   simp only[rM,ax]at h;subst h;exact⟨[],by simp,.nil⟩
 |.tmp t::r,l,h=>by
   simp only[rM]at h;split at h
   ·rename_i l1 h1;simp only[ax]at h;subst h;obtain⟨vs,q1,q2⟩:=Lq hD h0 bK r l1 h1;refine⟨a.tmps.getD t undef::vs,?_,.cons ?_ q2⟩
    ·simp only[List.mapM_cons,Sem.run_bind,Sem.run_pure,Result.andThen_ok];rw[q1];rfl
    ·rw[gd,ng];cases hg:st.tm[t]? with
     |none=>exact .any _
     |some v=>
      obtain⟨x,hx,-⟩:=bK.slots.get hg;rw[hx];exact bK.slots.rep h0 hg hx
   ·cases h
 |.cell p t::r,l,h=>by
   simp only[rM]at h;split at h
   ·rename_i v l1 hv h1;simp only[ax]at h;subst h;obtain⟨vs,q1,q2⟩:=Lq hD h0 bK r l1 h1;have hrep:Rep cx.D ρ S w (st.tm.getD p .any) (a.tmps.getD p undef):=by
     rw[gd,ng];cases hg:st.tm[p]? with
     |none=>exact .any _
     |some v=>
      obtain⟨x,hx,-⟩:=bK.slots.get hg;rw[hx];exact bK.slots.rep h0 hg hx
    obtain⟨u,hu,hr⟩:=P1 hD bK.heap hv hrep;refine⟨u::vs,?_,.cons hr q2⟩;have hu':(do loadVar t (<-asAddr (a.tmps.getD p undef)):Sem Value).run cx.P w=.ok u w:=by
     generalize a.tmps.getD p undef=X at hu;unfold Instr.loadAt at hu;simp only[Sem.run_bind]at hu⊢;cases X<;>first
      |(simp[Instr.sureAddr,Result.andThen]at hu;done)
      |skip
     rename_i pa;cases pa with
     |none=>simp[Instr.sureAddr,Result.andThen,stuck]at hu
     |some pa=>simpa [Instr.sureAddr,asAddr]using hu
    simp only[List.mapM_cons,Sem.run_bind]at hu'⊢;rw[hu'];simp only[Result.andThen_ok];rw[q1];rfl
   ·cases h
theorem ahO{cx:Cx K}(hD:bN cx.D){fn:Func}{st:St K}{a:Act}(h0:dD st.tm)(bK:Sat cx ρ S a w st){v:AV K}(h:resV cx fn st=some v):∃u,(results fn a.tmps).run cx.P w=.ok u w/\Rep cx.D ρ S w v u:=by
 have key:∀l,rM cx st fn.results.toList=some l->∃vs:List Value,bj cx.D ρ S w l vs/\(results fn a.tmps).run cx.P w=.ok (if h:vs.toArray.size=1 then vs.toArray[0]else .tuple vs.toArray) w:=fun l hl=>by
  obtain⟨vs,q1,q2⟩:=Lq hD h0 bK _ l hl;refine⟨vs,q2,?_⟩;unfold results;rw[Array.mapM_eq_mapM_toList];simp only[map_eq_pure_bind,bind_assoc,pure_bind,Sem.run_bind];exact Eq.trans (rF (fun z:Result (List Value)=>z.andThen fun l w'=>Sem.run cx.P (pure (if h:l.toArray.size=1 then l.toArray[0]else Value.tuple l.toArray)) w') q1) rfl
 unfold resV at h;split at h
 ·rename_i v1 hl;simp only[ax]at h;subst h;obtain⟨vs,q1,q2⟩:=key _ hl;obtain⟨x,r,rfl,hx,hr⟩:=q1.gq;have:=hr.nw;subst this;exact⟨x,by rw[q2];rfl,oN bK.heap _ _ hx⟩
 ·rename_i l hne hl;simp only[ax]at h;subst h;obtain⟨vs,q1,q2⟩:=key _ hl;have q1':=zn bK.heap _ _ q1;refine⟨.tuple vs.toArray,?_,.bz q1'.1 q1'.2⟩;rw[q2,dif_neg];intro h1;have:l.length=1:=by rw[q1.1];simpa using h1
  match l,this with
  |[x],_=>exact hne x rfl
 ·cases h
end Go.V
namespace Go.V
open Go
variable {K :di}{ρ ρ':List Value}{S S':Nat->Prop}{w w':World}{H H':List (Ob K)}
inductive oP (X Y:Type):Type 1 where
 |nx (x:X)
 |out (y:Y)
 |bad
 |br (b:Bool) (l r:oP X Y)
 |sum {A B:Type} (s:A⊕B) (f:A->oP X Y) (g:B->oP X Y)
noncomputable def oP.elim{X Y R:Type}(t:oP X Y)(nx:X->R)(out:Y->R)(bad:R):R:=
 oP.rec (motive:=fun _=>R) nx out bad (fun b _ _ l r=>cond b l r) (fun s _ _ f g=>Sum.rec (motive:=fun _=>R) f g s) t
theorem oP.cases{X Y:Type}(t:oP X Y):(∃x,∀(R:Type) nx out bad,t.elim (R:=R) nx out bad=nx x)\/(∃y,∀(R:Type) nx out bad,t.elim (R:=R) nx out bad=out y)\/∀(R:Type) nx out bad,t.elim (R:=R) nx out bad=bad:=by
 induction t with
 |nx x=>exact .inl ⟨x,fun _ _ _ _=>rfl⟩
 |out y=>exact .inr (.inl ⟨y,fun _ _ _ _=>rfl⟩)
 |bad=>exact .inr (.inr fun _ _ _ _=>rfl)
 |br b l r ihl ihr=>cases b;exact ihr;exact ihl
 |sum s f g ihf ihg=>
  cases s with
  |inl a=>exact ihf a
  |inr b=>exact ihg b
noncomputable def iter{X Y:Type}(step:X->oP X Y):Nat->X->Option Y
 |0,_=>none
 |n+1,x=>(step x).elim (iter step n) some none
structure l7 (K:di) (X Y:Type) where
 n:Nat
 n0:Nat
 ins:List Nat
 outs:List Nat
 start:List (AV K)->List (Ob K)->Option X
 vals:X->List (AV K)
 ahR:X->List (Ob K)
 step:X->oP X Y
 chk:X->Bool
 fin:X->Y
 out:Y->{R:Type}->(Ex->List (AV K)->List (Ob K)->R)->R
variable {X Y:Type}
def l7.st(M:l7 K X Y)(x:X):St K:=⟨eB (List.replicate M.n .any) M.ins (M.vals x),M.ahR x,true⟩
def l7.fst(M:l7 K X Y)(y:Y):Ex×St K:=M.out y fun e vs Ho=>(e,⟨eB (List.replicate M.n .any) M.outs vs,Ho,true⟩)
def l7.RY(M:l7 K X Y):bE K:={
 n:=M.n
 ins:=M.ins
 outs:=M.outs
 run vs H k:=match M.start vs H with
  |some x=>cond (M.chk x) (M.out (M.fin x) k) none
  |none=>none}
noncomputable def l7.tree(M:l7 K X Y)(x:X):Option (St K⊕Ex×St K):=(M.step x).elim (fun x'=>some (.inl (M.st x'))) (fun y=>some (.inr (M.fst y))) none
theorem RZ{cx:Cx K}(hD:bN cx.D){s s1:St K}(h:rP cx s=some (true,s1)):s1.tm=s.tm/\s1.ok=s.ok/\s1.H.length=s.H.length/\∀(n0:Nat)(ρ:List Value)(S:Nat->Prop)(a:Act)(w:World),Sat cx ρ S a w s->Sat cx ρ S a w s1/\Step cx.D n0 ρ S s.H w ρ S s1.H w:=by
 unfold rP at h;split at h
 ·simp only[ax,bc,true_and]at h;subst h;exact⟨rfl,rfl,rfl,fun n0 ρ S a w hs=>⟨hs,Step.refl⟩⟩
 ·split at h
  ·rename_i H' b t hsh;simp only[ax,bc]at h;obtain⟨rfl,rfl⟩:=h;have hl:H'.length=s.H.length:=by
    unfold shut at hsh;split at hsh
    ·simp only[ax,bc]at hsh;rw[<-hsh.1]
    ·cases hsh
   refine⟨rfl,rfl,hl,fun n0 ρ S a w hs=>?_⟩;obtain⟨g1,g2,-⟩:=QQ (n0:=n0) hD hs.heap hsh;exact⟨⟨g1,hs.slots,hs.defers⟩,g2⟩
  ·cases h
theorem R7{cx:Cx K}(hD:bN cx.D)(hc:aN cx)(hm:cx.P.follows .mixedOrders=true){c:Code}(hl:ir cx c){n0:Nat}{keep outs:List Nat}{st:St K}{r:St K⊕Ex×St K}(h:D2 cx n0 keep outs c st=some r)(h0:dD st.tm):
 st.ok=true/\match r with
   |.inl st'=>dD st'.tm/\Tr cx n0 c st .normal st'
   |.inr (e,st')=>e≠.normal/\Tr cx n0 c st e st':=by
 unfold D2 at h;obtain⟨e,s,h1,h2,h3⟩:=oO hD hc hm c hl _ _ _ h;cases hok:s.ok with
 |false=>rw[hok]at h1;cases h1
 |true=>
  rw[hok]at h1;simp only[ad]at h1;obtain⟨n1,htr⟩:=h3 hok h0;refine⟨h2 hok,?_⟩;have key:∀keep' s1 s',rP cx s=some (true,s1)->uE n0 keep' s1=some s'->dD s'.tm/\Tr cx n0 c st e s':=fun keep' s1 s' hcl hn=>by
   obtain⟨g1,g2⟩:dD s'.tm/\(dD s1.tm->Goes cx n0 s1 s'):=(EO (cx:=cx) hD hn).2;obtain⟨c1,c2,c3,c4⟩:=RZ hD hcl;refine⟨g1,fun ρ S a w hn0 bK=>wp_mono (htr n0 ρ S a w hn0 bK) ?_⟩
   rintro e' a' w' ⟨he,hn1,ρ1,S1,fD,hst1⟩
   obtain⟨ahS,ahT⟩:=c4 n0 ρ1 S1 a' w' fD;obtain⟨hn2,ρ2,S2,zJ,hst2⟩:=g2 (by rw[c1];exact n1) ρ1 S1 a' w' (by rw[c3];exact hn1) ahS;exact⟨he,hn2,ρ2,S2,zJ,(hst1.trans ahT).trans hst2⟩
  cases e with
  |normal=>
   dsimp only at h1;split at h1
   ·rename_i b s1 hcl;cases b with
    |false=>cases h1
    |true=>
    simp only[ad]at h1;split at h1
    ·rename_i s' hn;simp only[ax]at h1;subst h1;exact key _ _ _ hcl hn
    ·cases h1
   ·cases h1
  |exit id=>
   dsimp only at h1;split at h1
   ·rename_i b s1 hcl;cases b with
    |false=>cases h1
    |true=>
    simp only[ad]at h1;split at h1
    ·rename_i s' hn;simp only[ax]at h1;subst h1;exact⟨by simp,(key _ _ _ hcl hn).2⟩
    ·cases h1
   ·cases h1
  |ret=>
   dsimp only at h1;split at h1
   ·rename_i b s1 hcl;cases b with
    |false=>cases h1
    |true=>
    simp only[ad]at h1;split at h1
    ·rename_i s' hn;simp only[ax]at h1;subst h1;exact⟨by simp,(key _ _ _ hcl hn).2⟩
    ·cases h1
   ·cases h1
theorem R9{cx:Cx K}(hD:bN cx.D)(hc:aN cx)(hm:cx.P.follows .mixedOrders=true){c:Code}(hl:ir cx c){M:l7 K X Y}(hr:∀x,D2 cx M.n0 M.ins M.outs c (M.st x)=M.tree x){ρ0:List Value}{S0:Nat->Prop}{H0:List (Ob K)}{w0:World}{y:Y}:
 ∀(n:Nat)(x:X),iter M.step n x=some y->dD (M.st x).tm->∀(ρ:List Value)(S:Nat->Prop)(a:Act)(w:World),M.n0<=(M.st x).H.length->Sat cx ρ S a w (M.st x)->Step cx.D M.n0 ρ0 S0 H0 w0 ρ S (M.st x).H w->
  Code.rounds cx.P c (fun e' a' w'=>e'=(M.fst y).1.nj/\M.n0<=(M.fst y).2.H.length/\∃ρ' S',Sat cx ρ' S' a' w' (M.fst y).2/\Step cx.D M.n0 ρ0 S0 H0 w0 ρ' S' (M.fst y).2.H w') n a w
 |0,x,h,_,_,_,_,_,_,_,_=>by simp[iter]at h
 |n+1,x,h,h0,ρ,S,a,w,hn,bK,hst=>by
  have hrx:=hr x;rw[rounds_succ];simp only[iter]at h;unfold l7.tree at hrx;rcases(M.step x).cases with⟨x',hx⟩|⟨y',hy⟩|hb
  ·rw[hx]at h hrx;obtain⟨-,n1,htr⟩:=R7 hD hc hm hl hrx h0;refine wp_mono (htr ρ S a w hn bK) ?_
   rintro e' a' w' ⟨rfl,hn1,ρ1,S1,fD,hst1⟩
   exact R9 hD hc hm hl hr n x' h n1 ρ1 S1 a' w' hn1 fD (hst.trans hst1)
  ·rw[hy]at h hrx;simp only[ax]at h;subst h;obtain⟨-,hne,htr⟩:=R7 hD hc hm hl hrx h0;refine wp_mono (htr ρ S a w hn bK) ?_
   rintro e' a' w' ⟨rfl,hn1,ρ1,S1,fD,hst1⟩
   have:∀(e:Ex),e≠.normal->∀(N:Act->World->Prop)(Q:Exit->Act->World->Prop),Q e.nj a' w'->Exit.then N Q e.nj a' w':=fun e he N Q hq=>by
    cases e with
    |normal=>exact absurd rfl he
    |exit id=>exact hq
    |ret=>exact hq
   exact this _ hne _ _ ⟨rfl,hn1,ρ1,S1,fD,hst.trans hst1⟩
  ·rw[hb]at h;cases h
theorem l7.ok{cx:Cx K}(hD:bN cx.D)(hc:aN cx)(hm:cx.P.follows .mixedOrders=true){c:Code}(hl:ir cx c)(M:l7 K X Y)(hr:∀x,D2 cx M.n0 M.ins M.outs c (M.st x)=M.tree x)
 (hs:∀vs Hi x,M.start vs Hi=some x->Hi.length=M.n0/\Goes cx M.n0 ⟨eB (List.replicate M.n .any) M.ins vs,Hi,true⟩ (M.st x)) (hno:∀x,(M.vals x).all (fun v=> !v.jl)=true)
 (hf:∀x,M.chk x=true->∃n,iter M.step n x=some (M.fin x)) (ho:∀y,∃e vs Ho,∀(R:Type)(k:Ex->List (AV K)->List (Ob K)->R),M.out y k=k e vs Ho):bF cx c M.RY:=by
 intro vals Hi R k r h;simp only[l7.RY]at h;split at h
 ·rename_i x hx;cases Lr:M.chk x with
  |false=>rw[Lr]at h;cases h
  |true=>
   rw[Lr]at h;simp only[ad]at h;obtain⟨n,hn⟩:=hf x Lr;obtain⟨e,vs,Ho,hout⟩:=ho (M.fin x);rw[hout]at h;refine⟨e,vs,Ho,h,?_⟩;obtain⟨hlen,hgo⟩:=hs vals Hi x hx;have ahU:M.fst (M.fin x)=(e,⟨eB (List.replicate M.n .any) M.outs vs,Ho,true⟩):=hout _ _;have h0:dD (M.st x).tm:=fun t g b v e=>by
    rcases w9 M.ins (M.vals x) _ t _ e with h1|⟨i,-,h2⟩
    ·rw[lW]at h1;split at h1<;>cases h1
    ·have:=fj.1 (hno x) _ (iz h2);simp[AV.jl]at this
   intro ρ S a w hn0 bK;rw[hlen]at hn0⊢;obtain⟨hn1,ρ1,S1,fD,hst1⟩:=hgo ρ S a w (by show M.n0<=Hi.length;omega) bK;have:=R9 hD hc hm hl hr n x hn h0 ρ1 S1 a w hn1 fD hst1;rw[ahU]at this;exact wp_loop_rounds n this
 ·cases h
end Go.V
namespace Go.V
open Go
variable {K :di}{D:bI K}{ρ ρ':List Value}{S S':Nat->Prop}{w w':World}{H H':List (Ob K)}
inductive Sh (K:di) where
 |any
 |int (k:IntKind)
 |bool
 |str
 |an (c:K.U)
 |el (c:K.U)
 |rp (c:K.U) (off:Nat)
 |dz
 |dn
 |ptr (h off:Nat)
 |own (h:Nat)
 |fn (g:Nat) (caps:List (Sh K))
 |agg (l:List (Sh K))
 |bz (l:List (Sh K))
 |np (h:Nat)
 |ep (h:Nat) (c:K.U) (off:Nat)
inductive aY (K:di) where
 |dead
 |box (l:List (Sh K))
 |el (c:K.U)
 |arr (c:K.U)
 |gI (c:K.U)
 |tree (c:K.U)
mutual
def Sh.T:Sh K->Type
 |.int _=>Int
 |.bool=>Bool
 |.str=>List UInt8
 |.an c=>List (K.El c)
 |.el c=>K.El c
 |.rp c _=>K.El c
 |.ep _ _ _=>Nat
 |.fn _ l=>Sh.Ts l
 |.agg l=>Sh.Ts l
 |.bz l=>Sh.Ts l
 |_=>Unit
def Sh.Ts:List (Sh K)->Type
 |[]=>Unit
 |s::r=>Sh.T s×Sh.Ts r
end
def aY.T:aY K->Type
 |.dead=>Unit
 |.box l=>Sh.Ts l
 |.el c=>K.El c
 |.arr c=>List (K.El c)
 |.gI c=>List (K.El c)
 |.tree c=>List (K.El c)
def aY.Ts:List (aY K)->Type
 |[]=>Unit
 |s::r=>aY.T s×aY.Ts r
mutual
def Sh.enc(D:bI K):(s:Sh K)->s.T->AV K
 |.any,_=>.any
 |.int k,n=>.int k n
 |.bool,b=>.bool b
 |.str,s=>.str s
 |.an c,l=>.an c l
 |.el c,x=>.agg (D.cells c x)
 |.rp c o,x=>.rp c x o
 |.dz,_=>.dz
 |.dn,_=>.dn
 |.ptr h o,_=>.ptr h o
 |.own h,_=>.sl h
 |.np h,_=>.np h
 |.ep h c o,i=>.ep h (K.sz c) i o
 |.fn g l,x=>.fn g (Sh.encs D l x)
 |.agg l,x=>.agg (Sh.encs D l x)
 |.bz l,x=>.bz (Sh.encs D l x)
def Sh.encs(D:bI K):(l:List (Sh K))->Sh.Ts l->List (AV K)
 |[],_=>[]
 |s::r,x=>Sh.enc D s x.1::Sh.encs D r x.2
end
def aY.enc(D:bI K):(s:aY K)->s.T->Ob K
 |.dead,_=>.dead
 |.box l,x=>.box (Sh.encs D l x)
 |.el c,x=>.box (D.cells c x)
 |.arr c,x=>.arr c x
 |.gI c,x=>.gI c x
 |.tree c,x=>.tree c x
def aY.encs(D:bI K):(l:List (aY K))->aY.Ts l->List (Ob K)
 |[],_=>[]
 |s::r,x=>aY.enc D s x.1::aY.encs D r x.2
def AV.getInt(k:IntKind):AV K->Option Int
 |.int k' n=>if k=k' then some n else none
 |_=>none
def AV.getBool:AV K->Option Bool
 |.bool b=>some b
 |_=>none
def AV.Ls:AV K->Option (List UInt8)
 |.str s=>some s
 |_=>none
def AV.EP:AV K->Option (List (AV K))
 |.agg l=>some l
 |_=>none
def AV.Lt:AV K->Option (List (AV K))
 |.bz l=>some l
 |_=>none
def AV.getFn(g:Nat):AV K->Option (List (AV K))
 |.fn g' l=>if g=g' then some l else none
 |_=>none
def AV.Lu(c:K.U)(o:Nat):AV K->Option (K.El c)
 |.rp c' x o'=>if o=o' then match K.jY c' c with
   |.isTrue h=>some (h ▸ x)
   |.isFalse _=>none else none
 |_=>none
def AV.Lx:AV K->Option Unit
 |.dz=>some ()
 |_=>none
def AV.Ly:AV K->Option Unit
 |.dn=>some ()
 |_=>none
def AV.LA(h o:Nat):AV K->Option Unit
 |.ptr h' o'=>if h=h' then if o=o' then some ()else none else none
 |_=>none
def AV.LC(h:Nat):AV K->Option Unit
 |.sl h'=>if h=h' then some ()else none
 |_=>none
def AV.LD(h:Nat):AV K->Option Unit
 |.np h'=>if h=h' then some ()else none
 |_=>none
def AV.LF(h:Nat)(c:K.U)(o:Nat):AV K->Option Nat
 |.ep h' st i o'=>if h=h' then if K.sz c=st then if o=o' then some i else none else none else none
 |_=>none
theorem AV.ahV{h:Nat}{c:K.U}{o:Nat}{v:AV K}{n:Nat}(hh:v.LF h c o=some n):v=.ep h (K.sz c) n o:=by
 unfold AV.LF at hh;split at hh
 ·split at hh
  ·split at hh
   ·split at hh
    ·rename_i h1 h2 h3;subst h1;subst h2;subst h3;simp only[ax]at hh;subst hh;rfl
    ·cases hh
   ·cases hh
  ·cases hh
 ·cases hh
theorem AV.LG{k:IntKind}{v:AV K}{n:Int}(h:v.getInt k=some n):v=.int k n:=by
 unfold AV.getInt at h;split at h
 ·split at h
  ·rename_i hk;subst hk;simp only[ax]at h;subst h;rfl
  ·cases h
 ·cases h
theorem AV.LH{v:AV K}{n:Bool}(h:v.getBool=some n):v=.bool n:=by
 unfold AV.getBool at h;split at h
 ·simp only[ax]at h;subst h;rfl
 ·cases h
theorem AV.LI{v:AV K}{n:List UInt8}(h:v.Ls=some n):v=.str n:=by
 unfold AV.Ls at h;split at h
 ·simp only[ax]at h;subst h;rfl
 ·cases h
theorem AV.Si{v:AV K}{n:List (AV K)}(h:v.EP=some n):v=.agg n:=by
 unfold AV.EP at h;split at h
 ·simp only[ax]at h;subst h;rfl
 ·cases h
theorem AV.ahW{v:AV K}{n:List (AV K)}(h:v.Lt=some n):v=.bz n:=by
 unfold AV.Lt at h;split at h
 ·simp only[ax]at h;subst h;rfl
 ·cases h
theorem AV.ahX{g:Nat}{v:AV K}{n:List (AV K)}(h:v.getFn g=some n):v=.fn g n:=by
 unfold AV.getFn at h;split at h
 ·split at h
  ·rename_i hk;subst hk;simp only[ax]at h;subst h;rfl
  ·cases h
 ·cases h
theorem AV.ahY{c:K.U}{o:Nat}{v:AV K}{n:K.El c}(h:v.Lu c o=some n):v=.rp c n o:=by
 unfold AV.Lu at h;split at h
 ·split at h
  ·rename_i hk;subst hk;split at h
   ·rename_i he _;subst he;simp only[ax]at h;subst h;rfl
   ·cases h
  ·cases h
 ·cases h
theorem AV.ahZ{v:AV K}{n:Unit}(h:v.Lx=some n):v=.dz:=by
 unfold AV.Lx at h;split at h
 ·rfl
 ·cases h
theorem AV.ah0{v:AV K}{n:Unit}(h:v.Ly=some n):v=.dn:=by
 unfold AV.Ly at h;split at h
 ·rfl
 ·cases h
theorem AV.ah1{a o:Nat}{v:AV K}{n:Unit}(h:v.LA a o=some n):v=.ptr a o:=by
 unfold AV.LA at h;split at h
 ·split at h
  ·split at h
   ·rename_i h1 h2;subst h1;subst h2;rfl
   ·cases h
  ·cases h
 ·cases h
theorem AV.ah2{a:Nat}{v:AV K}{n:Unit}(h:v.LC a=some n):v=.sl a:=by
 unfold AV.LC at h;split at h
 ·split at h
  ·rename_i h1;subst h1;rfl
  ·cases h
 ·cases h
theorem AV.Sj{a:Nat}{v:AV K}{n:Unit}(h:v.LD a=some n):v=.np a:=by
 unfold AV.LD at h;split at h
 ·split at h
  ·rename_i h1;subst h1;rfl
  ·cases h
 ·cases h
def sure{α:Type}:Option (α×Bool)->Option α
 |some (x,true)=>some x
 |_=>none
theorem Sl{α:Type}{o:Option (α×Bool)}{x:α}(h:sure o=some x):o=some (x,true):=by
 unfold sure at h;split at h
 ·simp only[ax]at h;subst h;rfl
 ·cases h
mutual
def Sh.dec(D:bI K):(s:Sh K)->AV K->Option s.T
 |.any,_=>some ()
 |.int k,v=>v.getInt k
 |.bool,v=>v.getBool
 |.str,v=>v.Ls
 |.an c,v=>elems [] c v
 |.el c,v=>match v.EP with
   |some l=>sure (D.dec c l)
   |none=>none
 |.rp c o,v=>v.Lu c o
 |.dz,v=>v.Lx
 |.dn,v=>v.Ly
 |.ptr h o,v=>v.LA h o
 |.own h,v=>v.LC h
 |.np h,v=>v.LD h
 |.ep h c o,v=>v.LF h c o
 |.fn g l,v=>match v.getFn g with
   |some l'=>Sh.ee D l l'
   |none=>none
 |.agg l,v=>match v.EP with
   |some l'=>Sh.ee D l l'
   |none=>none
 |.bz l,v=>match v.Lt with
   |some l'=>Sh.ee D l l'
   |none=>none
def Sh.ee(D:bI K):(l:List (Sh K))->List (AV K)->Option (Sh.Ts l)
 |[],[]=>some ()
 |s::r,v::l=>match Sh.dec D s v,Sh.ee D r l with
  |some x,some y=>some (x,y)
  |_,_=>none
 |_,_=>none
end
def Ob.xa:Ob K->Option (List (AV K))
 |.box l=>some l
 |_=>none
def Ob.LJ(c:K.U):Ob K->Option (List (K.El c))
 |.arr c' l=>match K.jY c' c with
   |.isTrue h=>some (h ▸ l)
   |.isFalse _=>none
 |_=>none
def Ob.LK(c:K.U):Ob K->Option (List (K.El c))
 |.gI c' l=>match K.jY c' c with
   |.isTrue h=>some (h ▸ l)
   |.isFalse _=>none
 |_=>none
def Ob.LL(c:K.U):Ob K->Option (List (K.El c))
 |.tree c' l=>match K.jY c' c with
   |.isTrue h=>some (h ▸ l)
   |.isFalse _=>none
 |_=>none
theorem Ob.Sm{v:Ob K}{n:List (AV K)}(h:v.xa=some n):v=.box n:=by
 unfold Ob.xa at h;split at h
 ·simp only[ax]at h;subst h;rfl
 ·cases h
theorem Ob.ah3{c:K.U}{v:Ob K}{n:List (K.El c)}(h:v.LJ c=some n):v=.arr c n:=by
 unfold Ob.LJ at h;split at h
 ·split at h
  ·rename_i he _;subst he;simp only[ax]at h;subst h;rfl
  ·cases h
 ·cases h
theorem Ob.ah4{c:K.U}{v:Ob K}{n:List (K.El c)}(h:v.LK c=some n):v=.gI c n:=by
 unfold Ob.LK at h;split at h
 ·split at h
  ·rename_i he _;subst he;simp only[ax]at h;subst h;rfl
  ·cases h
 ·cases h
theorem Ob.ah5{c:K.U}{v:Ob K}{n:List (K.El c)}(h:v.LL c=some n):v=.tree c n:=by
 unfold Ob.LL at h;split at h
 ·split at h
  ·rename_i he _;subst he;simp only[ax]at h;subst h;rfl
  ·cases h
 ·cases h
def aY.dec(D:bI K):(s:aY K)->Ob K->Option s.T
 |.dead,_=>some ()
 |.box l,o=>match o.xa with
   |some cs=>Sh.ee D l cs
   |none=>none
 |.el c,o=>match o.xa with
   |some cs=>sure (D.dec c cs)
   |none=>none
 |.arr c,o=>o.LJ c
 |.gI c,o=>o.LK c
 |.tree c,o=>o.LL c
def aY.ee(D:bI K):(l:List (aY K))->List (Ob K)->Option (aY.Ts l)
 |[],[]=>some ()
 |s::r,v::l=>match aY.dec D s v,aY.ee D r l with
  |some x,some y=>some (x,y)
  |_,_=>none
 |_,_=>none
theorem ah6(hD:bN D){c:K.U}{v:AV K}{l:List (K.El c)}(h:elems [] c v=some l){u:Value}(hr:Rep D ρ S w v u):Rep D ρ S w (.an c l) u:=by
 unfold elems at h;split at h
 ·simp only[ax]at h;subst h;cases hr;exact .fe _ _
 ·split at h
  ·rename_i he _;subst he;simp only[ax]at h;subst h;exact hr
  ·cases h
 ·simp at h
 ·cases h
mutual
theorem Sh.xb(hD:bN D):∀(s:Sh K)(v:AV K)(x:s.T),Sh.dec D s v=some x->∀u,Rep D ρ S w v u->Rep D ρ S w (Sh.enc D s x) u
 |.any,v,x,h,u,hr=>.any u
 |.int k,v,x,h,u,hr=>by rw[AV.LG h]at hr;exact hr
 |.bool,v,x,h,u,hr=>by rw[AV.LH h]at hr;exact hr
 |.str,v,x,h,u,hr=>by rw[AV.LI h]at hr;exact hr
 |.an c,v,x,h,u,hr=>ah6 hD h hr
 |.el c,v,x,h,u,hr=>by
   unfold Sh.dec at h;split at h
   ·rename_i l hl;rw[AV.Si hl]at hr;cases hr with
    |agg hl hh=>
     have:=hD.dec c _ _ (Sl h) ρ S w _ ⟨hl,hh⟩;exact .agg this.1 this.2
   ·cases h
 |.rp c o,v,x,h,u,hr=>by rw[AV.ahY h]at hr;exact hr
 |.dz,v,x,h,u,hr=>by rw[AV.ahZ h]at hr;exact hr
 |.dn,v,x,h,u,hr=>by rw[AV.ah0 h]at hr;exact hr
 |.ptr a b,v,x,h,u,hr=>by rw[AV.ah1 h]at hr;exact hr
 |.own a,v,x,h,u,hr=>by rw[AV.ah2 h]at hr;exact hr
 |.np a,v,x,h,u,hr=>by rw[AV.Sj h]at hr;exact hr
 |.ep a c o,v,x,h,u,hr=>by rw[AV.ahV h]at hr;exact hr
 |.fn g l,v,x,h,u,hr=>by
   unfold Sh.dec at h;split at h
   ·rename_i l' hl;rw[AV.ahX hl]at hr;cases hr with
    |fn hl hh=>
     have:=Sh.sf hD l _ x h _ ⟨hl,hh⟩;exact .fn this.1 this.2
   ·cases h
 |.agg l,v,x,h,u,hr=>by
   unfold Sh.dec at h;split at h
   ·rename_i l' hl;rw[AV.Si hl]at hr;cases hr with
    |agg hl hh=>
     have:=Sh.sf hD l _ x h _ ⟨hl,hh⟩;exact .agg this.1 this.2
   ·cases h
 |.bz l,v,x,h,u,hr=>by
   unfold Sh.dec at h;split at h
   ·rename_i l' hl;rw[AV.ahW hl]at hr;cases hr with
    |bz hl hh=>
     have:=Sh.sf hD l _ x h _ ⟨hl,hh⟩;exact .bz this.1 this.2
   ·cases h
theorem Sh.sf(hD:bN D):∀(l:List (Sh K))(vs:List (AV K))(x:Sh.Ts l),Sh.ee D l vs=some x->∀us,bj D ρ S w vs us->bj D ρ S w (Sh.encs D l x) us
 |[],vs,x,h,us,hr=>by
   cases vs with
   |nil=>exact hr
   |cons v r=>unfold Sh.ee at h;cases h
 |s::r,vs,x,h,us,hr=>by
  cases vs with
  |nil=>unfold Sh.ee at h;cases h
  |cons v l=>
   unfold Sh.ee at h;split at h
   ·rename_i a b h1 h2;have h:=gW h;subst h;obtain⟨u,t,rfl,g1,g2⟩:=hr.gq;exact .cons (Sh.xb hD s v a h1 u g1) (Sh.sf hD r l b h2 t g2)
   ·cases h
end
theorem ah7{l:List (AV K)}(h:gY l=true):kJ l=false:=by
 cases l with
 |nil=>rfl
 |cons v r=>
  simp only[gY,bB]at h;cases v<;>first|rfl|(simp[AV.closed]at h)
theorem ah8{l:List (Sh K)}{cs:List (AV K)}{x:Sh.Ts l}(h:Sh.ee D l cs=some x)(hn:kJ (Sh.encs D l x)=true):kJ cs=true:=by
 cases l with
 |nil=>unfold Sh.encs at hn;cases hn
 |cons s r=>
  cases cs with
  |nil=>unfold Sh.ee at h;cases h
  |cons v vs=>
   unfold Sh.ee at h;split at h
   ·rename_i a b h1 h2;have h:=gW h;subst h;change kJ (Sh.enc D s a::Sh.encs D r b)=true at hn;cases s
    all_goals first
     |exact absurd (show false=true from hn) (by simp)
     |(have h3:=AV.Sj (v:=v) h1;rw[h3];rfl)
   ·cases h
theorem aY.xb(hD:bN D)(s:aY K)(o:Ob K)(x:s.T)(h:aY.dec D s o=some x):((aY.enc D s x).live=true->o.live=true/\∀w r b,cC D w (aY.enc D s x) r b->cC D w o r b)/\∀r,gJ D ρ S w o r->gJ D ρ S w (aY.enc D s x) r:=by
 cases s with
 |dead=>exact⟨fun h=>Bool.noConfusion h,fun _ _=>trivial⟩
 |box l=>
  change(match o.xa with
   |some cs=>Sh.ee D l cs
   |none=>none)=some x at h
  split at h
  ·rename_i cs hcs;rw[Ob.Sm hcs];refine⟨fun _=>⟨rfl,fun _ _ _ h=>h⟩,fun r hh=>?_⟩;obtain⟨b,vs,T,e,h1,h2,h3⟩:=hh;exact⟨b,vs,T,e,h1,Sh.sf hD l _ x h _ h2,fun hn=>h3 (ah8 h hn)⟩
  ·cases h
 |el c=>
  change(match o.xa with
   |some cs=>sure (D.dec c cs)
   |none=>none)=some x at h
  split at h
  ·rename_i cs hcs;rw[Ob.Sm hcs];refine⟨fun _=>⟨rfl,fun _ _ _ h=>h⟩,fun r hh=>?_⟩;obtain⟨b,vs,T,e,h1,h2,h3⟩:=hh;exact⟨b,vs,T,e,h1,hD.dec c _ _ (Sl h) ρ S w _ h2,fun hn=>by rw[ah7 (hD.closed c x)]at hn;cases hn⟩
  ·cases h
 |arr c=>rw[Ob.ah3 h];exact⟨fun h=>⟨h,fun _ _ _ h=>h⟩,fun _ h=>h⟩
 |gI c=>rw[Ob.ah4 h];exact⟨fun h=>⟨h,fun _ _ _ h=>h⟩,fun _ h=>h⟩
 |tree c=>rw[Ob.ah5 h];exact⟨fun h=>⟨h,fun _ _ _ h=>h⟩,fun _ h=>h⟩
theorem aY.ER:∀(l:List (aY K))(os:List (Ob K))(x:aY.Ts l),aY.ee D l os=some x->(aY.encs D l x).length=os.length/\∀(i:Nat) o',(aY.encs D l x)[i]?=some o'->∃o,os[i]?=some o/\∃(s:aY K)(y:s.T),aY.dec D s o=some y/\o'=aY.enc D s y
 |[],os,x,h=>by
   cases os with
   |nil=>exact⟨rfl,fun i o' h=>by simp[aY.encs]at h⟩
   |cons v r=>simp[aY.ee]at h
 |s::r,os,x,h=>by
  cases os with
  |nil=>simp[aY.ee]at h
  |cons v l=>
   simp only[aY.ee]at h;split at h
   ·rename_i a b h1 h2;have h:=gW h;subst h;obtain⟨g1,g2⟩:=aY.ER r l b h2;refine⟨by simp only[aY.encs,aU];rw[g1],fun i o' hi=>?_⟩;cases i with
    |zero=>simp[aY.encs]at hi;exact⟨v,rfl,s,a,h1,hi.symm⟩
    |succ i=>simp[aY.encs]at hi;obtain⟨o,q⟩:=g2 i o' hi;exact⟨o,by simpa using q.1,q.2⟩
   ·cases h
structure Wk (D:bI K) (vs:List (AV K)) (H:List (Ob K)) (vs':List (AV K)) (H':List (Ob K)):Prop where
 len:H'.length=H.length
 LM:∀ρ S w us,bj D ρ S w vs us->bj D ρ S w vs' us
 heap:∀ρ S w,aZ D ρ S w H->aZ D ρ S w H'
 own:∀w ρ b,Own D w ρ H' b->Own D w ρ H b
theorem Wk.step{vs vs':List (AV K)}{n0:Nat}(h:Wk D vs H vs' H'):Step D n0 ρ S H w ρ S H' w:=
 ⟨rfl,rfl,rfl,ct _,fun _ _ _=>rfl,fun b hb=>.inl (h.own _ _ b hb),fun _ h=>h,fun _ h=>.inl h,fun _ _=>rfl⟩
theorem aY.Sr{l:List (aY K)}{os:List (Ob K)}{x:aY.Ts l}(hD:bN D)(h:aY.ee D l os=some x)(w:World)(ρ:List Value)(b:Nat)(hb:Own D w ρ (aY.encs D l x) b):Own D w ρ os b:=by
 obtain⟨i,o',r,h1,h2,h3,h4⟩:=hb;obtain⟨o,q1,s,y,q2,rfl⟩:=(aY.ER l os x h).2 i o' h1;have q3:=(aY.xb (ρ:=ρ) (S:=fun _=>False) (w:=w) hD s o y q2).1 h2;exact⟨i,o,r,q1,q3.1,h3,q3.2 _ _ _ h4⟩
theorem aY.sf{l:List (aY K)}{os:List (Ob K)}{x:aY.Ts l}(hD:bN D)(h:aY.ee D l os=some x)(hs:aZ D ρ S w os):aZ D ρ S w (aY.encs D l x):=by
 obtain⟨g1,g2⟩:=aY.ER l os x h;refine⟨by rw[g1];exact hs.len,fun i o' r h1 h2=>?_,fun i j o o' r r' b h1 h2 h3 h4 c1 c2 c3 c4=>?_,fun b hb=>hs.lt b (aY.Sr hD h w ρ b hb),hs.slt,hs.base⟩
 ·obtain⟨o,q1,s,y,q2,rfl⟩:=g2 i o' h1;exact(aY.xb hD s o y q2).2 r (hs.ob i o r q1 h2)
 ·obtain⟨o1,q1,s,y,q2,rfl⟩:=g2 i o h1;obtain⟨o2,p1,s',y',p2,rfl⟩:=g2 j o' c1;have a1:=(aY.xb (ρ:=ρ) (S:=S) (w:=w) hD s o1 y q2).1 h2;have a2:=(aY.xb (ρ:=ρ) (S:=S) (w:=w) hD s' o2 y' p2).1 c2;exact hs.eX i j o1 o2 r r' b q1 a1.1 h3 (a1.2 _ _ _ h4) p1 a2.1 c3 (a2.2 _ _ _ c4)
structure aI (K:di) where
 vs:List (Sh K)
 os:List (aY K)
def aI.T(c:aI K):Type:=Sh.Ts c.vs×aY.Ts c.os
def aI.dec(D:bI K)(c:aI K)(vs:List (AV K))(H:List (Ob K)):Option c.T:=
 match Sh.ee D c.vs vs,aY.ee D c.os H with
 |some a,some b=>some (a,b)
 |_,_=>none
def aI.lC(D:bI K)(c:aI K)(x:c.T):List (AV K):=Sh.encs D c.vs x.1
def aI.l8(D:bI K)(c:aI K)(x:c.T):List (Ob K):=aY.encs D c.os x.2
theorem aI.zK(hD:bN D){c:aI K}{vs:List (AV K)}{x:c.T}(h:c.dec D vs H=some x):Wk D vs H (c.lC D x) (c.l8 D x):=by
 unfold aI.dec at h;split at h
 ·rename_i a b h1 h2;have h:=gW h;subst h;exact⟨(aY.ER c.os H b h2).1,fun ρ S w us hr=>Sh.sf hD c.vs vs a h1 us hr,fun ρ S w hs=>aY.sf hD h2 hs,fun w ρ b' hb=>aY.Sr hD h2 w ρ b' hb⟩
 ·cases h
end Go.V
namespace Go.V
open Go
variable {K :di}{ρ ρ':List Value}{S S':Nat->Prop}{w w':World}{H H':List (Ob K)}
def nD(dp:K.U->Bool)(H:List (Ob K))(cs:List (List (Option K.U))):AV K->AV K×List (Ob K)
 |.bz l=>(.bz (fM dp H cs l).1,(fM dp H cs l).2)
 |v=>((fM dp H cs [v]).1.headD v,(fM dp H cs [v]).2)
def forgets:List Bool->List (AV K)->List (AV K)
 |[],vs=>vs
 |_::_,[]=>[]
 |true::r,_::vs=>.any::forgets r vs
 |false::r,v::vs=>v::forgets r vs
def ES:List Bool->AV K->AV K
 |[],v=>v
 |l,.bz vs=>.bz (forgets l vs)
 |true::_,_=>.any
 |false::_,v=>v
theorem LN{D:bI K}:∀(l:List Bool)(vs:List (AV K))(us:List Value),bj D ρ S w vs us->bj D ρ S w (forgets l vs) us
 |[],vs,us,h=>by simpa only[forgets]using h
 |_::_,[],us,h=>by simpa only[forgets]using h
 |b::r,v::vs,us,h=>by
  obtain⟨u,t,rfl,h1,h2⟩:=h.gq;cases b
  ·exact .cons h1 (LN r vs t h2)
  ·exact .cons (.any u) (LN r vs t h2)
theorem ah9{D:bI K}(l:List Bool)(v:AV K)(u:Value)(h:Rep D ρ S w v u):Rep D ρ S w (ES l v) u:=by
 unfold ES;split
 ·exact h
 ·cases h with
  |bz hl hh=>
   have:=LN l _ _ ⟨hl,hh⟩;exact .bz this.1 this.2
 ·exact .any _
 ·exact h
def LP(cx:Cx K)(fz:Bool)(fn:Func)(n0:Nat){R:Type}(fin:AV K->List (Ob K)->Option R)(e:Ex)(st:St K):Option R:=
 match e with
 |.exit _=>none
 |_=>match resV cx fn st with
  |some v0=>let v:=ES cx.Pv v0
   cond st.ok (cond fz (match D3 cx.mv n0 (eH (iY st.H (hands v)) v) (iY st.H (hands v))with
    |some (v',H')=>fin v' H'
    |none=>none) (match D3 cx.mv n0 (nD cx.deep st.H cx.ik v).1 (nD cx.deep st.H cx.ik v).2 with
    |some (v',H')=>fin v' H'
    |none=>none)) none
  |none=>none
def ET(cx:Cx K)(fz:Bool)(fn:Func)(args:List (AV K))(H:List (Ob K)){R:Type}(fin:AV K->List (Ob K)->Option R):Option R:=
 match fn.body with
 |some c=>fW cx c ⟨args++List.replicate (fn.ntmps-args.length) .any,H,true⟩ (LP cx fz fn H.length fin)
 |none=>none
structure Ss (P:Program) (f:FuncId) (fn:Func):Prop where
 get:P.funcs[f]?=some fn
 name:(fn.name== "runtime.NumGoroutine")=false
theorem LQ{D:bI K}(dp:K.U->Bool):∀(css:List (List (Option K.U)))(l:List (AV K))(H:List (Ob K))(ρ:List Value)(vs:List Value),aZ D ρ S w H->bj D ρ S w l vs->wJ D S w H ρ vs (fM dp H css l)
 |[],l,H,ρ,vs,hs,hr=>⟨ρ,by simpa [fM]using hs,by simpa [fM]using hr,by simpa [fM]using Step.refl,fun _ _ h=>h,by simp[fM],fun _ _ h=>by simpa [fM]using h⟩
 |cs::css,[],H,ρ,vs,hs,hr=>⟨ρ,by simpa [fM]using hs,by simpa [fM]using hr,by simpa [fM]using Step.refl,fun _ _ h=>h,by simp[fM],fun _ _ h=>by simpa [fM]using h⟩
 |cs::css,v::r,H,ρ,vs,hs,hr=>by
  obtain⟨u,t,rfl,h1,h2⟩:=hr.gq;have fin:∀(v':AV K)(p:List (AV K)×List (Ob K))(us:List Value),(∀ρ',bj D ρ' S w p.1 us->Rep D ρ' S w v' u)->wJ D S w H ρ us p->wJ D S w H ρ (u::t) (v'::(fM dp p.2 css r).1,(fM dp p.2 css r).2):=fun v' p us hv hp=>by
   obtain⟨ρ1,g1,g2,g3,g4,g5,g6⟩:=hp;obtain⟨ρ2,k1,k2,k3,k4,k5,k6⟩:=LQ dp css r p.2 ρ1 t g1 (h2.mono (fun _ h=>h) (fun _ _=>rfl) g4);exact⟨ρ2,k1,.cons ((hv ρ1 g2).mono (fun _ h=>h) (fun _ _=>rfl) k4) k2,g3.trans (k3.weaken g5),fun h r hr=>k4 h r (g4 h r hr),kG g5 k5,fun h o ho=>k6 h o (g6 h o ho)⟩
  have one:∀v,Rep D ρ S w v u->fM dp H (cs::css) (v::r)=((thaw dp H cs [v]).1.headD v::(fM dp (thaw dp H cs [v]).2 css r).1,(fM dp (thaw dp H cs [v]).2 css r).2)->wJ D S w H ρ (u::t) (fM dp H (cs::css) (v::r)):=fun v h1 e=>by
   rw[e];refine fin _ _ [u] (fun ρ' hr'=>?_) (uH dp cs [v] H ρ [u] hs (.cons h1 .nil));generalize hq:(thaw dp H cs [v]).1=q at hr';cases q with
   |nil=>have:=hr'.1;simp at this
   |cons x y=>exact hr'.head
  cases v with
  |agg l=>
   cases h1 with
   |agg hl hh=>
    have e:fM dp H (cs::css) (.agg l::r)=(.agg (thaw dp H cs l).1::(fM dp (thaw dp H cs l).2 css r).1,(fM dp (thaw dp H cs l).2 css r).2):=rfl;rw[e];exact fin _ _ _ (fun ρ' hr'=>.agg hr'.1 hr'.2) (uH dp cs l H ρ _ hs ⟨hl,hh⟩)
  |_=>exact one _ h1 rfl
theorem aia{D:bI K}(dp:K.U->Bool)(cs:List (List (Option K.U)))(v:AV K)(hs:aZ D ρ S w H){u:Value}(hr:Rep D ρ S w v u):
 ∃ρ',aZ D ρ' S w (nD dp H cs v).2/\Rep D ρ' S w (nD dp H cs v).1 u/\Step D H.length ρ S H w ρ' S (nD dp H cs v).2 w/\H.length<=(nD dp H cs v).2.length:=by
 have one:∀v,Rep D ρ S w v u->nD dp H cs v=((fM dp H cs [v]).1.headD v,(fM dp H cs [v]).2)->∃ρ',aZ D ρ' S w (nD dp H cs v).2/\Rep D ρ' S w (nD dp H cs v).1 u/\Step D H.length ρ S H w ρ' S (nD dp H cs v).2 w/\H.length<=(nD dp H cs v).2.length:=fun v hr e=>by
  rw[e];obtain⟨ρ',g1,g2,g3,g4,g5,g6⟩:=LQ dp cs [v] H ρ [u] hs (.cons hr .nil);refine⟨ρ',g1,?_,g3,g5⟩;generalize hq:(fM dp H cs [v]).1=q at g2;cases q with
  |nil=>have:=g2.1;simp at this
  |cons x y=>exact g2.head
 cases v with
 |bz l=>
  cases hr with
  |bz hl hh=>
   obtain⟨ρ',g1,g2,g3,g4,g5,g6⟩:=LQ dp cs l H ρ _ hs ⟨hl,hh⟩;exact⟨ρ',g1,.bz g2.1 g2.2,g3,g5⟩
 |_=>exact one _ hr rfl
theorem aib{cx:Cx K}(hD:bN cx.D){fz:Bool}{fn:Func}{n0:Nat}{R:Type}{fin:AV K->List (Ob K)->Option R}{e:Ex}{st:St K}{r:R}(h:LP cx fz fn n0 fin e st=some r):
 st.ok=true/\(∀i,e≠.exit i)/\∃v v' H',resV cx fn st=some v/\fin v' H'=some r/\∀ρ S w,n0<=st.H.length->aZ cx.D ρ S w st.H->∀u,Rep cx.D ρ S w v u->∃ρ' S',aZ cx.D ρ' S' w H'/\Rep cx.D ρ' S' w v' u/\Step cx.D n0 ρ S st.H w ρ' S' H' w:=by
 have key:∀(v0:AV K)(H0:List (Ob K)) v' H',D3 cx.mv n0 v0 H0=some (v',H')->∀ρ S w,n0<=H0.length->aZ cx.D ρ S w H0->∀u,Rep cx.D ρ S w v0 u->∃ρ',aZ cx.D ρ' S w H'/\Rep cx.D ρ' S w v' u/\Step cx.D n0 ρ S H0 w ρ' S H' w:=fun v0 H0 v' H' hp ρ S w hn hs u hr=>by
  unfold D3 JH at hp;split at hp
  ·rename_i hk;simp only[bB,bU]at hk;split at hp
   ·rename_i v'' H1 hv' hH';simp only[ax,bc]at hp;obtain⟨rfl,rfl⟩:=hp;obtain⟨s1,s2,s3,s4⟩:=RX hD hs hn hk.1 hk.2 hH';exact⟨_,s1,rX hD s3 _ _ u hv' hr,s2⟩
   ·cases hp
  ·cases hp
 unfold LP at h;split at h
 ·cases h
 ·rename_i hne;split at h
  ·rename_i v0 hv0;dsimp only at h;generalize hv:ES cx.Pv v0=v at h;have Su:∀{ρ S w}{u:Value},Rep cx.D ρ S w v0 u->Rep cx.D ρ S w v u:=fun hr=>by rw[<-hv];exact ah9 _ _ _ hr
   cases hok:st.ok with
   |false=>rw[hok]at h;cases h
   |true=>
    rw[hok]at h;simp only[ad]at h;refine⟨rfl,hne,?_⟩;cases fz with
    |false=>
     simp only[ak]at h;split at h
     ·rename_i v' H' hp;exact⟨v0,v',H',hv0,h,fun ρ S w hn hs u hr0=>by
       have hr:=Su hr0;obtain⟨ρ1,t1,t2,t3,t4⟩:=aia cx.deep cx.ik v hs hr;obtain⟨ρ',a,b,c⟩:=key _ _ _ _ hp ρ1 S w (kG hn t4) t1 u t2;exact⟨ρ',S,a,b,(t3.weaken hn).trans c⟩⟩
     ·cases h
    |true=>
     simp only[ad]at h;split at h
     ·rename_i v' H' hp;exact⟨v0,v',H',hv0,h,fun ρ S w hn hs u hr0=>by
       have hr:=Su hr0;obtain⟨S1,g1,g2,g3⟩:=D7 (n0:=n0) (hands v) hs;obtain⟨ρ',a,b,c⟩:=key _ _ _ _ hp ρ S1 w (by omega) g1 u (oN g1 _ _ (hr.mono g2.s1 (fun _ _=>rfl) (fun _ _ h=>h)));exact⟨ρ',S1,a,b,g2.trans c⟩⟩
     ·cases h
  ·cases h
theorem aic{cx:Cx K}(hD:bN cx.D)(hc:aN cx)(hm:cx.P.follows .mixedOrders=true){fz:Bool}{f:FuncId}{fn:Func}(hf:Ss cx.P f fn)(hl:∀c,fn.body=some c->ir cx c)
 {args:List (AV K)} {R:Type} {fin:AV K->List (Ob K)->Option R} {r:R} (h:ET cx fz fn args H fin=some r):∃v H',fin v H'=some r/\RC cx.D cx.P f args H v H':=by
 unfold ET at h;split at h
 ·rename_i c hb;obtain⟨e,st,h1,-,h3⟩:=oO hD hc hm c (hl c hb) _ _ _ h;obtain⟨hok,hne,v,v',H',hv,hr,hfin⟩:=aib hD h1;refine⟨v',H',hr,⟨fn,hf.get,hf.name,by rw[hb];rfl⟩,fun ρ S w vals hs ha=>?_⟩;have h0:dD (args++List.replicate (fn.ntmps-args.length) (AV.any:AV K)):=fun t g b y e=>by
   rcases cN t args.length with hlt|hge
   ·rw[dS hlt]at e;obtain⟨x,-,hx⟩:=ha.get e;cases hx
   ·rw[eS hge,lW]at e;split at e<;>cases e
  obtain⟨n1,htr⟩:=h3 hok h0;refine calls_of_wp hf.get hb ?_;have bK:Sat cx ρ S {tmps:=vals.toArray++Array.replicate (fn.ntmps-vals.toArray.size) undef,defers:=[]} w ⟨args++List.replicate (fn.ntmps-args.length) .any,H,true⟩:=⟨hs,⟨by simp[ha.1],fun t v x h1 h2=>.kb (by
   rcases cN t args.length with hlt|hge
   ·rw[dS hlt]at h1;rw[Array.getElem?_append_left (by simpa [<-ha.1]using hlt)]at h2;exact ha.2 t v x h1 (by simpa using h2)
   ·rw[eS hge,lW]at h1;split at h1
    ·simp at h1;subst h1;exact .any x
    ·cases h1)⟩,rfl⟩
  refine wp_mono (htr H.length ρ S _ w (ct _) bK) ?_
  rintro e' a' w' ⟨rfl,hn,ρ1,S1,fD,hst1⟩
  obtain⟨u,hu,hr1⟩:=ahO hD n1 fD hv;have Sv:∃u' ρ' S',Ending.returned u=.returned u'/\aZ cx.D ρ' S' w' H'/\Rep cx.D ρ' S' w' v' u'/\Step cx.D H.length ρ S H w ρ' S' H' w':=by
   obtain⟨ρ2,S2,q1,q2,q3⟩:=hfin ρ1 S1 w' hn fD.heap u hr1;exact⟨u,ρ2,S2,rfl,q1,q2,hst1.trans q3⟩
  cases e with
  |exit i=>exact absurd rfl (hne i)
  |normal=>exact⟨fD.defers,u,hu,Sv⟩
  |ret=>exact⟨fD.defers,u,hu,Sv⟩
 ·cases h
structure aE (K:di) where
 f:FuncId
 sh:aI K
 R:Type
 run:sh.T->Option R
 dflt:R
 out:R->AV K×List (Ob K)
def aE.Ok(D:bI K)(P:Program)(c:aE K):Prop:=∀x r,c.run x=some r->RC D P c.f (c.sh.lC D x) (c.sh.l8 D x) (c.out r).1 (c.out r).2
def callOf(D:bI K):List (aE K)->FuncId->List (AV K)->List (Ob K)->Option (AV K×List (Ob K)×Bool)
 |[],_,_,_=>none
 |c::l,f,args,H=>cond (Nat.beq c.f f) (match c.sh.dec D args H with
  |some x=>some ((c.out ((c.run x).getD c.dflt)).1,(c.out ((c.run x).getD c.dflt)).2,(c.run x).isSome)
  |none=>callOf D l f args H) (callOf D l f args H)
theorem RC.weak{D:bI K}{P:Program}{f:FuncId}{args args':List (AV K)}{r:AV K}{Ho:List (Ob K)}(hw:Wk D args H args' H')(h:RC D P f args' H' r Ho):RC D P f args H r Ho:=by
 refine⟨h.1,fun ρ S w vals hs ha=>(h.2 ρ S w vals (hw.heap _ _ _ hs) (hw.LM _ _ _ _ ha)).mono ?_⟩
 rintro e w' ⟨u,ρ',S',rfl,h1,h2,h3⟩
 rw[hw.len]at h3;exact⟨u,ρ',S',rfl,h1,h2,hw.step.trans h3⟩
theorem Sz{D:bI K}(hD:bN D){P:Program}:∀(l:List (aE K)),(∀c∈l,c.Ok D P)->∀f args H r H',callOf D l f args H=some (r,H',true)->RC D P f args H r H'
 |[],_,f,args,H,r,H',h=>by simp[callOf]at h
 |c::l,hl,f,args,H,r,H',h=>by
  have ih:=Sz hD l (fun c hc=>hl c (by simp[hc])) f args H r H';unfold callOf at h;cases hb:Nat.beq c.f f with
  |false=>rw[hb]at h;exact ih h
  |true=>
   rw[hb]at h;have hf:c.f=f:=yV hb;simp only[ad]at h;split at h
   ·rename_i x hx;simp only[ax,bc]at h;obtain⟨h1,h2,h3⟩:=h;obtain⟨y,hy⟩:=Option.isSome_iff_exists.1 h3;rw[hy]at h1 h2;simp only[av]at h1 h2;have:=hl c (by simp) x y hy;rw[h1,h2,hf]at this;exact this.weak (aI.zK hD hx)
   ·exact ih h
theorem aV{cx:Cx K}(hD:bN cx.D)(l:List (aE K))(hl:∀c∈l,c.Ok cx.D cx.P)(he:cx.call=callOf cx.D l:=by exact rfl)(ha:cx.alt=fun _ _ _ _=>none:=by exact rfl)(ho:(fun(R:Type)=>cx.y6 (R:=R))=fun(R:Type)(a b:Option R)=>Jo a b:=by exact rfl):aN cx:=by
 refine⟨fun f args H r H' h=>?_,fun b f args H r H' h=>?_,fun R a b r h=>?_⟩
 ·rw[he]at h;exact Sz hD l hl f args H r H' h
 ·rw[ha]at h;cases h
 ·have:=congrFun ho R;rw[this]at h;exact afU h
def aE.frz(D:bI K)(c:aE K):aE K:={c with out:=fun r=>(jm D (c.out r).2 (c.out r).1,[])}
structure zL (K:di) (D:bI K) (R:Type) where
 sh:aI K
 conv:sh.T->R
def zL.fin{D:bI K}{R:Type}(d:zL K D R)(v:AV K)(H:List (Ob K)):Option R:=match d.sh.dec D [v] H with
 |some x=>some (d.conv x)
 |none=>none
theorem fR{cx:Cx K}(hD:bN cx.D)(hc:aN cx)(hm:cx.P.follows .mixedOrders=true){c:aE K}{fz:Bool}{fn:Func}(hf:Ss cx.P c.f fn)(hl:∀b,fn.body=some b->ir cx b)
 (d:zL K cx.D c.R) (ho:∀x,([(c.out (d.conv x)).1],(c.out (d.conv x)).2)=(d.sh.lC cx.D x,d.sh.l8 cx.D x)) (he:∀x,ET cx fz fn (c.sh.lC cx.D x) (c.sh.l8 cx.D x) d.fin=c.run x):c.Ok cx.D cx.P:=by
 intro x r hr;rw[<-he x]at hr;obtain⟨v,H',h1,h2⟩:=aic hD hc hm hf hl hr;unfold zL.fin at h1;split at h1
 ·rename_i y hy;simp only[ax]at h1;have hw:=aI.zK hD hy;have:=ho y;simp only[bc]at this;rw[<-this.1,<-this.2]at hw;rw[h1]at hw;refine⟨h2.1,fun ρ S w vals hs ha=>(h2.2 ρ S w vals hs ha).mono ?_⟩
  rintro e w' ⟨u,ρ',S',rfl,g1,g2,g3⟩
  have:=(hw.LM _ _ _ [u] (.cons g2 .nil)).head;exact⟨u,ρ',S',rfl,hw.heap _ _ _ g1,this,g3.trans hw.step⟩
 ·cases h1
instance : Coe Bool Nat:=⟨fun b=>cond b 1 0⟩
def stays(kp i:Nat):Bool:=Nat.beq kp 1||Nat.blt (i+2) kp
def LR(kp:Nat):Nat->List (Ob K)->List (Option Nat)×List (Option Nat)
 |_,[]=>([],[])
 |i,o::r=>match LR kp (i+1) r with
  |(a,b)=>match o with
   |.arr ..=>cond (stays kp i) (some i::a,b) (none::a,some i::b)
   |.tree ..=>cond (stays kp i) (some i::a,b) (none::a,some i::b)
   |_=>(some i::a,b)
def SA(kp:Nat)(n n0:Nat)(ins:List Nat)(vals:List (AV K))(Hi:List (Ob K)):Option (St K):=
 match qk n0 ((LR kp 0 Hi).1++(LR kp 0 Hi).2) ins ⟨eB (List.replicate n .any) ins vals,Hi,true⟩with
 |some st=>uE n0 ins st
 |none=>none
def mF(st:St K)(ts:List Nat):List (AV K):=ts.map fun t=>st.tm.getD t .any
def bH(D:bI K)(kp:Nat)(n n0:Nat)(ins outs:List Nat)(sh:aI K){Y:Type}(run:sh.T->Option Y)(out:Y->{R:Type}->(Ex->List (AV K)->List (Ob K)->R)->R):bE K:={
 n:=n
 ins:=ins
 outs:=outs
 run vals Hi k:=cond (Nat.beq Hi.length n0) (match SA kp n n0 ins vals Hi with
  |some st=>match sh.dec D (mF st ins) st.H with
   |some x=>match run x with
    |some y=>out y k
    |none=>none
   |none=>none
  |none=>none) none}
def LS(cx:Cx K)(n n0:Nat)(ins outs:List Nat)(sh:aI K){Y:Type}(next:sh.T->Option Y)(fin:Ex->List (AV K)->List (Ob K)->Option Y)(e:Ex)(s:St K):Option Y:=
 cond s.ok (cond (Nat.beq s.tm.length n) (match e with
  |.normal=>match rP cx s with
    |some (b,s1)=>cond b (match uE n0 ins s1 with
     |some s'=>match sh.dec cx.D (mF s' ins) s'.H with
      |some x=>next x
      |none=>none
     |none=>none) none
    |none=>none
  |e=>match rP cx s with
   |some (b,s1)=>cond b (match uE n0 outs s1 with
    |some s'=>fin e (mF s' outs) s'.H
    |none=>none) none
   |none=>none) none) none
def uS(D:bI K)(n:Nat)(ins:List Nat)(sh:aI K)(x:sh.T):St K:=⟨eB (List.replicate n .any) ins (sh.lC D x),sh.l8 D x,true⟩
structure cn (K:di) (Y:Type) where
 e:Ex
 sh:aI K
 conv:sh.T->Y
def Ex.same:Ex->Ex->Bool
 |.normal,.normal=>true
 |.exit a,.exit b=>Nat.beq a b
 |.ret,.ret=>true
 |_,_=>false
theorem Ex.same_eq{a b:Ex}(h:Ex.same a b=true):a=b:=by
 cases a<;>cases b<;>simp only[Ex.same]at h<;>first|rfl|cases h|(rw[yV h])
def xc(D:bI K){Y:Type}:List (cn K Y)->Ex->List (AV K)->List (Ob K)->Option Y
 |[],_,_,_=>none
 |d::l,e,vs,H=>cond (Ex.same d.e e) (match d.sh.dec D vs H with
  |some x=>some (d.conv x)
  |none=>none) (xc D l e vs H)
theorem SB{D:bI K}:∀(l:List (Sh K))(vs:List (AV K))(x:Sh.Ts l),Sh.ee D l vs=some x->vs.length=l.length
 |[],vs,x,h=>by
   cases vs with
   |nil=>rfl
   |cons v r=>unfold Sh.ee at h;cases h
 |s::r,vs,x,h=>by
  cases vs with
  |nil=>unfold Sh.ee at h;cases h
  |cons v l=>
   unfold Sh.ee at h;split at h
   ·rename_i a b h1 h2;simp only[aU];rw[SB r l b h2]
   ·cases h
theorem LU{D:bI K}:∀(l:List (Sh K))(x:Sh.Ts l),(Sh.encs D l x).length=l.length
 |[],x=>rfl
 |s::r,x=>by simp only[Sh.encs,aU];rw[LU r]
theorem ot{D:bI K}{sh:aI K}{vs:List (AV K)}{x:sh.T}(h:sh.dec D vs H=some x):(sh.lC D x).length=vs.length:=by
 unfold aI.dec at h;split at h
 ·rename_i a b h1 h2;unfold aI.lC;rw[LU,SB _ _ _ h1]
 ·cases h
theorem LV{D:bI K}(hD:bN D){Y:Type}{out:Y->{R:Type}->(Ex->List (AV K)->List (Ob K)->R)->R}:∀(l:List (cn K Y)),(∀d∈l,d.e≠.normal/\∀x (R:Type) (k:Ex->List (AV K)->List (Ob K)->R),out (d.conv x) k=k d.e (d.sh.lC D x) (d.sh.l8 D x))->
 ∀e vs H y,xc D l e vs H=some y->e≠.normal/\∃vs' H',(∀(R:Type)(k:Ex->List (AV K)->List (Ob K)->R),out y k=k e vs' H')/\Wk D vs H vs' H'/\vs'.length=vs.length
 |[],_,e,vs,H,y,h=>by simp[xc]at h
 |d::l,hl,e,vs,H,y,h=>by
  unfold xc at h;cases hs:Ex.same d.e e with
  |false=>rw[hs]at h;exact LV hD l (fun d hd=>hl d (by simp[hd])) e vs H y h
  |true=>
   rw[hs]at h;have he:=Ex.same_eq hs;simp only[ad]at h;split at h
   ·rename_i x hx;simp only[ax]at h;subst h;obtain⟨h1,h2⟩:=hl d (by simp);rw[he]at h1 h2;exact⟨h1,_,_,fun R k=>h2 x R k,aI.zK hD hx,ot hx⟩
   ·cases h
theorem retag{cx:Cx K}{n0:Nat}{st:St K}{ts:List Nat}{n:Nat}(hn:st.tm.length=n)(h0:dD st.tm){vs':List (AV K)}(hw:Wk cx.D (mF st ts) st.H vs' H')(hlen:vs'.length=ts.length):
 Goes cx n0 st ⟨eB (List.replicate n .any) ts vs',H',st.ok⟩:=by
 intro ρ S a w hn0 bK;refine⟨by show n0<=H'.length;rw[hw.len];exact hn0,ρ,S,⟨hw.heap _ _ _ bK.heap,?_,bK.defers⟩,hw.step⟩;have hsz:a.tmps.size=n:=by rw[<-hn];exact bK.slots.len.symm
 have hrep:∀t,Rep cx.D ρ S w (st.tm.getD t .any) (a.tmps.getD t undef):=fun t=>by
  rw[gd,ng];cases hg:st.tm[t]? with
  |none=>exact .any _
  |some v=>
   obtain⟨x,hx,-⟩:=bK.slots.get hg;rw[hx];exact bK.slots.rep h0 hg hx
 have hus:bj cx.D ρ S w (mF st ts) (ts.map fun t=>a.tmps.getD t undef):=⟨by simp[mF],fun i v x h1 h2=>by
  simp only[mF,jk,fi]at h1 h2;obtain⟨t,e1,rfl⟩:=h1;obtain⟨t',e2,rfl⟩:=h2;rw[e1]at e2;simp at e2;subst e2;exact hrep t⟩
 have aid:=hw.LM _ _ _ _ hus;refine Lm hsz fun i t v x h1 h2 h3=>aid.2 i v x h2 ?_
 simp only[jk,h1,iC];rw[ng,h3];rfl
theorem SC{D:bI K}:∀(l:List (Sh K))(x:Sh.Ts l)(i:Nat)(v:AV K),(Sh.encs D l x)[i]?=some v->v.jl=false
 |[],x,i,v,h=>by simp[Sh.encs]at h
 |s::r,x,i,v,h=>by
  cases i with
  |zero=>
   simp only[Sh.encs,List.getElem?_cons_zero,ax]at h;subst h;cases s<;>simp only[Sh.enc]<;>rfl
  |succ i=>exact SC r x.2 i v (by simpa [Sh.encs]using h)
theorem aie{n:Nat}{ds:List Nat}{l:List (AV K)}(h:∀(i:Nat) v,l[i]?=some v->v.jl=false):dD (eB (List.replicate n .any) ds l):=fun t g b v e=>by
 rcases w9 ds l _ t _ e with h1|⟨i,-,h2⟩
 ·rw[lW]at h1;split at h1<;>cases h1
 ·have:=h i _ h2;simp[AV.jl]at this
theorem LW{n0:Nat}{src:List (Option Nat)}{keep:List Nat}{st st':St K}(h:qk n0 src keep st=some st'):st'.tm.length=st.tm.length:=by
 unfold qk at h;split at h
 ·split at h
  ·simp only[ax]at h;subst h;simp[uQ]
  ·cases h
 ·cases h
theorem Tr.goes{cx:Cx K}{n0:Nat}{c:Code}{st st1 st2:St K}{e:Ex}(h:Tr cx n0 c st e st1)(g:Goes cx n0 st1 st2):Tr cx n0 c st e st2:=fun ρ S a w hn bK=>by
 refine wp_mono (h ρ S a w hn bK) ?_
 rintro e' a' w' ⟨he,hn1,ρ1,S1,fD,hst1⟩
 obtain⟨hn2,ρ2,S2,zJ,hst2⟩:=g ρ1 S1 a' w' hn1 fD;exact⟨he,hn2,ρ2,S2,zJ,hst1.trans hst2⟩
section
variable {cx :Cx K}(hD:bN cx.D)(hc:aN cx)(hm:cx.P.follows .mixedOrders=true){c:Code}(hl:ir cx c){n n0:Nat}{ins outs:List Nat}{sh:aI K}{Y:Type}{run:Nat->sh.T->Option Y}
 {bG:List (cn K Y)} {out:Y->{R:Type}->(Ex->List (AV K)->List (Ob K)->R)->R}
 (h0:∀x,run 0 x=none) (hs:∀m x,fW cx c (uS cx.D n ins sh x) (LS cx n n0 ins outs sh (run m) (xc cx.D bG))=run (m+1) x)
 (hx:∀d∈bG,d.e≠.normal/\∀x (R:Type) (k:Ex->List (AV K)->List (Ob K)->R),out (d.conv x) k=k d.e (d.sh.lC cx.D x) (d.sh.l8 cx.D x))
include hD hc hm hl h0 hs hx
theorem SD{y:Y}:∀(m:Nat)(x:sh.T),run m x=some y->∃e vs Ho,(∀(R:Type)(k:Ex->List (AV K)->List (Ob K)->R),out y k=k e vs Ho)/\
 ∀(ρ0:List Value)(S0:Nat->Prop)(H0:List (Ob K))(w0:World)(ρ:List Value)(S:Nat->Prop)(a:Act)(w:World),n0<=(uS cx.D n ins sh x).H.length->Sat cx ρ S a w (uS cx.D n ins sh x)->Step cx.D n0 ρ0 S0 H0 w0 ρ S (uS cx.D n ins sh x).H w->
  Code.rounds cx.P c (fun e' a' w'=>e'=e.nj/\n0<=Ho.length/\∃ρ' S',Sat cx ρ' S' a' w' ⟨eB (List.replicate n .any) outs vs,Ho,true⟩/\Step cx.D n0 ρ0 S0 H0 w0 ρ' S' Ho w') m a w
 |0,x,h=>by rw[h0]at h;cases h
 |m+1,x,h=>by
  rw[<-hs m x]at h;obtain⟨e,s,h1,h2,h3⟩:=oO hD hc hm c hl _ _ _ h;unfold LS at h1;have hno:dD (uS cx.D n ins sh x).tm:=aie (SC _ _);cases hok:s.ok with
  |false=>rw[hok]at h1;cases h1
  |true=>
   rw[hok]at h1;simp only[ad]at h1;obtain⟨n1,htr⟩:=h3 hok hno;cases hlen:Nat.beq s.tm.length n with
   |false=>rw[hlen]at h1;cases h1
   |true=>
   rw[hlen]at h1;simp only[ad]at h1;have hsn:s.tm.length=n:=yV hlen;have key:∀keep s1 s' vs' oM,rP cx s=some (true,s1)->uE n0 keep s1=some s'->Wk cx.D (mF s' keep) s'.H vs' oM->vs'.length=keep.length->Tr cx n0 c (uS cx.D n ins sh x) e ⟨eB (List.replicate n .any) keep vs',oM,true⟩:=fun keep s1 s' vs' oM hcl hn hw hvl=>by
    have hr:qk n0 ((reach s1.H 64 (List.range n0++cm (keep.map fun t=>s1.tm.getD t .any)) []).map some) keep s1=some s':=hn;obtain⟨hk1,g1,g2⟩:=EO (cx:=cx) hD hr;obtain⟨c1,c2,c3,c4⟩:=RZ hD hcl;have gc:Goes cx n0 s s1:=fun ρ S a w hn bK=>by
     obtain⟨q1,q2⟩:=c4 n0 ρ S a w bK;exact⟨by rw[c3];exact hn,ρ,S,q1,q2⟩
    have hl2:s1.tm.length=n:=by rw[c1];exact hsn
    have hn2:dD s1.tm:=by rw[c1];exact n1
    have:=(htr n0).goes (gc.trans ((g2 hn2).trans (retag ((LW hr).trans hl2) g1 hw hvl)));rw[hk1,c2,hok]at this;exact this
   cases e with
   |normal=>
    dsimp only at h1;split at h1
    ·rename_i b s1 hcl;cases b with
     |false=>cases h1
     |true=>
     simp only[ad]at h1;split at h1
     ·rename_i s' hn;split at h1
      ·rename_i x' hx';obtain⟨e2,vs,Ho,q1,q2⟩:=SD m x' h1;refine⟨e2,vs,Ho,q1,fun ρ0 S0 H0 w0 ρ S a w hn0 bK hst=>?_⟩;rw[rounds_succ];refine wp_mono (key ins s1 s' _ _ hcl hn (aI.zK hD hx') (by rw[ot hx'];simp[mF]) ρ S a w hn0 bK) ?_
       rintro e' a' w' ⟨rfl,hn1,ρ1,S1,fD,hst1⟩
       exact q2 ρ0 S0 H0 w0 ρ1 S1 a' w' hn1 fD (hst.trans hst1)
      ·cases h1
     ·cases h1
    ·cases h1
   |exit id=>
    dsimp only at h1;split at h1
    ·rename_i b s1 hcl;cases b with
     |false=>cases h1
     |true=>
     simp only[ad]at h1;split at h1
     ·rename_i s' hn;obtain⟨g1,vs',oM,g2,g3,g4⟩:=LV hD bG hx _ _ _ _ h1;refine⟨.exit id,vs',oM,g2,fun ρ0 S0 H0 w0 ρ S a w hn0 bK hst=>?_⟩;rw[rounds_succ];refine wp_mono (key outs s1 s' _ _ hcl hn g3 (by rw[g4];simp[mF]) ρ S a w hn0 bK) ?_
      rintro e' a' w' ⟨rfl,hn1,ρ1,S1,fD,hst1⟩
      exact⟨rfl,hn1,ρ1,S1,fD,hst.trans hst1⟩
     ·cases h1
    ·cases h1
   |ret=>
    dsimp only at h1;split at h1
    ·rename_i b s1 hcl;cases b with
     |false=>cases h1
     |true=>
     simp only[ad]at h1;split at h1
     ·rename_i s' hn;obtain⟨g1,vs',oM,g2,g3,g4⟩:=LV hD bG hx _ _ _ _ h1;refine⟨.ret,vs',oM,g2,fun ρ0 S0 H0 w0 ρ S a w hn0 bK hst=>?_⟩;rw[rounds_succ];refine wp_mono (key outs s1 s' _ _ hcl hn g3 (by rw[g4];simp[mF]) ρ S a w hn0 bK) ?_
      rintro e' a' w' ⟨rfl,hn1,ρ1,S1,fD,hst1⟩
      exact⟨rfl,hn1,ρ1,S1,fD,hst.trans hst1⟩
     ·cases h1
    ·cases h1
theorem aif(kp:Nat)(N:Nat):bF cx c (bH cx.D kp n n0 ins outs sh (run N) out):=by
 intro vals Hi R k r h;simp only[bH]at h;cases hb:Nat.beq Hi.length n0 with
 |false=>rw[hb]at h;cases h
 |true=>
  rw[hb]at h;have hlen:Hi.length=n0:=yV hb;simp only[ad]at h;split at h
  ·rename_i st hst;split at h
   ·rename_i x hx1;split at h
    ·rename_i y hy;obtain⟨e,vs,Ho,q1,q2⟩:=SD hD hc hm hl h0 hs hx N x hy;rw[q1]at h;refine⟨e,vs,Ho,h,?_⟩;unfold SA at hst;split at hst
     ·rename_i st1 hst1;have hst':qk n0 ((reach st1.H 64 (List.range n0++cm (ins.map fun t=>st1.tm.getD t .any)) []).map some) ins st1=some st:=hst;obtain⟨k1,g1,g2⟩:=EO (cx:=cx) hD hst1;obtain⟨k2,g3,g4⟩:=EO (cx:=cx) hD hst';intro ρ S a w hn0 bK;have hno:dD (eB (List.replicate n (AV.any:AV K)) ins vals):=fun t g b v e=>by
       rcases w9 ins vals _ t _ e with h1|⟨i,h1,-⟩
       ·rw[lW]at h1;split at h1<;>cases h1
       ·unfold qk at hst1;split at hst1
        ·split at hst1
         ·rename_i ws H1 hv hm1;obtain⟨gl,gg⟩:=uR _ _ hv;have hi:i<ws.length:=by rw[gl];simp;exact(cE.1 h1).1
          obtain⟨v0,q1,q2⟩:=gg i _ (cF hi);simp only[jk,h1,iC,ax]at q1;rw[gd,e]at q1;simp only[av]at q1;subst q1;simp[fC]at q2
         ·cases hst1
        ·cases hst1
      have hlen1:st1.tm.length=n:=by rw[LW hst1];simp[uQ]
      have hlen2:st.tm.length=n:=by rw[LW hst'];exact hlen1
      have hw:=aI.zK hD hx1;have hr:=retag (cx:=cx) (n0:=n0) hlen2 g3 hw (by rw[ot hx1];simp[mF]);have hok:st.ok=true:=by rw[k2,k1]
      rw[hok]at hr;rw[hlen];obtain⟨hn1,ρ1,S1,fD,hst2⟩:=((g2 hno).trans ((g4 g1).trans hr)) ρ S a w (by show n0<=Hi.length;omega) bK;exact wp_loop_rounds N (q2 ρ S Hi w ρ1 S1 a w hn1 fD hst2)
     ·cases hst
    ·cases h
   ·cases h
  ·cases h
end
def jt:Code->List Code
 |.loop c=>[c]
 |.seq a b=>jt a++jt b
 |.cond _ a b=>jt a++jt b
 |.block _ c=>jt c
 |_=>[]
def bp(c:Code)(i:Nat):Code:=(jt c).getD i .skip
theorem xd{cx:Cx K}:∀(c:Code),(∀b∈jt c,∀L,cx.loop (keyOf b)=some L->bF cx b L)->ir cx c
 |.loop c,h=>fun L hL=>h c (by simp[jt]) L hL
 |.seq a b,h=>⟨xd a fun x hx=>h x (by simp[jt,hx]),xd b fun x hx=>h x (by simp[jt,hx])⟩
 |.cond _ a b,h=>⟨xd a fun x hx=>h x (by simp[jt,hx]),xd b fun x hx=>h x (by simp[jt,hx])⟩
 |.block _ c,h=>xd c h
 |.skip,_|.exit _,_|.ret,_|.region ..,_|.scope ..,_|.rangeFunc ..,_|.goto ..,_|.label ..,_|.refuse ..,_=>trivial
def LX(cx:Cx K)(c:Code):Prop:=∃L,cx.loop (keyOf c)=some L/\bF cx c L
theorem LX.mk{cx:Cx K}{c:Code}{L:bE K}(h:cx.loop (keyOf c)=some L)(ho:bF cx c L):LX cx c:=⟨L,h,ho⟩
theorem afH{cx:Cx K}{c:Code}(n:Nat)(hn:(jt c).length=n)(h:∀i,i<n->LX cx (bp c i)):ir cx c:=
 xd c fun b hb L hL=>by
  obtain⟨i,hi,rfl⟩:=we hb;obtain⟨L',h1,h2⟩:=h i (by omega);have e:bp c i=(jt c)[i]:=by simp[bp,gd,cF hi]
  rw[e]at h1 h2;rw[h1]at hL;simp only[ax]at hL;subst hL;exact h2
theorem SE{cx:Cx K}{c:Code}(hn:(jt c).length=0):ir cx c:=afH 0 hn fun i hi=>absurd hi (DK i)
theorem ju{p:Nat->Prop}(h:p 0):∀i,i<1->p i:=fun i hi=>by
 have:i=0:=by omega
 subst this;exact h
theorem lt_succ{p:Nat->Prop}{n:Nat}(h:∀i,i<n->p i)(hn:p n):∀i,i<n+1->p i:=fun i hi=>by
 by_cases he:i=n
 ·subst he;exact hn
 ·exact h i (by omega)
def bD(fn:Func):Code:=match fn.body with
 |some c=>c
 |none=>.skip
theorem LY{cx:Cx K}{fn:Func}(h:ir cx (bD fn)):∀c,fn.body=some c->ir cx c:=fun c hc=>by
 have:bD fn=c:=by unfold bD;rw[hc]
 rw[<-this];exact h
theorem ay{α:Type _}{p:α->Prop}:∀c∈([]:List α),p c:=fun c h=>by simp at h
theorem ae{α:Type _}{p:α->Prop}{a:α}{l:List α}(h:p a)(t:∀c∈l,p c):∀c∈a::l,p c:=fun c hc=>by
 rcases gp.1 hc with rfl|hc
 ·exact h
 ·exact t c hc
theorem bJ{i:Nat}:Ex.exit i≠.normal:=fun h=>by cases h
theorem cO:Ex.ret≠.normal:=fun h=>by cases h
theorem nE{D:bI K}{P:Program}{c:aE K}(h:∀x,c.run x=none):c.Ok D P:=fun x r hr=>by rw[h]at hr;cases hr
theorem SG:∃n:Nat,2^63<=n:=⟨2^63,ct _⟩
noncomputable def ah:Nat:=Classical.choose SG
theorem bq:2^63<=ah:=Classical.choose_spec SG
end Go.V
namespace Go.V
open Go
variable {K :di}{D:bI K}{ρ ρ':List Value}{S S':Nat->Prop}{w w':World}
def Sh.flat:Sh K->Bool
 |.int _|.bool|.str|.an _=>true
 |_=>false
def kg:List (Sh K)->Bool
 |[]=>true
 |s::r=>s.flat&&kg r
def D0(K:di):bI K:={cells:=fun _ _=>[],dec:=fun _ _=>none,byte:=fun _=>none,find:=fun _=>none}
def SH(cs:K.U->List (Sh K)):List K.U->List (AV K)->Option K.U
 |[],_=>none
 |c::r,l=>match Sh.ee (D0 K) (cs c) l with
  |some _=>some c
  |none=>SH cs r l
def LZ(cs:K.U->List (Sh K))(mk:(c:K.U)->Sh.Ts (cs c)->K.El c×Bool)(un:(c:K.U)->K.El c->Sh.Ts (cs c))(byte:(c:K.U)->Option ((K.El c->UInt8)×(UInt8->K.El c)))(codes:List K.U)(base:Base:=Base.Pq)(qb:Option TypeId:=none)(rK:K.U->Option TypeId:=fun _=>none):bI K:={
 base:=base
 qb:=qb
 rK:=rK
 cells c x:=Sh.encs (D0 K) (cs c) (un c x)
 dec c l:=match Sh.ee (D0 K) (cs c) l with
  |some y=>some (mk c y)
  |none=>none
 byte:=byte
 find l:=SH cs codes l}
theorem aih{c:K.U}{v:AV K}{l:List (K.El c)}(h:elems [] c v=some l){u:Value}(hr:Rep D ρ S w v u):Rep D ρ S w (.an c l) u:=by
 unfold elems at h;split at h
 ·simp only[ax]at h;subst h;cases hr;exact .fe _ _
 ·split at h
  ·rename_i he _;subst he;simp only[ax]at h;subst h;exact hr
  ·cases h
 ·simp at h
 ·cases h
theorem SI:∀(l:List (Sh K))(vs:List (AV K))(x:Sh.Ts l),kg l=true->Sh.ee (D0 K) l vs=some x->∀us,bj D ρ S w vs us->bj D ρ S w (Sh.encs (D0 K) l x) us
 |[],vs,x,hf,h,us,hr=>by
   cases vs with
   |nil=>exact hr
   |cons v r=>unfold Sh.ee at h;cases h
 |s::r,vs,x,hf,h,us,hr=>by
  simp only[kg,bB]at hf;cases vs with
  |nil=>unfold Sh.ee at h;cases h
  |cons v l=>
   unfold Sh.ee at h;split at h
   ·rename_i a b h1 h2;have h:=gW h;subst h;obtain⟨u,t,rfl,g1,g2⟩:=hr.gq;refine .cons ?_ (SI r l b hf.2 h2 t g2);cases s<;>simp only[Sh.flat]at hf<;>first|(exact absurd hf.1 wi)|skip
    ·rw[AV.LG h1]at g1;exact g1
    ·rw[AV.LH h1]at g1;exact g1
    ·rw[AV.LI h1]at g1;exact g1
    ·exact aih h1 g1
   ·cases h
theorem L0:∀(l:List (Sh K))(x:Sh.Ts l),kg l=true->gY (Sh.encs (D0 K) l x)=true/\(Sh.encs (D0 K) l x).all AV.one=true
 |[],x,hf=>⟨rfl,rfl⟩
 |s::r,x,hf=>by
  simp only[kg,bB]at hf;obtain⟨h1,h2⟩:=L0 r x.2 hf.2;simp only[Sh.encs,gY,mo,bB];refine⟨⟨?_,h1⟩,?_,h2⟩<;>(cases s<;>simp only[Sh.flat]at hf<;>first|(exact absurd hf.1 wi)|rfl)
theorem SJ:∀(l:List (Sh K))(x y:Sh.Ts l),kg l=true->eI (Sh.encs (D0 K) l x)=eI (Sh.encs (D0 K) l y)
 |[],x,y,hf=>rfl
 |s::r,x,y,hf=>by
  simp only[kg,bB]at hf;simp only[Sh.encs,eI];rw[SJ r x.2 y.2 hf.2];congr 1;cases s<;>simp only[Sh.flat]at hf<;>first|(exact absurd hf.1 wi)|rfl
theorem SK:∀(l:List (Sh K))(x:Sh.Ts l),kg l=true->∀(j:Nat) v,(Sh.encs (D0 K) l x)[j]?=some v->v≠.dn/\(v.oK=false->iK v=false)
 |[],x,hf,j,v,h=>by simp[Sh.encs]at h
 |s::r,x,hf,j,v,h=>by
  simp only[kg,bB]at hf;cases j with
  |zero=>
   simp[Sh.encs]at h;subst h;cases s<;>simp only[Sh.flat]at hf<;>first|(exact absurd hf.1 wi)|exact⟨fun e=>(by cases e),fun _=>rfl⟩|exact⟨fun e=>(by cases e),fun e=>by cases e⟩
  |succ j=>exact SK r x.2 hf.2 j v (by simpa [Sh.encs]using h)
theorem aii{c:K.U}{v:AV K}{l:List (K.El c)}(h:elems [] c v=some l):v=.an c l\/(v=.dn/\l=[]):=by
 unfold elems at h;split at h
 ·simp only[ax]at h;exact .inr ⟨rfl,h.symm⟩
 ·split at h
  ·rename_i he _;subst he;simp only[ax]at h;subst h;exact .inl rfl
  ·cases h
 ·simp at h
 ·cases h
theorem SL:∀(l:List (Sh K))(vs:List (AV K))(x:Sh.Ts l),kg l=true->Sh.ee (D0 K) l vs=some x->vs.length=l.length/\∀(j:Nat) v v',vs[j]?=some v->(Sh.encs (D0 K) l x)[j]?=some v'->v'=v\/(v=.dn/\∃c',v'=.an c' [])
 |[],vs,x,hf,h=>by
   cases vs with
   |nil=>exact⟨rfl,fun j v v' h=>by simp at h⟩
   |cons v r=>unfold Sh.ee at h;cases h
 |s::r,vs,x,hf,h=>by
  simp only[kg,bB]at hf;cases vs with
  |nil=>unfold Sh.ee at h;cases h
  |cons v l=>
   unfold Sh.ee at h;split at h
   ·rename_i a b h1 h2;have h:=gW h;subst h;obtain⟨g1,g2⟩:=SL r l b hf.2 h2;refine⟨by simp[g1],fun j u u' hu hu'=>?_⟩;cases j with
    |zero=>
     simp[Sh.encs]at hu hu';subst hu;subst hu';cases s<;>simp only[Sh.flat]at hf<;>first|(exact absurd hf.1 wi)|skip
     ·exact .inl (AV.LG h1).symm
     ·exact .inl (AV.LH h1).symm
     ·exact .inl (AV.LI h1).symm
     ·rcases aii h1 with h|⟨h,e⟩
      ·exact .inl h.symm
      ·exact .inr ⟨h,_,by rw[e];rfl⟩
    |succ j=>exact g2 j u u' (by simpa using hu) (by simpa [Sh.encs]using hu')
   ·cases h
theorem aij{codes:List K.U}{base:Base}{qb:Option TypeId}{rK:K.U->Option TypeId}{cs:K.U->List (Sh K)}{mk:(c:K.U)->Sh.Ts (cs c)->K.El c×Bool}{un:(c:K.U)->K.El c->Sh.Ts (cs c)}{byte:(c:K.U)->Option ((K.El c->UInt8)×(UInt8->K.El c))}
 (hf:∀c,kg (cs c)=true) (hl:∀c,(cs c).length=K.sz c) (hu:∀c y x,mk c y=(x,true)->un c x=y) (hb:∀c f g,byte c=some (f,g)->(∀x,Sh.encs (D0 K) (cs c) (un c x)=[.int .u8 ((f x).toNat:Int)])/\∀b,f (g b)=b):bN (LZ cs mk un byte codes base qb rK):={
 len c x:=by show(Sh.encs (D0 K) (cs c) (un c x)).length=_;rw[LU,hl]
 closed c x:=(L0 _ _ (hf c)).1
 one c x:=(L0 _ _ (hf c)).2
 dec c l x h:=fun ρ S w vs hr=>by
  change(match Sh.ee (D0 K) (cs c) l with
   |some y=>some (mk c y)
   |none=>none)=some (x,true)at h
  split at h
  ·rename_i y hy
   show bj _ ρ S w (Sh.encs (D0 K) (cs c) (un c x)) vs
   rw[hu c y x (gW h)];exact SI _ _ _ (hf c) hy _ hr
  ·cases h
 byte:=hb
 flat c x:=SJ _ _ _ (hf c)
 kinds c x:=SK _ _ (hf c)
 D4 c l x h:=by
  change(match Sh.ee (D0 K) (cs c) l with
   |some y=>some (mk c y)
   |none=>none)=some (x,true)at h
  split at h
  ·rename_i y hy;obtain⟨g1,g2⟩:=SL _ _ _ (hf c) hy;refine⟨by rw[g1,hl],fun j v v' h1 h2=>g2 j v v' h1 ?_⟩;change(Sh.encs (D0 K) (cs c) (un c x))[j]?=some v' at h2;rw[hu c y x (gW h)]at h2;exact h2
  ·cases h}
def sg(n:Int):Bool:=decide (0<=n)&&decide (n<256)
def si(n:Int):UInt8:=UInt8.ofNat n.toNat
theorem SN{n:Int×Unit}{x:UInt8}(h:(si n.1,sg n.1)=(x,true)):((x.toNat:Int),())=n:=by
 simp only[bc,sg,bB,bU]at h;obtain⟨rfl,h0,h3⟩:=h;obtain⟨a,b⟩:=n;dsimp only at h0 h3⊢;have h1:a.toNat<256:=by omega
 have h2:((si a).toNat:Int)=a:=by
  unfold si;rw[UInt8.toNat_ofNat'];simp only[Nat.reducePow];rw[Nat.mod_eq_of_lt h1];omega
 rw[h2]
def dR{α:Type _}:List (Nat×α)->Nat->Option α
 |[],_=>none
 |p::r,n=>cond (Nat.beq p.1 n) (some p.2) (dR r n)
def ef{α:Type _}(d:α):List (Nat×α)->Nat->α
 |[],_=>d
 |p::r,n=>cond (Nat.beq p.1 n) p.2 (ef d r n)
end Go.V
namespace Go.V
open Go
def aik(gM gT gS gR:Nat):Base:={
 inv S w:=(S gM/\S gT/\S gS/\S gR)/\(∃m,w.cell? ⟨gM,0,none⟩=some (.int .i64 m))/\(∃T fr,w.heap[gT]?=some (.cells (Lib.pow10Tab.map fun z=>Value.int .u64 z).toArray T fr))/\(∃t p,w.cell? ⟨gS,0,none⟩=some (.iface t p))/\∃t p,w.cell? ⟨gR,0,none⟩=some (.iface t p)
 mono:=fun{S S' w w'} hS hw h=>by
  obtain⟨⟨h1,h2,h3,h4⟩,⟨m,hm⟩,⟨T,fr,hT⟩,⟨t,p,hs⟩,⟨t2,p2,hr⟩⟩:=h;refine⟨⟨hS _ h1,hS _ h2,hS _ h3,hS _ h4⟩,⟨m,?_⟩,⟨T,fr,by rw[hw _ h2];exact hT⟩,⟨t,p,?_⟩,⟨t2,p2,?_⟩⟩
  ·rw[cell?_of_heap (w:=w) (a:=⟨gM,0,none⟩) (hw _ h1)];exact hm
  ·rw[cell?_of_heap (w:=w) (a:=⟨gS,0,none⟩) (hw _ h3)];exact hs
  ·rw[cell?_of_heap (w:=w) (a:=⟨gR,0,none⟩) (hw _ h4)];exact hr}
end Go.V
namespace Go.V
end Go.V
