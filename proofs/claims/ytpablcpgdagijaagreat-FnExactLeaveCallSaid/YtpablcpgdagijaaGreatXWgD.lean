/-
  NEW NUMBERS FOR THE OBJECTS.
-/
import Derived.Test.YtpablcpgdagijaaGreatXWgC
set_option linter.unusedVariables false
namespace Go.V
open Go
variable {K :bL}{ρ ρ':List Value}{S S':Nat->Prop}{w w':World}{H H':List (Ob K)}
theorem P4{α β:Type}{f:α->Option β}:∀(l:List α)(l':List β),nK f l=some l'->l'.length=l.length/\∀(i:Nat) y,l'[i]?=some y->∃x,l[i]?=some x/\f x=some y
 |[],l',h=>by simp[nK]at h;subst h;simp
 |x::l,l',h=>by
  simp only[nK]at h;split at h
  ·rename_i y m h1 h2;simp only[Option.some.injEq]at h;subst h;obtain⟨g1,g2⟩:=P4 l m h2;refine⟨by simp[g1],fun i z hi=>?_⟩;cases i with
   |zero=>simp at hi;subst hi;exact⟨x,rfl,h1⟩
   |succ i=>simp at hi;obtain⟨v,q1,q2⟩:=g2 i z hi;exact⟨v,by simpa using q1,q2⟩
  ·cases h
theorem Eb{n0 n:Nat}:∀(src:List (Option Nat))(k:Nat),lJ n0 n k src=true->
 (∀i:Nat,src[i]?=some none->k+i<n0)/\(∀(i h:Nat),src[i]?=some (some h)->h<n/\(k+i<n0->h=k+i))/\∀(i j h:Nat),src[i]?=some (some h)->src[j]?=some (some h)->i=j
 |[],k,h=>⟨fun i hi=>by simp at hi,fun i h hi=>by simp at hi,fun i j h hi=>by simp at hi⟩
 |none::r,k,h=>by
  simp only[lJ,Bool.and_eq_true,decide_eq_true_eq]at h;obtain⟨a,b,c⟩:=Eb r (k+1) h.2;refine⟨fun i hi=>?_,fun i g hi=>?_,fun i j g hi hj=>?_⟩
  ·cases i with
   |zero=>exact h.1
   |succ i=>have:=a i (by simpa using hi);omega
  ·cases i with
   |zero=>simp at hi
   |succ i=>have:=b i g (by simpa using hi);exact⟨this.1,fun hh=>by have:=this.2 (by omega);omega⟩
  ·cases i with
   |zero=>simp at hi
   |succ i=>
    cases j with
    |zero=>simp at hj
    |succ j=>rw[c i j g (by simpa using hi) (by simpa using hj)]
 |some g0::r,k,h=>by
  simp only[lJ,Bool.and_eq_true,Bool.or_eq_true,decide_eq_true_eq,Bool.not_eq_true',List.contains_eq_mem,decide_eq_false_iff_not]at h;obtain⟨h1,h2,h3,h4⟩:=h;obtain⟨a,b,c⟩:=Eb r (k+1) h4;refine⟨fun i hi=>?_,fun i g hi=>?_,fun i j g hi hj=>?_⟩
  ·cases i with
   |zero=>simp at hi
   |succ i=>have:=a i (by simpa using hi);omega
  ·cases i with
   |zero=>simp at hi;subst hi;exact⟨h1,fun hh=>by omega⟩
   |succ i=>have:=b i g (by simpa using hi);exact⟨this.1,fun hh=>by have:=this.2 (by omega);omega⟩
  ·cases i with
   |zero=>
    simp at hi;subst hi;cases j with
    |zero=>rfl
    |succ j=>exact absurd (List.mem_of_getElem? (by simpa using hj)) h3
   |succ i=>
    cases j with
    |zero=>simp at hj;subst hj;exact absurd (List.mem_of_getElem? (by simpa using hi)) h3
    |succ j=>rw[c i j g (by simpa using hi) (by simpa using hj)]
theorem ac7{src:List (Option Nat)}{h i:Nat}(hi:lI src h=some i):src[i]?=some (some h):=by
 unfold lI at hi;rw[List.idxOf?_eq_some_iff]at hi;obtain⟨hlt,he,-⟩:=hi;rw[List.getElem?_eq_getElem hlt];simpa using he
def fg(ρ:List Value):Nat->List (Option Nat)->List Value
 |_,[]=>[]
 |i,none::r=>ρ.getD i undef::fg ρ (i+1) r
 |i,some h::r=>ρ.getD h undef::fg ρ (i+1) r
theorem xZ{ρ:List Value}:∀(src:List (Option Nat))(k i:Nat)(x:Option Nat),src[i]?=some x->(fg ρ k src)[i]?=some (ρ.getD (x.getD (k+i)) undef)
 |[],k,i,x,h=>by simp at h
 |none::r,k,0,x,h=>by simp at h;subst h;simp[fg]
 |some h0::r,k,0,x,h=>by simp at h;subst h;simp[fg]
 |none::r,k,i+1,x,h=>by
  simp only[fg,List.getElem?_cons_succ];rw[xZ r (k+1) i x (by simpa using h),Nat.add_assoc,Nat.add_comm 1 i]
 |some h0::r,k,i+1,x,h=>by
  simp only[fg,List.getElem?_cons_succ];rw[xZ r (k+1) i x (by simpa using h),Nat.add_assoc,Nat.add_comm 1 i]
theorem Ec{ρ:List Value}:∀(src:List (Option Nat))(k:Nat),(fg ρ k src).length=src.length
 |[],k=>rfl
 |none::r,k=>by simp[fg,Ec r]
 |some h0::r,k=>by simp[fg,Ec r]
theorem P5{D:aT K}(hD:aX D)(hs:aD D ρ S w H){n0:Nat}(hn:n0<=H.length){src:List (Option Nat)}(hk:lJ n0 H.length 0 src=true)(hl:n0<=src.length)(hm:nK (nL src H) src=some H'):
 aD D (fg ρ 0 src) S w H'/\Step D n0 ρ S H w (fg ρ 0 src) S H' w/\Ren (lI src) ρ (fg ρ 0 src)/\n0<=H'.length:=by
 obtain⟨k1,k2,k3⟩:=Eb src 0 hk;obtain⟨m1,m2⟩:=P4 _ _ hm;have hlen:=hs.len;have Ed:∀{h:Nat},h<H.length->some (ρ.getD h undef)=ρ[h]?:=fun{h} hh=>by
  rw[List.getD_eq_getElem?_getD,List.getElem?_eq_getElem (show h<ρ.length by omega)];rfl
 have hsub:∀(i h:Nat),src[i]?=some (some h)->(fg ρ 0 src)[i]?=ρ[h]?:=fun i h hi=>by
  rw[xZ src 0 i _ hi];exact Ed (k2 i h hi).1
 have j5:Ren (lI src) ρ (fg ρ 0 src):=fun i j r hij hr=>by rw[hsub j i (ac7 hij)];exact hr
 have hsrc:∀{i:Nat}{o:Ob K},H'[i]?=some o->o.live=true->∃h o0,src[i]?=some (some h)/\H[h]?=some o0/\eJ (lI src) o0=some o:=fun{i o} ho hlive=>by
  obtain⟨x,q1,q2⟩:=m2 i o ho;cases x with
  |none=>simp only[nL,Option.some.injEq]at q2;subst q2;simp[Ob.live]at hlive
  |some h=>
   simp only[nL]at q2;split at q2
   ·rename_i o0 ho0;exact⟨h,o0,q1,ho0,q2⟩
   ·cases q2
 have hown:∀b,Own D w (fg ρ 0 src) H' b->Own D w ρ H b:=fun b ⟨i,o,r,h1,h2,h3,h4⟩=>by
  obtain⟨h,o0,e1,e2,e3⟩:=hsrc h1 h2;rw[hsub i h e1]at h3;exact⟨h,o0,r,e2,by rw[<-ic e3];exact h2,h3,(iJ e3).1 h4⟩
 refine⟨⟨by rw[Ec,m1],fun i o r h1 h2=>?_,fun i j o o' r r' b h1 h2 h3 h4 g1 g2 g3 g4=>?_,fun b hb=>hs.lt b (hown b hb),hs.slt,hs.base⟩,⟨rfl,rfl,rfl,Nat.le_refl _,fun _ _ _=>rfl,fun b hb=>.inl (hown b hb),fun _ h=>h,fun _ h=>.inl h,fun i hi=>?_⟩,j5,by rw[m1];exact hl⟩
 ·obtain⟨x,q1,q2⟩:=m2 i o h1;cases x with
  |none=>simp only[nL,Option.some.injEq]at q2;subst q2;trivial
  |some h=>
   simp only[nL]at q2;split at q2
   ·rename_i o0 ho0;rw[hsub i h q1]at h2;exact CS hD j5 q2 (hs.ob h o0 r ho0 h2)
   ·cases q2
 ·obtain⟨h,o0,e1,e2,e3⟩:=hsrc h1 h2;obtain⟨h',C0,c1,c2,c3⟩:=hsrc g1 g2;rw[hsub i h e1]at h3;rw[hsub j h' c1]at g3;have:=hs.ct h h' o0 C0 r r' b e2 (by rw[<-ic e3];exact h2) h3 ((iJ e3).1 h4) c2 (by rw[<-ic c3];exact g2) g3 ((iJ c3).1 g4);subst this;exact k3 i j h e1 c1
 ·have hi':i<src.length:=by omega
  have hg:=List.getElem?_eq_getElem hi';rw[xZ src 0 i _ hg];cases hx:src[i]with
  |none=>rw[Option.getD_none,Nat.zero_add];exact Ed (by omega)
  |some h=>
   rw[hx]at hg;have:=(k2 i h hg).2 (by omega);rw[Option.getD_some,this,Nat.zero_add];exact Ed (by omega)
def Goes(cx:Cx K)(n0:Nat)(st st':St K):Prop:=
 ∀(ρ:List Value)(S:Nat->Prop)(a:Act)(w:World),n0<=st.H.length->Sat cx ρ S a w st->n0<=st'.H.length/\∃ρ' S',Sat cx ρ' S' a w st'/\Step cx.D n0 ρ S st.H w ρ' S' st'.H w
theorem Goes.trans{cx:Cx K}{n0:Nat}{st st1 st2:St K}(a:Goes cx n0 st st1)(b:Goes cx n0 st1 st2):Goes cx n0 st st2:=fun ρ S a' w hn aV=>by
 obtain⟨h1,ρ1,S1,q1,q2⟩:=a ρ S a' w hn aV;obtain⟨h2,ρ2,S2,q3,q4⟩:=b ρ1 S1 a' w h1 q1;exact⟨h2,ρ2,S2,q3,q2.trans q4⟩
theorem x3{cx:Cx K}(hD:aX cx.D){n0:Nat}{src:List (Option Nat)}{keep:List Nat}{st st':St K}(h:jV n0 src keep st=some st'):st'.ok=st.ok/\bK st'.tm/\(bK st.tm->Goes cx n0 st st'):=by
 unfold jV at h;split at h
 ·rename_i hk;simp only[Bool.and_eq_true,decide_eq_true_eq]at hk;split at h
  ·rename_i vs H' hv hm;simp only[Option.some.injEq]at h;subst h;refine⟨rfl,PZ hv,fun h0 ρ S a w hn aV=>?_⟩;obtain⟨s1,s2,s3,s4⟩:=P5 hD aV.heap hn hk.1 hk.2 hm;refine⟨s4,_,S,⟨s1,D5 aV.slots.len.symm fun i t v x g1 g2 g3=>?_,aV.defers⟩,s2⟩;obtain⟨v0,q1,q2⟩:=(oq _ _ hv).2 i v g2;simp only[List.getElem?_map,g1,Option.map_some,Option.some.injEq]at q1;subst q1;refine lS hD s3 _ v x q2 ?_;rw[List.getD_eq_getElem?_getD];cases hg:st.tm[t]? with
   |none=>exact .any x
   |some v1=>exact aV.slots.rep h0 hg g3
  ·cases h
 ·cases h
end Go.V
namespace Go.V
open Go
variable {K :bL}{ρ ρ':List Value}{S S':Nat->Prop}{w w':World}{H H':List (Ob K)}
theorem Ee{cx:Cx K}(hD:aX cx.D){st:St K}{a:Act}(h0:bK st.tm)(aV:Sat cx ρ S a w st):∀(rs:List ResultVar)(l:List (AV K)),lH cx st rs=some l->
 ∃vs:List Value,(rs.mapM fun r=>(match r with
  |.tmp t=>pure (a.tmps.getD t undef)
  |.cell p t=>do loadVar t (<-asAddr (a.tmps.getD p undef)):Sem Value)).run cx.P w=.ok vs w/\aI cx.D ρ S w l vs
 |[],l,h=>by
   simp only[lH,Option.some.injEq]at h;subst h;exact⟨[],by simp,.nil⟩
 |.tmp t::r,l,h=>by
   simp only[lH]at h;split at h
   ·rename_i l1 h1;simp only[Option.some.injEq]at h;subst h;obtain⟨vs,q1,q2⟩:=Ee hD h0 aV r l1 h1;refine⟨a.tmps.getD t undef::vs,?_,.cons ?_ q2⟩
    ·simp only[List.mapM_cons,Sem.run_bind,Sem.run_pure,Result.andThen_ok];rw[q1];rfl
    ·rw[List.getD_eq_getElem?_getD,Array.getD_eq_getD_getElem?];cases hg:st.tm[t]? with
     |none=>exact .any _
     |some v=>
      obtain⟨x,hx,-⟩:=aV.slots.get hg;rw[hx];exact aV.slots.rep h0 hg hx
   ·cases h
 |.cell p t::r,l,h=>by
   simp only[lH]at h;split at h
   ·rename_i v l1 hv h1;simp only[Option.some.injEq]at h;subst h;obtain⟨vs,q1,q2⟩:=Ee hD h0 aV r l1 h1;have hrep:Rep cx.D ρ S w (st.tm.getD p .any) (a.tmps.getD p undef):=by
     rw[List.getD_eq_getElem?_getD,Array.getD_eq_getD_getElem?];cases hg:st.tm[p]? with
     |none=>exact .any _
     |some v=>
      obtain⟨x,hx,-⟩:=aV.slots.get hg;rw[hx];exact aV.slots.rep h0 hg hx
    obtain⟨u,hu,hr⟩:=NR hD aV.heap hv hrep;refine⟨u::vs,?_,.cons hr q2⟩;have hu':(do loadVar t (<-asAddr (a.tmps.getD p undef)):Sem Value).run cx.P w=.ok u w:=by
     generalize a.tmps.getD p undef=X at hu;unfold Instr.loadAt at hu;simp only[Sem.run_bind]at hu⊢;cases X<;>first
      |(simp[Instr.sureAddr,Result.andThen]at hu;done)
      |skip
     rename_i pa;cases pa with
     |none=>simp[Instr.sureAddr,Result.andThen,stuck]at hu
     |some pa=>simpa [Instr.sureAddr,asAddr]using hu
    simp only[List.mapM_cons,Sem.run_bind]at hu'⊢;rw[hu'];simp only[Result.andThen_ok];rw[q1];rfl
   ·cases h
theorem P6{cx:Cx K}(hD:aX cx.D){fn:Func}{st:St K}{a:Act}(h0:bK st.tm)(aV:Sat cx ρ S a w st){v:AV K}(h:resV cx fn st=some v):∃u,(results fn a.tmps).run cx.P w=.ok u w/\Rep cx.D ρ S w v u:=by
 have key:∀l,lH cx st fn.results.toList=some l->∃vs:List Value,aI cx.D ρ S w l vs/\(results fn a.tmps).run cx.P w=.ok (if h:vs.toArray.size=1 then vs.toArray[0]else .tuple vs.toArray) w:=fun l hl=>by
  obtain⟨vs,q1,q2⟩:=Ee hD h0 aV _ l hl;refine⟨vs,q2,?_⟩;unfold results;rw[Array.mapM_eq_mapM_toList];simp only[map_eq_pure_bind,bind_assoc,pure_bind,Sem.run_bind];exact Eq.trans (congrArg (fun z:Result (List Value)=>z.andThen fun l w'=>Sem.run cx.P (pure (if h:l.toArray.size=1 then l.toArray[0]else Value.tuple l.toArray)) w') q1) rfl
 unfold resV at h;split at h
 ·rename_i v1 hl;simp only[Option.some.injEq]at h;subst h;obtain⟨vs,q1,q2⟩:=key _ hl;obtain⟨x,r,rfl,hx,hr⟩:=q1.cS;have:=hr.gR;subst this;exact⟨x,by rw[q2];rfl,ji aV.heap _ _ hx⟩
 ·rename_i l hne hl;simp only[Option.some.injEq]at h;subst h;obtain⟨vs,q1,q2⟩:=key _ hl;have q1':=ud aV.heap _ _ q1;refine⟨.tuple vs.toArray,?_,.bc q1'.1 q1'.2⟩;rw[q2,dif_neg];intro h1;have:l.length=1:=by rw[q1.1];simpa using h1
  match l,this with
  |[x],_=>exact hne x rfl
 ·cases h
end Go.V
namespace Go.V
open Go
variable {K :bL}{ρ ρ':List Value}{S S':Nat->Prop}{w w':World}{H H':List (Ob K)}
inductive jl (X Y:Type):Type 1 where
 |nx (x:X)
 |out (y:Y)
 |bad
 |br (b:Bool) (l r:jl X Y)
 |sum {A B:Type} (s:A⊕B) (f:A->jl X Y) (g:B->jl X Y)
noncomputable def jl.elim{X Y R:Type}(t:jl X Y)(nx:X->R)(out:Y->R)(bad:R):R:=
 jl.rec (motive:=fun _=>R) nx out bad (fun b _ _ l r=>cond b l r) (fun s _ _ f g=>Sum.rec (motive:=fun _=>R) f g s) t
theorem jl.cases{X Y:Type}(t:jl X Y):(∃x,∀(R:Type) nx out bad,t.elim (R:=R) nx out bad=nx x)\/(∃y,∀(R:Type) nx out bad,t.elim (R:=R) nx out bad=out y)\/∀(R:Type) nx out bad,t.elim (R:=R) nx out bad=bad:=by
 induction t with
 |nx x=>exact .inl ⟨x,fun _ _ _ _=>rfl⟩
 |out y=>exact .inr (.inl ⟨y,fun _ _ _ _=>rfl⟩)
 |bad=>exact .inr (.inr fun _ _ _ _=>rfl)
 |br b l r ihl ihr=>cases b;exact ihr;exact ihl
 |sum s f g ihf ihg=>
  cases s with
  |inl a=>exact ihf a
  |inr b=>exact ihg b
noncomputable def iter{X Y:Type}(step:X->jl X Y):Nat->X->Option Y
 |0,_=>none
 |n+1,x=>(step x).elim (iter step n) some none
structure gP (K:bL) (X Y:Type) where
 n:Nat
 n0:Nat
 ins:List Nat
 outs:List Nat
 start:List (AV K)->List (Ob K)->Option X
 vals:X->List (AV K)
 ada:X->List (Ob K)
 step:X->jl X Y
 chk:X->Bool
 fin:X->Y
 out:Y->{R:Type}->(Ex->List (AV K)->List (Ob K)->R)->R
variable {X Y:Type}
def gP.st(M:gP K X Y)(x:X):St K:=⟨cy (List.replicate M.n .any) M.ins (M.vals x),M.ada x,true⟩
def gP.fst(M:gP K X Y)(y:Y):Ex×St K:=M.out y fun e vs Ho=>(e,⟨cy (List.replicate M.n .any) M.outs vs,Ho,true⟩)
def gP.P7(M:gP K X Y):bk K:={
 n:=M.n
 ins:=M.ins
 outs:=M.outs
 run vs H k:=match M.start vs H with
  |some x=>cond (M.chk x) (M.out (M.fin x) k) none
  |none=>none}
noncomputable def gP.tree(M:gP K X Y)(x:X):Option (St K⊕Ex×St K):=(M.step x).elim (fun x'=>some (.inl (M.st x'))) (fun y=>some (.inr (M.fst y))) none
theorem P8{cx:Cx K}(hD:aX cx.D){s s1:St K}(h:lK cx s=some (true,s1)):s1.tm=s.tm/\s1.ok=s.ok/\s1.H.length=s.H.length/\∀(n0:Nat)(ρ:List Value)(S:Nat->Prop)(a:Act)(w:World),Sat cx ρ S a w s->Sat cx ρ S a w s1/\Step cx.D n0 ρ S s.H w ρ S s1.H w:=by
 unfold lK at h;split at h
 ·simp only[Option.some.injEq,Prod.mk.injEq,true_and]at h;subst h;exact⟨rfl,rfl,rfl,fun n0 ρ S a w hs=>⟨hs,Step.refl⟩⟩
 ·split at h
  ·rename_i H' b t hsh;simp only[Option.some.injEq,Prod.mk.injEq]at h;obtain⟨rfl,rfl⟩:=h;have hl:H'.length=s.H.length:=by
    unfold shut at hsh;split at hsh
    ·simp only[Option.some.injEq,Prod.mk.injEq]at hsh;rw[<-hsh.1]
    ·split at hsh
     ·split at hsh
      ·split at hsh
       ·split at hsh
        ·simp only[Option.some.injEq,Prod.mk.injEq]at hsh;rw[<-hsh.1];simp[sd]
        ·cases hsh
       ·cases hsh
      ·cases hsh
     ·cases hsh
   refine⟨rfl,rfl,hl,fun n0 ρ S a w hs=>?_⟩;obtain⟨g1,g2,-⟩:=OP (n0:=n0) hD hs.heap hsh;exact⟨⟨g1,hs.slots,hs.defers⟩,g2⟩
  ·cases h
theorem P9{cx:Cx K}(hD:aX cx.D)(hc:aE cx)(hm:cx.P.follows .mixedOrders=true){c:Code}(hl:eE cx c){n0:Nat}{keep outs:List Nat}{st:St K}{r:St K⊕Ex×St K}(h:wW cx n0 keep outs c st=some r)(h0:bK st.tm):
 st.ok=true/\match r with
   |.inl st'=>bK st'.tm/\Tr cx n0 c st .normal st'
   |.inr (e,st')=>e≠.normal/\Tr cx n0 c st e st':=by
 unfold wW at h;obtain⟨e,s,h1,h2,h3⟩:=gK hD hc hm c hl _ _ _ h;cases hok:s.ok with
 |false=>rw[hok]at h1;cases h1
 |true=>
  rw[hok]at h1;simp only[cond_true]at h1;obtain⟨n1,htr⟩:=h3 hok h0;refine⟨h2 hok,?_⟩;have key:∀keep' s1 s',lK cx s=some (true,s1)->nM n0 keep' s1=some s'->bK s'.tm/\Tr cx n0 c st e s':=fun keep' s1 s' hcl hn=>by
   obtain⟨g1,g2⟩:bK s'.tm/\(bK s1.tm->Goes cx n0 s1 s'):=(x3 (cx:=cx) hD hn).2;obtain⟨c1,c2,c3,c4⟩:=P8 hD hcl;refine⟨g1,fun ρ S a w hn0 aV=>wp_mono (htr n0 ρ S a w hn0 aV) ?_⟩
   rintro e' a' w' ⟨he,hn1,ρ1,S1,cn,hst1⟩
   obtain⟨adb,ade⟩:=c4 n0 ρ1 S1 a' w' cn;obtain⟨hn2,ρ2,S2,ot,hst2⟩:=g2 (by rw[c1];exact n1) ρ1 S1 a' w' (by rw[c3];exact hn1) adb;exact⟨he,hn2,ρ2,S2,ot,(hst1.trans ade).trans hst2⟩
  cases e with
  |normal=>
   dsimp only at h1;split at h1
   ·rename_i b s1 hcl;cases b with
    |false=>cases h1
    |true=>
    simp only[cond_true]at h1;split at h1
    ·rename_i s' hn;simp only[Option.some.injEq]at h1;subst h1;exact key _ _ _ hcl hn
    ·cases h1
   ·cases h1
  |exit id=>
   dsimp only at h1;split at h1
   ·rename_i b s1 hcl;cases b with
    |false=>cases h1
    |true=>
    simp only[cond_true]at h1;split at h1
    ·rename_i s' hn;simp only[Option.some.injEq]at h1;subst h1;exact⟨by simp,(key _ _ _ hcl hn).2⟩
    ·cases h1
   ·cases h1
  |ret=>
   dsimp only at h1;split at h1
   ·rename_i b s1 hcl;cases b with
    |false=>cases h1
    |true=>
    simp only[cond_true]at h1;split at h1
    ·rename_i s' hn;simp only[Option.some.injEq]at h1;subst h1;exact⟨by simp,(key _ _ _ hcl hn).2⟩
    ·cases h1
   ·cases h1
theorem Qa{cx:Cx K}(hD:aX cx.D)(hc:aE cx)(hm:cx.P.follows .mixedOrders=true){c:Code}(hl:eE cx c){M:gP K X Y}(hr:∀x,wW cx M.n0 M.ins M.outs c (M.st x)=M.tree x){ρ0:List Value}{S0:Nat->Prop}{H0:List (Ob K)}{w0:World}{y:Y}:
 ∀(n:Nat)(x:X),iter M.step n x=some y->bK (M.st x).tm->∀(ρ:List Value)(S:Nat->Prop)(a:Act)(w:World),M.n0<=(M.st x).H.length->Sat cx ρ S a w (M.st x)->Step cx.D M.n0 ρ0 S0 H0 w0 ρ S (M.st x).H w->
  Code.rounds cx.P c (fun e' a' w'=>e'=(M.fst y).1.eY/\M.n0<=(M.fst y).2.H.length/\∃ρ' S',Sat cx ρ' S' a' w' (M.fst y).2/\Step cx.D M.n0 ρ0 S0 H0 w0 ρ' S' (M.fst y).2.H w') n a w
 |0,x,h,_,_,_,_,_,_,_,_=>by simp[iter]at h
 |n+1,x,h,h0,ρ,S,a,w,hn,aV,hst=>by
  have hrx:=hr x;rw[rounds_succ];simp only[iter]at h;unfold gP.tree at hrx;rcases(M.step x).cases with⟨x',hx⟩|⟨y',hy⟩|hb
  ·rw[hx]at h hrx;obtain⟨-,n1,htr⟩:=P9 hD hc hm hl hrx h0;refine wp_mono (htr ρ S a w hn aV) ?_
   rintro e' a' w' ⟨rfl,hn1,ρ1,S1,cn,hst1⟩
   exact Qa hD hc hm hl hr n x' h n1 ρ1 S1 a' w' hn1 cn (hst.trans hst1)
  ·rw[hy]at h hrx;simp only[Option.some.injEq]at h;subst h;obtain⟨-,hne,htr⟩:=P9 hD hc hm hl hrx h0;refine wp_mono (htr ρ S a w hn aV) ?_
   rintro e' a' w' ⟨rfl,hn1,ρ1,S1,cn,hst1⟩
   have:∀(e:Ex),e≠.normal->∀(N:Act->World->Prop)(Q:Exit->Act->World->Prop),Q e.eY a' w'->Exit.then N Q e.eY a' w':=fun e he N Q hq=>by
    cases e with
    |normal=>exact absurd rfl he
    |exit id=>exact hq
    |ret=>exact hq
   exact this _ hne _ _ ⟨rfl,hn1,ρ1,S1,cn,hst.trans hst1⟩
  ·rw[hb]at h;cases h
theorem gP.ok{cx:Cx K}(hD:aX cx.D)(hc:aE cx)(hm:cx.P.follows .mixedOrders=true){c:Code}(hl:eE cx c)(M:gP K X Y)(hr:∀x,wW cx M.n0 M.ins M.outs c (M.st x)=M.tree x)
 (hs:∀vs Hi x,M.start vs Hi=some x->Hi.length=M.n0/\Goes cx M.n0 ⟨cy (List.replicate M.n .any) M.ins vs,Hi,true⟩ (M.st x)) (hno:∀x,(M.vals x).all (fun v=> !v.dU)=true)
 (hf:∀x,M.chk x=true->∃n,iter M.step n x=some (M.fin x)) (ho:∀y,∃e vs Ho,∀(R:Type)(k:Ex->List (AV K)->List (Ob K)->R),M.out y k=k e vs Ho):bm cx c M.P7:=by
 intro vals Hi R k r h;simp only[gP.P7]at h;split at h
 ·rename_i x hx;cases Ef:M.chk x with
  |false=>rw[Ef]at h;cases h
  |true=>
   rw[Ef]at h;simp only[cond_true]at h;obtain⟨n,hn⟩:=hf x Ef;obtain⟨e,vs,Ho,hout⟩:=ho (M.fin x);rw[hout]at h;refine⟨e,vs,Ho,h,?_⟩;obtain⟨hlen,hgo⟩:=hs vals Hi x hx;have adf:M.fst (M.fin x)=(e,⟨cy (List.replicate M.n .any) M.outs vs,Ho,true⟩):=hout _ _;have h0:bK (M.st x).tm:=fun t g b v e=>by
    rcases su M.ins (M.vals x) _ t _ e with h1|⟨i,-,h2⟩
    ·rw[List.getElem?_replicate]at h1;split at h1<;>cases h1
    ·have:=List.all_eq_true.1 (hno x) _ (List.mem_of_getElem? h2);simp[AV.dU]at this
   intro ρ S a w hn0 aV;rw[hlen]at hn0⊢;obtain⟨hn1,ρ1,S1,cn,hst1⟩:=hgo ρ S a w (by show M.n0<=Hi.length;omega) aV;have:=Qa hD hc hm hl hr n x hn h0 ρ1 S1 a w hn1 cn hst1;rw[adf]at this;exact wp_loop_rounds n this
 ·cases h
end Go.V
namespace Go.V
open Go
variable {K :bL}{D:aT K}{ρ ρ':List Value}{S S':Nat->Prop}{w w':World}{H H':List (Ob K)}
inductive Sh (K:bL) where
 |any
 |int (k:IntKind)
 |bool
 |str
 |au (c:K.U)
 |el (c:K.U)
 |rp (c:K.U) (off:Nat)
 |bN
 |bO
 |ptr (h off:Nat)
 |own (h:Nat)
 |fn (g:Nat) (caps:List (Sh K))
 |agg (l:List (Sh K))
 |bc (l:List (Sh K))
 |np (h:Nat)
 |ep (h:Nat) (c:K.U) (off:Nat)
inductive az (K:bL) where
 |dead
 |box (l:List (Sh K))
 |el (c:K.U)
 |arr (c:K.U)
 |cT (c:K.U)
 |tree (c:K.U)
 |dt (c:K.U)
 |bf (t:TypeId) (m:Nat)
mutual
def Sh.T:Sh K->Type
 |.int _=>Int
 |.bool=>Bool
 |.str=>List UInt8
 |.au c=>List (K.El c)
 |.el c=>K.El c
 |.rp c _=>K.El c
 |.ep _ _ _=>Nat
 |.fn _ l=>Sh.Ts l
 |.agg l=>Sh.Ts l
 |.bc l=>Sh.Ts l
 |_=>Unit
def Sh.Ts:List (Sh K)->Type
 |[]=>Unit
 |s::r=>Sh.T s×Sh.Ts r
end
def az.T:az K->Type
 |.dead=>Unit
 |.box l=>Sh.Ts l
 |.el c=>K.El c
 |.arr c=>List (K.El c)
 |.cT c=>List (K.El c)
 |.tree c=>List (K.El c)
 |.dt c=>K.El c
 |.bf _ _=>List (List Int×Int)
def az.Ts:List (az K)->Type
 |[]=>Unit
 |s::r=>az.T s×az.Ts r
mutual
def Sh.enc(D:aT K):(s:Sh K)->s.T->AV K
 |.any,_=>.any
 |.int k,n=>.int k n
 |.bool,b=>.bool b
 |.str,s=>.str s
 |.au c,l=>.au c l
 |.el c,x=>.agg (D.cells c x)
 |.rp c o,x=>.rp c x o
 |.bN,_=>.bN
 |.bO,_=>.bO
 |.ptr h o,_=>.ptr h o
 |.own h,_=>.sl h
 |.np h,_=>.np h
 |.ep h c o,i=>.ep h (K.sz c) i o
 |.fn g l,x=>.fn g (Sh.encs D l x)
 |.agg l,x=>.agg (Sh.encs D l x)
 |.bc l,x=>.bc (Sh.encs D l x)
def Sh.encs(D:aT K):(l:List (Sh K))->Sh.Ts l->List (AV K)
 |[],_=>[]
 |s::r,x=>Sh.enc D s x.1::Sh.encs D r x.2
end
def az.enc(D:aT K):(s:az K)->s.T->Ob K
 |.dead,_=>.dead
 |.box l,x=>.box (Sh.encs D l x)
 |.el c,x=>.box (D.cells c x)
 |.arr c,x=>.arr c x
 |.cT c,x=>.cT c x
 |.tree c,x=>.tree c x
 |.dt c,x=>.dt c x
 |.bf t m,x=>.bf t m x
def az.encs(D:aT K):(l:List (az K))->az.Ts l->List (Ob K)
 |[],_=>[]
 |s::r,x=>az.enc D s x.1::az.encs D r x.2
def AV.getInt(k:IntKind):AV K->Option Int
 |.int k' n=>if k=k' then some n else none
 |_=>none
def AV.getBool:AV K->Option Bool
 |.bool b=>some b
 |_=>none
def AV.Eg:AV K->Option (List UInt8)
 |.str s=>some s
 |_=>none
def AV.x4:AV K->Option (List (AV K))
 |.agg l=>some l
 |_=>none
def AV.Eh:AV K->Option (List (AV K))
 |.bc l=>some l
 |_=>none
def AV.getFn(g:Nat):AV K->Option (List (AV K))
 |.fn g' l=>if g=g' then some l else none
 |_=>none
def AV.Ei(c:K.U)(o:Nat):AV K->Option (K.El c)
 |.rp c' x o'=>if o=o' then match K.ee c' c with
   |.isTrue h=>some (h ▸ x)
   |.isFalse _=>none else none
 |_=>none
def AV.Ej:AV K->Option Unit
 |.bN=>some ()
 |_=>none
def AV.Ek:AV K->Option Unit
 |.bO=>some ()
 |_=>none
def AV.Em(h o:Nat):AV K->Option Unit
 |.ptr h' o'=>if h=h' then if o=o' then some ()else none else none
 |_=>none
def AV.En(h:Nat):AV K->Option Unit
 |.sl h'=>if h=h' then some ()else none
 |_=>none
def AV.Eo(h:Nat):AV K->Option Unit
 |.np h'=>if h=h' then some ()else none
 |_=>none
def AV.Ep(h:Nat)(c:K.U)(o:Nat):AV K->Option Nat
 |.ep h' st i o'=>if h=h' then if K.sz c=st then if o=o' then some i else none else none else none
 |_=>none
theorem AV.adg{h:Nat}{c:K.U}{o:Nat}{v:AV K}{n:Nat}(hh:v.Ep h c o=some n):v=.ep h (K.sz c) n o:=by
 unfold AV.Ep at hh;split at hh
 ·split at hh
  ·split at hh
   ·split at hh
    ·rename_i h1 h2 h3;subst h1;subst h2;subst h3;simp only[Option.some.injEq]at hh;subst hh;rfl
    ·cases hh
   ·cases hh
  ·cases hh
 ·cases hh
theorem AV.Es{k:IntKind}{v:AV K}{n:Int}(h:v.getInt k=some n):v=.int k n:=by
 unfold AV.getInt at h;split at h
 ·split at h
  ·rename_i hk;subst hk;simp only[Option.some.injEq]at h;subst h;rfl
  ·cases h
 ·cases h
theorem AV.Et{v:AV K}{n:Bool}(h:v.getBool=some n):v=.bool n:=by
 unfold AV.getBool at h;split at h
 ·simp only[Option.some.injEq]at h;subst h;rfl
 ·cases h
theorem AV.Eu{v:AV K}{n:List UInt8}(h:v.Eg=some n):v=.str n:=by
 unfold AV.Eg at h;split at h
 ·simp only[Option.some.injEq]at h;subst h;rfl
 ·cases h
theorem AV.Qb{v:AV K}{n:List (AV K)}(h:v.x4=some n):v=.agg n:=by
 unfold AV.x4 at h;split at h
 ·simp only[Option.some.injEq]at h;subst h;rfl
 ·cases h
theorem AV.adh{v:AV K}{n:List (AV K)}(h:v.Eh=some n):v=.bc n:=by
 unfold AV.Eh at h;split at h
 ·simp only[Option.some.injEq]at h;subst h;rfl
 ·cases h
theorem AV.adi{g:Nat}{v:AV K}{n:List (AV K)}(h:v.getFn g=some n):v=.fn g n:=by
 unfold AV.getFn at h;split at h
 ·split at h
  ·rename_i hk;subst hk;simp only[Option.some.injEq]at h;subst h;rfl
  ·cases h
 ·cases h
theorem AV.adk{c:K.U}{o:Nat}{v:AV K}{n:K.El c}(h:v.Ei c o=some n):v=.rp c n o:=by
 unfold AV.Ei at h;split at h
 ·split at h
  ·rename_i hk;subst hk;split at h
   ·rename_i he _;subst he;simp only[Option.some.injEq]at h;subst h;rfl
   ·cases h
  ·cases h
 ·cases h
theorem AV.adl{v:AV K}{n:Unit}(h:v.Ej=some n):v=.bN:=by
 unfold AV.Ej at h;split at h
 ·rfl
 ·cases h
theorem AV.adm{v:AV K}{n:Unit}(h:v.Ek=some n):v=.bO:=by
 unfold AV.Ek at h;split at h
 ·rfl
 ·cases h
theorem AV.adn{a o:Nat}{v:AV K}{n:Unit}(h:v.Em a o=some n):v=.ptr a o:=by
 unfold AV.Em at h;split at h
 ·split at h
  ·split at h
   ·rename_i h1 h2;subst h1;subst h2;rfl
   ·cases h
  ·cases h
 ·cases h
theorem AV.ado{a:Nat}{v:AV K}{n:Unit}(h:v.En a=some n):v=.sl a:=by
 unfold AV.En at h;split at h
 ·split at h
  ·rename_i h1;subst h1;rfl
  ·cases h
 ·cases h
theorem AV.Qc{a:Nat}{v:AV K}{n:Unit}(h:v.Eo a=some n):v=.np a:=by
 unfold AV.Eo at h;split at h
 ·split at h
  ·rename_i h1;subst h1;rfl
  ·cases h
 ·cases h
def sure{α:Type}:Option (α×Bool)->Option α
 |some (x,true)=>some x
 |_=>none
theorem Qd{α:Type}{o:Option (α×Bool)}{x:α}(h:sure o=some x):o=some (x,true):=by
 unfold sure at h;split at h
 ·simp only[Option.some.injEq]at h;subst h;rfl
 ·cases h
mutual
def Sh.dec(D:aT K):(s:Sh K)->AV K->Option s.T
 |.any,_=>some ()
 |.int k,v=>v.getInt k
 |.bool,v=>v.getBool
 |.str,v=>v.Eg
 |.au c,v=>elems [] c v
 |.el c,v=>match v.x4 with
   |some l=>sure (D.dec c l)
   |none=>none
 |.rp c o,v=>v.Ei c o
 |.bN,v=>v.Ej
 |.bO,v=>v.Ek
 |.ptr h o,v=>v.Em h o
 |.own h,v=>v.En h
 |.np h,v=>v.Eo h
 |.ep h c o,v=>v.Ep h c o
 |.fn g l,v=>match v.getFn g with
   |some l'=>Sh.cu D l l'
   |none=>none
 |.agg l,v=>match v.x4 with
   |some l'=>Sh.cu D l l'
   |none=>none
 |.bc l,v=>match v.Eh with
   |some l'=>Sh.cu D l l'
   |none=>none
def Sh.cu(D:aT K):(l:List (Sh K))->List (AV K)->Option (Sh.Ts l)
 |[],[]=>some ()
 |s::r,v::l=>match Sh.dec D s v,Sh.cu D r l with
  |some x,some y=>some (x,y)
  |_,_=>none
 |_,_=>none
end
def Ob.sw:Ob K->Option (List (AV K))
 |.box l=>some l
 |_=>none
def Ob.Ew(c:K.U):Ob K->Option (List (K.El c))
 |.arr c' l=>match K.ee c' c with
   |.isTrue h=>some (h ▸ l)
   |.isFalse _=>none
 |_=>none
def Ob.Ey(c:K.U):Ob K->Option (List (K.El c))
 |.cT c' l=>match K.ee c' c with
   |.isTrue h=>some (h ▸ l)
   |.isFalse _=>none
 |_=>none
def Ob.Ez(c:K.U):Ob K->Option (List (K.El c))
 |.tree c' l=>match K.ee c' c with
   |.isTrue h=>some (h ▸ l)
   |.isFalse _=>none
 |_=>none
def Ob.EA(c:K.U):Ob K->Option (K.El c)
 |.dt c' x=>match K.ee c' c with
   |.isTrue h=>some (h ▸ x)
   |.isFalse _=>none
 |_=>none
def Ob.EB(t:TypeId)(m:Nat):Ob K->Option (List (List Int×Int))
 |.bf t' m' l=>if t'=t then if m'=m then some l else none else none
 |_=>none
theorem Ob.adp{c:K.U}{v:Ob K}{n:K.El c}(h:v.EA c=some n):v=.dt c n:=by
 unfold Ob.EA at h;split at h
 ·split at h
  ·rename_i he _;subst he;simp only[Option.some.injEq]at h;subst h;rfl
  ·cases h
 ·cases h
theorem Ob.adq{t:TypeId}{m:Nat}{v:Ob K}{n:List (List Int×Int)}(h:v.EB t m=some n):v=.bf t m n:=by
 unfold Ob.EB at h;split at h
 ·split at h
  ·split at h
   ·rename_i e1 e2;subst e1;subst e2;simp only[Option.some.injEq]at h;subst h;rfl
   ·cases h
  ·cases h
 ·cases h
theorem Ob.Qe{v:Ob K}{n:List (AV K)}(h:v.sw=some n):v=.box n:=by
 unfold Ob.sw at h;split at h
 ·simp only[Option.some.injEq]at h;subst h;rfl
 ·cases h
theorem Ob.adr{c:K.U}{v:Ob K}{n:List (K.El c)}(h:v.Ew c=some n):v=.arr c n:=by
 unfold Ob.Ew at h;split at h
 ·split at h
  ·rename_i he _;subst he;simp only[Option.some.injEq]at h;subst h;rfl
  ·cases h
 ·cases h
theorem Ob.ads{c:K.U}{v:Ob K}{n:List (K.El c)}(h:v.Ey c=some n):v=.cT c n:=by
 unfold Ob.Ey at h;split at h
 ·split at h
  ·rename_i he _;subst he;simp only[Option.some.injEq]at h;subst h;rfl
  ·cases h
 ·cases h
theorem Ob.adt{c:K.U}{v:Ob K}{n:List (K.El c)}(h:v.Ez c=some n):v=.tree c n:=by
 unfold Ob.Ez at h;split at h
 ·split at h
  ·rename_i he _;subst he;simp only[Option.some.injEq]at h;subst h;rfl
  ·cases h
 ·cases h
def az.dec(D:aT K):(s:az K)->Ob K->Option s.T
 |.dead,_=>some ()
 |.box l,o=>match o.sw with
   |some cs=>Sh.cu D l cs
   |none=>none
 |.el c,o=>match o.sw with
   |some cs=>sure (D.dec c cs)
   |none=>none
 |.arr c,o=>o.Ew c
 |.cT c,o=>o.Ey c
 |.tree c,o=>o.Ez c
 |.dt c,o=>o.EA c
 |.bf t m,o=>o.EB t m
def az.cu(D:aT K):(l:List (az K))->List (Ob K)->Option (az.Ts l)
 |[],[]=>some ()
 |s::r,v::l=>match az.dec D s v,az.cu D r l with
  |some x,some y=>some (x,y)
  |_,_=>none
 |_,_=>none
theorem adu(hD:aX D){c:K.U}{v:AV K}{l:List (K.El c)}(h:elems [] c v=some l){u:Value}(hr:Rep D ρ S w v u):Rep D ρ S w (.au c l) u:=by
 unfold elems at h;split at h
 ·simp only[Option.some.injEq]at h;subst h;cases hr;exact .cK _ _
 ·split at h
  ·rename_i he _;subst he;simp only[Option.some.injEq]at h;subst h;exact hr
  ·cases h
 ·simp at h
 ·cases h
mutual
theorem Sh.sx(hD:aX D):∀(s:Sh K)(v:AV K)(x:s.T),Sh.dec D s v=some x->∀u,Rep D ρ S w v u->Rep D ρ S w (Sh.enc D s x) u
 |.any,v,x,h,u,hr=>.any u
 |.int k,v,x,h,u,hr=>by rw[AV.Es h]at hr;exact hr
 |.bool,v,x,h,u,hr=>by rw[AV.Et h]at hr;exact hr
 |.str,v,x,h,u,hr=>by rw[AV.Eu h]at hr;exact hr
 |.au c,v,x,h,u,hr=>adu hD h hr
 |.el c,v,x,h,u,hr=>by
   unfold Sh.dec at h;split at h
   ·rename_i l hl;rw[AV.Qb hl]at hr;cases hr with
    |agg hl hh=>
     have:=hD.dec c _ _ (Qd h) ρ S w _ ⟨hl,hh⟩;exact .agg this.1 this.2
   ·cases h
 |.rp c o,v,x,h,u,hr=>by rw[AV.adk h]at hr;exact hr
 |.bN,v,x,h,u,hr=>by rw[AV.adl h]at hr;exact hr
 |.bO,v,x,h,u,hr=>by rw[AV.adm h]at hr;exact hr
 |.ptr a b,v,x,h,u,hr=>by rw[AV.adn h]at hr;exact hr
 |.own a,v,x,h,u,hr=>by rw[AV.ado h]at hr;exact hr
 |.np a,v,x,h,u,hr=>by rw[AV.Qc h]at hr;exact hr
 |.ep a c o,v,x,h,u,hr=>by rw[AV.adg h]at hr;exact hr
 |.fn g l,v,x,h,u,hr=>by
   unfold Sh.dec at h;split at h
   ·rename_i l' hl;rw[AV.adi hl]at hr;cases hr with
    |fn hl hh=>
     have:=Sh.lY hD l _ x h _ ⟨hl,hh⟩;exact .fn this.1 this.2
   ·cases h
 |.agg l,v,x,h,u,hr=>by
   unfold Sh.dec at h;split at h
   ·rename_i l' hl;rw[AV.Qb hl]at hr;cases hr with
    |agg hl hh=>
     have:=Sh.lY hD l _ x h _ ⟨hl,hh⟩;exact .agg this.1 this.2
   ·cases h
 |.bc l,v,x,h,u,hr=>by
   unfold Sh.dec at h;split at h
   ·rename_i l' hl;rw[AV.adh hl]at hr;cases hr with
    |bc hl hh=>
     have:=Sh.lY hD l _ x h _ ⟨hl,hh⟩;exact .bc this.1 this.2
   ·cases h
theorem Sh.lY(hD:aX D):∀(l:List (Sh K))(vs:List (AV K))(x:Sh.Ts l),Sh.cu D l vs=some x->∀us,aI D ρ S w vs us->aI D ρ S w (Sh.encs D l x) us
 |[],vs,x,h,us,hr=>by
   cases vs with
   |nil=>exact hr
   |cons v r=>unfold Sh.cu at h;cases h
 |s::r,vs,x,h,us,hr=>by
  cases vs with
  |nil=>unfold Sh.cu at h;cases h
  |cons v l=>
   unfold Sh.cu at h;split at h
   ·rename_i a b h1 h2;have h:=Option.some.inj h;subst h;obtain⟨u,t,rfl,g1,g2⟩:=hr.cS;exact .cons (Sh.sx hD s v a h1 u g1) (Sh.lY hD r l b h2 t g2)
   ·cases h
end
theorem adv{l:List (AV K)}(h:dz l=true):fm l=false:=by
 cases l with
 |nil=>rfl
 |cons v r=>
  simp only[dz,Bool.and_eq_true]at h;cases v<;>first|rfl|(simp[AV.closed]at h)
theorem adw{l:List (Sh K)}{cs:List (AV K)}{x:Sh.Ts l}(h:Sh.cu D l cs=some x)(hn:fm (Sh.encs D l x)=true):fm cs=true:=by
 cases l with
 |nil=>unfold Sh.encs at hn;cases hn
 |cons s r=>
  cases cs with
  |nil=>unfold Sh.cu at h;cases h
  |cons v vs=>
   unfold Sh.cu at h;split at h
   ·rename_i a b h1 h2;have h:=Option.some.inj h;subst h;change fm (Sh.enc D s a::Sh.encs D r b)=true at hn;cases s
    all_goals first
     |exact absurd (show false=true from hn) (by simp)
     |(have h3:=AV.Qc (v:=v) h1;rw[h3];rfl)
   ·cases h
theorem az.sx(hD:aX D)(s:az K)(o:Ob K)(x:s.T)(h:az.dec D s o=some x):((az.enc D s x).live=true->o.live=true/\∀w r b,bj D w (az.enc D s x) r b->bj D w o r b)/\∀r,cV D ρ S w o r->cV D ρ S w (az.enc D s x) r:=by
 cases s with
 |dead=>exact⟨fun h=>Bool.noConfusion h,fun _ _=>trivial⟩
 |box l=>
  change(match o.sw with
   |some cs=>Sh.cu D l cs
   |none=>none)=some x at h
  split at h
  ·rename_i cs hcs;rw[Ob.Qe hcs];refine⟨fun _=>⟨rfl,fun _ _ _ h=>h⟩,fun r hh=>?_⟩;obtain⟨b,vs,T,e,h1,h2,h3⟩:=hh;exact⟨b,vs,T,e,h1,Sh.lY hD l _ x h _ h2,fun hn=>h3 (adw h hn)⟩
  ·cases h
 |el c=>
  change(match o.sw with
   |some cs=>sure (D.dec c cs)
   |none=>none)=some x at h
  split at h
  ·rename_i cs hcs;rw[Ob.Qe hcs];refine⟨fun _=>⟨rfl,fun _ _ _ h=>h⟩,fun r hh=>?_⟩;obtain⟨b,vs,T,e,h1,h2,h3⟩:=hh;exact⟨b,vs,T,e,h1,hD.dec c _ _ (Qd h) ρ S w _ h2,fun hn=>by rw[adv (hD.closed c x)]at hn;cases hn⟩
  ·cases h
 |arr c=>rw[Ob.adr h];exact⟨fun h=>⟨h,fun _ _ _ h=>h⟩,fun _ h=>h⟩
 |cT c=>rw[Ob.ads h];exact⟨fun h=>⟨h,fun _ _ _ h=>h⟩,fun _ h=>h⟩
 |tree c=>rw[Ob.adt h];exact⟨fun h=>⟨h,fun _ _ _ h=>h⟩,fun _ h=>h⟩
 |dt c=>rw[Ob.adp h];exact⟨fun h=>⟨h,fun _ _ _ h=>h⟩,fun _ h=>h⟩
 |bf t m=>rw[Ob.adq h];exact⟨fun h=>⟨h,fun _ _ _ h=>h⟩,fun _ h=>h⟩
theorem az.x5:∀(l:List (az K))(os:List (Ob K))(x:az.Ts l),az.cu D l os=some x->(az.encs D l x).length=os.length/\∀(i:Nat) o',(az.encs D l x)[i]?=some o'->∃o,os[i]?=some o/\∃(s:az K)(y:s.T),az.dec D s o=some y/\o'=az.enc D s y
 |[],os,x,h=>by
   cases os with
   |nil=>exact⟨rfl,fun i o' h=>by simp[az.encs]at h⟩
   |cons v r=>simp[az.cu]at h
 |s::r,os,x,h=>by
  cases os with
  |nil=>simp[az.cu]at h
  |cons v l=>
   simp only[az.cu]at h;split at h
   ·rename_i a b h1 h2;have h:=Option.some.inj h;subst h;obtain⟨g1,g2⟩:=az.x5 r l b h2;refine⟨by simp only[az.encs,List.length_cons];rw[g1],fun i o' hi=>?_⟩;cases i with
    |zero=>simp[az.encs]at hi;exact⟨v,rfl,s,a,h1,hi.symm⟩
    |succ i=>simp[az.encs]at hi;obtain⟨o,q⟩:=g2 i o' hi;exact⟨o,by simpa using q.1,q.2⟩
   ·cases h
structure Wk (D:aT K) (vs:List (AV K)) (H:List (Ob K)) (vs':List (AV K)) (H':List (Ob K)):Prop where
 len:H'.length=H.length
 EC:∀ρ S w us,aI D ρ S w vs us->aI D ρ S w vs' us
 heap:∀ρ S w,aD D ρ S w H->aD D ρ S w H'
 own:∀w ρ b,Own D w ρ H' b->Own D w ρ H b
theorem Wk.step{vs vs':List (AV K)}{n0:Nat}(h:Wk D vs H vs' H'):Step D n0 ρ S H w ρ S H' w:=
 ⟨rfl,rfl,rfl,Nat.le_refl _,fun _ _ _=>rfl,fun b hb=>.inl (h.own _ _ b hb),fun _ h=>h,fun _ h=>.inl h,fun _ _=>rfl⟩
theorem az.Qf{l:List (az K)}{os:List (Ob K)}{x:az.Ts l}(hD:aX D)(h:az.cu D l os=some x)(w:World)(ρ:List Value)(b:Nat)(hb:Own D w ρ (az.encs D l x) b):Own D w ρ os b:=by
 obtain⟨i,o',r,h1,h2,h3,h4⟩:=hb;obtain⟨o,q1,s,y,q2,rfl⟩:=(az.x5 l os x h).2 i o' h1;have q3:=(az.sx (ρ:=ρ) (S:=fun _=>False) (w:=w) hD s o y q2).1 h2;exact⟨i,o,r,q1,q3.1,h3,q3.2 _ _ _ h4⟩
theorem az.lY{l:List (az K)}{os:List (Ob K)}{x:az.Ts l}(hD:aX D)(h:az.cu D l os=some x)(hs:aD D ρ S w os):aD D ρ S w (az.encs D l x):=by
 obtain⟨g1,g2⟩:=az.x5 l os x h;refine⟨by rw[g1];exact hs.len,fun i o' r h1 h2=>?_,fun i j o o' r r' b h1 h2 h3 h4 c1 c2 c3 c4=>?_,fun b hb=>hs.lt b (az.Qf hD h w ρ b hb),hs.slt,hs.base⟩
 ·obtain⟨o,q1,s,y,q2,rfl⟩:=g2 i o' h1;exact(az.sx hD s o y q2).2 r (hs.ob i o r q1 h2)
 ·obtain⟨o1,q1,s,y,q2,rfl⟩:=g2 i o h1;obtain⟨o2,p1,s',y',p2,rfl⟩:=g2 j o' c1;have a1:=(az.sx (ρ:=ρ) (S:=S) (w:=w) hD s o1 y q2).1 h2;have a2:=(az.sx (ρ:=ρ) (S:=S) (w:=w) hD s' o2 y' p2).1 c2;exact hs.ct i j o1 o2 r r' b q1 a1.1 h3 (a1.2 _ _ _ h4) p1 a2.1 c3 (a2.2 _ _ _ c4)
structure aw (K:bL) where
 vs:List (Sh K)
 os:List (az K)
def aw.T(c:aw K):Type:=Sh.Ts c.vs×az.Ts c.os
def aw.dec(D:aT K)(c:aw K)(vs:List (AV K))(H:List (Ob K)):Option c.T:=
 match Sh.cu D c.vs vs,az.cu D c.os H with
 |some a,some b=>some (a,b)
 |_,_=>none
def aw.aO(D:aT K)(c:aw K)(x:c.T):List (AV K):=Sh.encs D c.vs x.1
def aw.aP(D:aT K)(c:aw K)(x:c.T):List (Ob K):=az.encs D c.os x.2
theorem aw.uI(hD:aX D){c:aw K}{vs:List (AV K)}{x:c.T}(h:c.dec D vs H=some x):Wk D vs H (c.aO D x) (c.aP D x):=by
 unfold aw.dec at h;split at h
 ·rename_i a b h1 h2;have h:=Option.some.inj h;subst h;exact⟨(az.x5 c.os H b h2).1,fun ρ S w us hr=>Sh.lY hD c.vs vs a h1 us hr,fun ρ S w hs=>az.lY hD h2 hs,fun w ρ b' hb=>az.Qf hD h2 w ρ b' hb⟩
 ·cases h
end Go.V
namespace Go.V
open Go
variable {K :bL}{ρ ρ':List Value}{S S':Nat->Prop}{w w':World}{H H':List (Ob K)}
def iO(dp:K.U->Bool)(H:List (Ob K))(cs:List (List (Option K.U))):AV K->AV K×List (Ob K)
 |.bc l=>(.bc (cY dp H cs l).1,(cY dp H cs l).2)
 |v=>((cY dp H cs [v]).1.headD v,(cY dp H cs [v]).2)
def forgets:List Bool->List (AV K)->List (AV K)
 |[],vs=>vs
 |_::_,[]=>[]
 |true::r,_::vs=>.any::forgets r vs
 |false::r,v::vs=>v::forgets r vs
def x6:List Bool->AV K->AV K
 |[],v=>v
 |l,.bc vs=>.bc (forgets l vs)
 |true::_,_=>.any
 |false::_,v=>v
theorem ED{D:aT K}:∀(l:List Bool)(vs:List (AV K))(us:List Value),aI D ρ S w vs us->aI D ρ S w (forgets l vs) us
 |[],vs,us,h=>by simpa only[forgets]using h
 |_::_,[],us,h=>by simpa only[forgets]using h
 |b::r,v::vs,us,h=>by
  obtain⟨u,t,rfl,h1,h2⟩:=h.cS;cases b
  ·exact .cons h1 (ED r vs t h2)
  ·exact .cons (.any u) (ED r vs t h2)
theorem adx{D:aT K}(l:List Bool)(v:AV K)(u:Value)(h:Rep D ρ S w v u):Rep D ρ S w (x6 l v) u:=by
 unfold x6;split
 ·exact h
 ·cases h with
  |bc hl hh=>
   have:=ED l _ _ ⟨hl,hh⟩;exact .bc this.1 this.2
 ·exact .any _
 ·exact h
def x7(cx:Cx K)(fz:Bool)(fn:Func)(n0:Nat){R:Type}(fin:AV K->List (Ob K)->Option R)(e:Ex)(st:St K):Option R:=
 match e with
 |.exit _=>none
 |_=>match resV cx fn st with
  |some v0=>let v:=x6 cx.Nk v0
   cond st.ok (cond fz (match wX cx.mv n0 (bW (eb st.H (hands v)) v) (eb st.H (hands v))with
    |some (v',H')=>fin v' H'
    |none=>none) (match wX cx.mv n0 (iO cx.deep st.H cx.cq v).1 (iO cx.deep st.H cx.cq v).2 with
    |some (v',H')=>fin v' H'
    |none=>none)) none
  |none=>none
def EE(cx:Cx K)(fz:Bool)(fn:Func)(args:List (AV K))(H:List (Ob K)){R:Type}(fin:AV K->List (Ob K)->Option R):Option R:=
 match fn.body with
 |some c=>match cx.zJ with
  |none=>cZ cx c ⟨args++List.replicate (fn.ntmps-args.length) .any,H,true⟩ (x7 cx fz fn H.length fin)
  |some k=>uH cx k H c ⟨args++List.replicate (fn.ntmps-args.length) .any,fZ cx.D H 0 H,true⟩ (x7 cx fz fn H.length fin)
 |none=>none
structure Qg (P:Program) (f:FuncId) (fn:Func):Prop where
 get:P.funcs[f]?=some fn
 name:(fn.name== "runtime.NumGoroutine")=false
theorem EF{D:aT K}(dp:K.U->Bool):∀(css:List (List (Option K.U)))(l:List (AV K))(H:List (Ob K))(ρ:List Value)(vs:List Value),aD D ρ S w H->aI D ρ S w l vs->rQ D S w H ρ vs (cY dp H css l)
 |[],l,H,ρ,vs,hs,hr=>⟨ρ,by simpa [cY]using hs,by simpa [cY]using hr,by simpa [cY]using Step.refl,fun _ _ h=>h,by simp[cY],fun _ _ h=>by simpa [cY]using h⟩
 |cs::css,[],H,ρ,vs,hs,hr=>⟨ρ,by simpa [cY]using hs,by simpa [cY]using hr,by simpa [cY]using Step.refl,fun _ _ h=>h,by simp[cY],fun _ _ h=>by simpa [cY]using h⟩
 |cs::css,v::r,H,ρ,vs,hs,hr=>by
  obtain⟨u,t,rfl,h1,h2⟩:=hr.cS;have fin:∀(v':AV K)(p:List (AV K)×List (Ob K))(us:List Value),(∀ρ',aI D ρ' S w p.1 us->Rep D ρ' S w v' u)->rQ D S w H ρ us p->rQ D S w H ρ (u::t) (v'::(cY dp p.2 css r).1,(cY dp p.2 css r).2):=fun v' p us hv hp=>by
   obtain⟨ρ1,g1,g2,g3,g4,g5,g6⟩:=hp;obtain⟨ρ2,k1,k2,k3,k4,k5,k6⟩:=EF dp css r p.2 ρ1 t g1 (h2.mono (fun _ h=>h) (fun _ _=>rfl) g4);exact⟨ρ2,k1,.cons ((hv ρ1 g2).mono (fun _ h=>h) (fun _ _=>rfl) k4) k2,g3.trans (k3.weaken g5),fun h r hr=>k4 h r (g4 h r hr),Nat.le_trans g5 k5,fun h o ho=>k6 h o (g6 h o ho)⟩
  have one:∀v,Rep D ρ S w v u->cY dp H (cs::css) (v::r)=((thaw dp H cs [v]).1.headD v::(cY dp (thaw dp H cs [v]).2 css r).1,(cY dp (thaw dp H cs [v]).2 css r).2)->rQ D S w H ρ (u::t) (cY dp H (cs::css) (v::r)):=fun v h1 e=>by
   rw[e];refine fin _ _ [u] (fun ρ' hr'=>?_) (nQ dp cs [v] H ρ [u] hs (.cons h1 .nil));generalize hq:(thaw dp H cs [v]).1=q at hr';cases q with
   |nil=>have:=hr'.1;simp at this
   |cons x y=>exact hr'.head
  cases v with
  |agg l=>
   cases h1 with
   |agg hl hh=>
    have e:cY dp H (cs::css) (.agg l::r)=(.agg (thaw dp H cs l).1::(cY dp (thaw dp H cs l).2 css r).1,(cY dp (thaw dp H cs l).2 css r).2):=rfl;rw[e];exact fin _ _ _ (fun ρ' hr'=>.agg hr'.1 hr'.2) (nQ dp cs l H ρ _ hs ⟨hl,hh⟩)
  |_=>exact one _ h1 rfl
theorem ady{D:aT K}(dp:K.U->Bool)(cs:List (List (Option K.U)))(v:AV K)(hs:aD D ρ S w H){u:Value}(hr:Rep D ρ S w v u):
 ∃ρ',aD D ρ' S w (iO dp H cs v).2/\Rep D ρ' S w (iO dp H cs v).1 u/\Step D H.length ρ S H w ρ' S (iO dp H cs v).2 w/\H.length<=(iO dp H cs v).2.length:=by
 have one:∀v,Rep D ρ S w v u->iO dp H cs v=((cY dp H cs [v]).1.headD v,(cY dp H cs [v]).2)->∃ρ',aD D ρ' S w (iO dp H cs v).2/\Rep D ρ' S w (iO dp H cs v).1 u/\Step D H.length ρ S H w ρ' S (iO dp H cs v).2 w/\H.length<=(iO dp H cs v).2.length:=fun v hr e=>by
  rw[e];obtain⟨ρ',g1,g2,g3,g4,g5,g6⟩:=EF dp cs [v] H ρ [u] hs (.cons hr .nil);refine⟨ρ',g1,?_,g3,g5⟩;generalize hq:(cY dp H cs [v]).1=q at g2;cases q with
  |nil=>have:=g2.1;simp at this
  |cons x y=>exact g2.head
 cases v with
 |bc l=>
  cases hr with
  |bc hl hh=>
   obtain⟨ρ',g1,g2,g3,g4,g5,g6⟩:=EF dp cs l H ρ _ hs ⟨hl,hh⟩;exact⟨ρ',g1,.bc g2.1 g2.2,g3,g5⟩
 |_=>exact one _ hr rfl
theorem Qh{cx:Cx K}(hD:aX cx.D){fz:Bool}{fn:Func}{n0:Nat}{R:Type}{fin:AV K->List (Ob K)->Option R}{e:Ex}{st:St K}{r:R}(h:x7 cx fz fn n0 fin e st=some r):
 st.ok=true/\(∀i,e≠.exit i)/\∃v v' H',resV cx fn st=some v/\fin v' H'=some r/\∀ρ S w,n0<=st.H.length->aD cx.D ρ S w st.H->∀u,Rep cx.D ρ S w v u->∃ρ' S',aD cx.D ρ' S' w H'/\Rep cx.D ρ' S' w v' u/\Step cx.D n0 ρ S st.H w ρ' S' H' w:=by
 have key:∀(v0:AV K)(H0:List (Ob K)) v' H',wX cx.mv n0 v0 H0=some (v',H')->∀ρ S w,n0<=H0.length->aD cx.D ρ S w H0->∀u,Rep cx.D ρ S w v0 u->∃ρ',aD cx.D ρ' S w H'/\Rep cx.D ρ' S w v' u/\Step cx.D n0 ρ S H0 w ρ' S H' w:=fun v0 H0 v' H' hp ρ S w hn hs u hr=>by
  unfold wX B6 at hp;split at hp
  ·rename_i hk;simp only[Bool.and_eq_true,decide_eq_true_eq]at hk;split at hp
   ·rename_i v'' H1 hv' hH';simp only[Option.some.injEq,Prod.mk.injEq]at hp;obtain⟨rfl,rfl⟩:=hp;obtain⟨s1,s2,s3,s4⟩:=P5 hD hs hn hk.1 hk.2 hH';exact⟨_,s1,lS hD s3 _ _ u hv' hr,s2⟩
   ·cases hp
  ·cases hp
 unfold x7 at h;split at h
 ·cases h
 ·rename_i hne;split at h
  ·rename_i v0 hv0;dsimp only at h;generalize hv:x6 cx.Nk v0=v at h;have Qi:∀{ρ S w}{u:Value},Rep cx.D ρ S w v0 u->Rep cx.D ρ S w v u:=fun hr=>by rw[<-hv];exact adx _ _ _ hr
   cases hok:st.ok with
   |false=>rw[hok]at h;cases h
   |true=>
    rw[hok]at h;simp only[cond_true]at h;refine⟨rfl,hne,?_⟩;cases fz with
    |false=>
     simp only[cond_false]at h;split at h
     ·rename_i v' H' hp;exact⟨v0,v',H',hv0,h,fun ρ S w hn hs u hr0=>by
       have hr:=Qi hr0;obtain⟨ρ1,t1,t2,t3,t4⟩:=ady cx.deep cx.cq v hs hr;obtain⟨ρ',a,b,c⟩:=key _ _ _ _ hp ρ1 S w (Nat.le_trans hn t4) t1 u t2;exact⟨ρ',S,a,b,(t3.weaken hn).trans c⟩⟩
     ·cases h
    |true=>
     simp only[cond_true]at h;split at h
     ·rename_i v' H' hp;exact⟨v0,v',H',hv0,h,fun ρ S w hn hs u hr0=>by
       have hr:=Qi hr0;obtain⟨S1,g1,g2,g3⟩:=w8 (n0:=n0) (hands v) hs;obtain⟨ρ',a,b,c⟩:=key _ _ _ _ hp ρ S1 w (by omega) g1 u (ji g1 _ _ (hr.mono g2.s1 (fun _ _=>rfl) (fun _ _ h=>h)));exact⟨ρ',S1,a,b,g2.trans c⟩⟩
     ·cases h
  ·cases h
theorem adz{cx:Cx K}(hD:aX cx.D)(hc:aE cx)(hm:cx.P.follows .mixedOrders=true){fz:Bool}{f:FuncId}{fn:Func}(hf:Qg cx.P f fn)(hl:∀c,fn.body=some c->eE cx c)
 {args:List (AV K)} {R:Type} {fin:AV K->List (Ob K)->Option R} {r:R} (h:EE cx fz fn args H fin=some r):∃v H',fin v H'=some r/\RC cx.D cx.P f args H v H':=by
 unfold EE at h;split at h
 ·rename_i c hb;split at h
  rotate_left
  ·rename_i k hk;obtain⟨e,st,h1,-,h3⟩:=ac6 hD hc hm c (hl c hb) _ _ _ h;obtain⟨hok,hne,v,v',H',hv,hr,hfin⟩:=Qh hD h1;refine⟨v',H',hr,⟨fn,hf.get,hf.name,by rw[hb];rfl⟩,fun ρ S w vals hs ha=>?_⟩;have h0:bK (args++List.replicate (fn.ntmps-args.length) (AV.any:AV K)):=fun t g b y e=>by
    rcases Nat.lt_or_ge t args.length with hlt|hge
    ·rw[List.getElem?_append_left hlt]at e;obtain⟨x,-,hx⟩:=ha.get e;cases hx
    ·rw[List.getElem?_append_right hge,List.getElem?_replicate]at e;split at e<;>cases e
   obtain⟨n1,htr⟩:=h3 hok h0;refine calls_of_wp hf.get hb ?_;have ha1:=ha.mono (S':=fun b=>S b\/Own cx.D w ρ H b) (fun _ h=>.inl h) (fun _ _=>rfl) (fun _ _ h=>h);have aV:Sat cx ρ (fun b=>S b\/Own cx.D w ρ H b) {tmps:=vals.toArray++Array.replicate (fn.ntmps-vals.toArray.size) undef,defers:=[]} w ⟨args++List.replicate (fn.ntmps-args.length) .any,fZ cx.D H 0 H,true⟩:=⟨ac3 hD hs,⟨by simp[ha.1],fun t v x h1 h2=>.dQ (by
    rcases Nat.lt_or_ge t args.length with hlt|hge
    ·rw[List.getElem?_append_left hlt]at h1;rw[Array.getElem?_append_left (by simpa [<-ha.1]using hlt)]at h2;exact ha1.2 t v x h1 (by simpa using h2)
    ·rw[List.getElem?_append_right hge,List.getElem?_replicate]at h1;split at h1
     ·simp at h1;subst h1;exact .any x
     ·cases h1)⟩,rfl⟩
   refine wp_mono (htr ρ S w hs ρ _ _ w (by rw[D7];exact Nat.le_refl _) aV Step.refl) ?_
   rintro e' a' w' ⟨rfl,hn,ρ1,S1,cn,hst1⟩
   obtain⟨u,hu,hr1⟩:=P6 hD n1 cn hv;have uJ:∃u' ρ' S',Ending.returned u=.returned u'/\aD cx.D ρ' S' w' H'/\Rep cx.D ρ' S' w' v' u'/\Step cx.D H.length ρ S H w ρ' S' H' w':=by
    obtain⟨ρ2,S2,q1,q2,q3⟩:=hfin ρ1 S1 w' hn cn.heap u hr1;exact⟨u,ρ2,S2,rfl,q1,q2,hst1.trans q3⟩
   cases e with
   |exit i=>exact absurd rfl (hne i)
   |normal=>exact⟨cn.defers,u,hu,uJ⟩
   |ret=>exact⟨cn.defers,u,hu,uJ⟩
  obtain⟨e,st,h1,-,h3⟩:=gK hD hc hm c (hl c hb) _ _ _ h;obtain⟨hok,hne,v,v',H',hv,hr,hfin⟩:=Qh hD h1;refine⟨v',H',hr,⟨fn,hf.get,hf.name,by rw[hb];rfl⟩,fun ρ S w vals hs ha=>?_⟩;have h0:bK (args++List.replicate (fn.ntmps-args.length) (AV.any:AV K)):=fun t g b y e=>by
   rcases Nat.lt_or_ge t args.length with hlt|hge
   ·rw[List.getElem?_append_left hlt]at e;obtain⟨x,-,hx⟩:=ha.get e;cases hx
   ·rw[List.getElem?_append_right hge,List.getElem?_replicate]at e;split at e<;>cases e
  obtain⟨n1,htr⟩:=h3 hok h0;refine calls_of_wp hf.get hb ?_;have aV:Sat cx ρ S {tmps:=vals.toArray++Array.replicate (fn.ntmps-vals.toArray.size) undef,defers:=[]} w ⟨args++List.replicate (fn.ntmps-args.length) .any,H,true⟩:=⟨hs,⟨by simp[ha.1],fun t v x h1 h2=>.dQ (by
   rcases Nat.lt_or_ge t args.length with hlt|hge
   ·rw[List.getElem?_append_left hlt]at h1;rw[Array.getElem?_append_left (by simpa [<-ha.1]using hlt)]at h2;exact ha.2 t v x h1 (by simpa using h2)
   ·rw[List.getElem?_append_right hge,List.getElem?_replicate]at h1;split at h1
    ·simp at h1;subst h1;exact .any x
    ·cases h1)⟩,rfl⟩
  refine wp_mono (htr H.length ρ S _ w (Nat.le_refl _) aV) ?_
  rintro e' a' w' ⟨rfl,hn,ρ1,S1,cn,hst1⟩
  obtain⟨u,hu,hr1⟩:=P6 hD n1 cn hv;have uJ:∃u' ρ' S',Ending.returned u=.returned u'/\aD cx.D ρ' S' w' H'/\Rep cx.D ρ' S' w' v' u'/\Step cx.D H.length ρ S H w ρ' S' H' w':=by
   obtain⟨ρ2,S2,q1,q2,q3⟩:=hfin ρ1 S1 w' hn cn.heap u hr1;exact⟨u,ρ2,S2,rfl,q1,q2,hst1.trans q3⟩
  cases e with
  |exit i=>exact absurd rfl (hne i)
  |normal=>exact⟨cn.defers,u,hu,uJ⟩
  |ret=>exact⟨cn.defers,u,hu,uJ⟩
 ·cases h
structure aF (K:bL) where
 f:FuncId
 sh:aw K
 R:Type
 run:sh.T->Option R
 dflt:R
 out:R->AV K×List (Ob K)
def aF.Ok(D:aT K)(P:Program)(c:aF K):Prop:=∀x r,c.run x=some r->RC D P c.f (c.sh.aO D x) (c.sh.aP D x) (c.out r).1 (c.out r).2
def callOf(D:aT K):List (aF K)->FuncId->List (AV K)->List (Ob K)->Option (AV K×List (Ob K)×Bool)
 |[],_,_,_=>none
 |c::l,f,args,H=>cond (Nat.beq c.f f) (match c.sh.dec D args H with
  |some x=>some ((c.out ((c.run x).getD c.dflt)).1,(c.out ((c.run x).getD c.dflt)).2,(c.run x).isSome)
  |none=>callOf D l f args H) (callOf D l f args H)
theorem RC.weak{D:aT K}{P:Program}{f:FuncId}{args args':List (AV K)}{r:AV K}{Ho:List (Ob K)}(hw:Wk D args H args' H')(h:RC D P f args' H' r Ho):RC D P f args H r Ho:=by
 refine⟨h.1,fun ρ S w vals hs ha=>(h.2 ρ S w vals (hw.heap _ _ _ hs) (hw.EC _ _ _ _ ha)).mono ?_⟩
 rintro e w' ⟨u,ρ',S',rfl,h1,h2,h3⟩
 rw[hw.len]at h3;exact⟨u,ρ',S',rfl,h1,h2,hw.step.trans h3⟩
theorem uK{D:aT K}(hD:aX D){P:Program}:∀(l:List (aF K)),(∀c∈l,c.Ok D P)->∀f args H r H',callOf D l f args H=some (r,H',true)->RC D P f args H r H'
 |[],_,f,args,H,r,H',h=>by simp[callOf]at h
 |c::l,hl,f,args,H,r,H',h=>by
  have ih:=uK hD l (fun c hc=>hl c (by simp[hc])) f args H r H';unfold callOf at h;cases hb:Nat.beq c.f f with
  |false=>rw[hb]at h;exact ih h
  |true=>
   rw[hb]at h;have hf:c.f=f:=Nat.eq_of_beq_eq_true hb;simp only[cond_true]at h;split at h
   ·rename_i x hx;simp only[Option.some.injEq,Prod.mk.injEq]at h;obtain⟨h1,h2,h3⟩:=h;obtain⟨y,hy⟩:=Option.isSome_iff_exists.1 h3;rw[hy]at h1 h2;simp only[Option.getD_some]at h1 h2;have:=hl c (by simp) x y hy;rw[h1,h2,hf]at this;exact this.weak (aw.uI hD hx)
   ·exact ih h
theorem aQ{cx:Cx K}(hD:aX cx.D)(l:List (aF K))(hl:∀c∈l,c.Ok cx.D cx.P)(he:cx.call=callOf cx.D l:=by exact rfl)(ha:cx.alt=fun _ _ _ _=>none:=by exact rfl)(ho:(fun(R:Type)=>cx.ry (R:=R))=fun(R:Type)(a b:Option R)=>c9 a b:=by exact rfl):aE cx:=by
 refine⟨fun f args H r H' h=>?_,fun b f args H r H' h=>?_,fun R a b r h=>?_⟩
 ·rw[he]at h;exact uK hD l hl f args H r H' h
 ·rw[ha]at h;cases h
 ·have:=congrFun ho R;rw[this]at h;exact Nj h
theorem qT{cx:Cx K}(hD:aX cx.D)(l la lw:List (aF K))(hl:∀c∈l,c.Ok cx.D cx.P)(hla:∀c∈la,c.Ok cx.D cx.P)(hlw:∀c∈lw,c.Ok cx.D cx.P)(he:cx.call=callOf cx.D l:=by exact rfl)(ha:cx.alt=fun b=>cond b (callOf cx.D la) (callOf cx.D lw):=by exact rfl)(ho:(fun(R:Type)=>cx.ry (R:=R))=fun(R:Type)(a b:Option R)=>c9 a b:=by exact rfl):aE cx:=by
 refine⟨fun f args H r H' h=>?_,fun b f args H r H' h=>?_,fun R a b r h=>?_⟩
 ·rw[he]at h;exact uK hD l hl f args H r H' h
 ·rw[ha]at h;cases b
  ·exact uK hD lw hlw f args H r H' h
  ·exact uK hD la hla f args H r H' h
 ·have:=congrFun ho R;rw[this]at h;exact Nj h
def aF.frz(D:aT K)(c:aF K):aF K:={c with out:=fun r=>(dN D (c.out r).2 (c.out r).1,[])}
structure x8 (K:bL) (D:aT K) (R:Type) where
 sh:aw K
 conv:sh.T->R
def x8.fin{D:aT K}{R:Type}(d:x8 K D R)(v:AV K)(H:List (Ob K)):Option R:=match d.sh.dec D [v] H with
 |some x=>some (d.conv x)
 |none=>none
theorem aM{cx:Cx K}(hD:aX cx.D)(hc:aE cx)(hm:cx.P.follows .mixedOrders=true){c:aF K}{fz:Bool}{fn:Func}(hf:Qg cx.P c.f fn)(hl:∀b,fn.body=some b->eE cx b)
 (d:x8 K cx.D c.R) (ho:∀x,([(c.out (d.conv x)).1],(c.out (d.conv x)).2)=(d.sh.aO cx.D x,d.sh.aP cx.D x)) (he:∀x,EE cx fz fn (c.sh.aO cx.D x) (c.sh.aP cx.D x) d.fin=c.run x):c.Ok cx.D cx.P:=by
 intro x r hr;rw[<-he x]at hr;obtain⟨v,H',h1,h2⟩:=adz hD hc hm hf hl hr;unfold x8.fin at h1;split at h1
 ·rename_i y hy;simp only[Option.some.injEq]at h1;have hw:=aw.uI hD hy;have:=ho y;simp only[Prod.mk.injEq]at this;rw[<-this.1,<-this.2]at hw;rw[h1]at hw;refine⟨h2.1,fun ρ S w vals hs ha=>(h2.2 ρ S w vals hs ha).mono ?_⟩
  rintro e w' ⟨u,ρ',S',rfl,g1,g2,g3⟩
  have:=(hw.EC _ _ _ [u] (.cons g2 .nil)).head;exact⟨u,ρ',S',rfl,hw.heap _ _ _ g1,this,g3.trans hw.step⟩
 ·cases h1
instance : Coe Bool Nat:=⟨fun b=>cond b 1 0⟩
def stays(kp i:Nat):Bool:=Nat.beq kp 1||Nat.blt (i+2) kp
def EG(kp:Nat):Nat->List (Ob K)->List (Option Nat)×List (Option Nat)
 |_,[]=>([],[])
 |i,o::r=>match EG kp (i+1) r with
  |(a,b)=>match o with
   |.arr ..=>cond (stays kp i) (some i::a,b) (none::a,some i::b)
   |.tree ..=>cond (stays kp i) (some i::a,b) (none::a,some i::b)
   |_=>(some i::a,b)
def Qj(kp:Nat)(n n0:Nat)(ins:List Nat)(vals:List (AV K))(Hi:List (Ob K)):Option (St K):=
 match jV n0 ((EG kp 0 Hi).1++(EG kp 0 Hi).2) ins ⟨cy (List.replicate n .any) ins vals,Hi,true⟩with
 |some st=>nM n0 ins st
 |none=>none
def ij(st:St K)(ts:List Nat):List (AV K):=ts.map fun t=>st.tm.getD t .any
def bw(D:aT K)(kp:Nat)(n n0:Nat)(ins outs:List Nat)(sh:aw K){Y:Type}(run:sh.T->Option Y)(out:Y->{R:Type}->(Ex->List (AV K)->List (Ob K)->R)->R):bk K:={
 n:=n
 ins:=ins
 outs:=outs
 run vals Hi k:=cond (Nat.beq Hi.length n0) (match Qj kp n n0 ins vals Hi with
  |some st=>match sh.dec D (ij st ins) st.H with
   |some x=>match run x with
    |some y=>out y k
    |none=>none
   |none=>none
  |none=>none) none}
def Qk(cx:Cx K)(n n0:Nat)(ins outs:List Nat)(sh:aw K){Y:Type}(next:sh.T->Option Y)(fin:Ex->List (AV K)->List (Ob K)->Option Y)(e:Ex)(s:St K):Option Y:=
 cond s.ok (cond (Nat.beq s.tm.length n) (match e with
  |.normal=>match lK cx s with
    |some (b,s1)=>cond b (match nM n0 ins s1 with
     |some s'=>match sh.dec cx.D (ij s' ins) s'.H with
      |some x=>next x
      |none=>none
     |none=>none) none
    |none=>none
  |e=>match lK cx s with
   |some (b,s1)=>cond b (match nM n0 outs s1 with
    |some s'=>fin e (ij s' outs) s'.H
    |none=>none) none
   |none=>none) none) none
def sy(D:aT K)(n:Nat)(ins:List Nat)(sh:aw K)(x:sh.T):St K:=⟨cy (List.replicate n .any) ins (sh.aO D x),sh.aP D x,true⟩
structure bq (K:bL) (Y:Type) where
 e:Ex
 sh:aw K
 conv:sh.T->Y
def Ex.same:Ex->Ex->Bool
 |.normal,.normal=>true
 |.exit a,.exit b=>Nat.beq a b
 |.ret,.ret=>true
 |_,_=>false
theorem Ex.same_eq{a b:Ex}(h:Ex.same a b=true):a=b:=by
 cases a<;>cases b<;>simp only[Ex.same]at h<;>first|rfl|cases h|(rw[Nat.eq_of_beq_eq_true h])
def uL(D:aT K){Y:Type}:List (bq K Y)->Ex->List (AV K)->List (Ob K)->Option Y
 |[],_,_,_=>none
 |d::l,e,vs,H=>cond (Ex.same d.e e) (match d.sh.dec D vs H with
  |some x=>some (d.conv x)
  |none=>none) (uL D l e vs H)
theorem Ql{D:aT K}:∀(l:List (Sh K))(vs:List (AV K))(x:Sh.Ts l),Sh.cu D l vs=some x->vs.length=l.length
 |[],vs,x,h=>by
   cases vs with
   |nil=>rfl
   |cons v r=>unfold Sh.cu at h;cases h
 |s::r,vs,x,h=>by
  cases vs with
  |nil=>unfold Sh.cu at h;cases h
  |cons v l=>
   unfold Sh.cu at h;split at h
   ·rename_i a b h1 h2;simp only[List.length_cons];rw[Ql r l b h2]
   ·cases h
theorem EH{D:aT K}:∀(l:List (Sh K))(x:Sh.Ts l),(Sh.encs D l x).length=l.length
 |[],x=>rfl
 |s::r,x=>by simp only[Sh.encs,List.length_cons];rw[EH r]
theorem EI{D:aT K}{sh:aw K}{vs:List (AV K)}{x:sh.T}(h:sh.dec D vs H=some x):(sh.aO D x).length=vs.length:=by
 unfold aw.dec at h;split at h
 ·rename_i a b h1 h2;unfold aw.aO;rw[EH,Ql _ _ _ h1]
 ·cases h
theorem EJ{D:aT K}(hD:aX D){Y:Type}{out:Y->{R:Type}->(Ex->List (AV K)->List (Ob K)->R)->R}:∀(l:List (bq K Y)),(∀d∈l,d.e≠.normal/\∀x (R:Type) (k:Ex->List (AV K)->List (Ob K)->R),out (d.conv x) k=k d.e (d.sh.aO D x) (d.sh.aP D x))->
 ∀e vs H y,uL D l e vs H=some y->e≠.normal/\∃vs' H',(∀(R:Type)(k:Ex->List (AV K)->List (Ob K)->R),out y k=k e vs' H')/\Wk D vs H vs' H'/\vs'.length=vs.length
 |[],_,e,vs,H,y,h=>by simp[uL]at h
 |d::l,hl,e,vs,H,y,h=>by
  unfold uL at h;cases hs:Ex.same d.e e with
  |false=>rw[hs]at h;exact EJ hD l (fun d hd=>hl d (by simp[hd])) e vs H y h
  |true=>
   rw[hs]at h;have he:=Ex.same_eq hs;simp only[cond_true]at h;split at h
   ·rename_i x hx;simp only[Option.some.injEq]at h;subst h;obtain⟨h1,h2⟩:=hl d (by simp);rw[he]at h1 h2;exact⟨h1,_,_,fun R k=>h2 x R k,aw.uI hD hx,EI hx⟩
   ·cases h
theorem retag{cx:Cx K}{n0:Nat}{st:St K}{ts:List Nat}{n:Nat}(hn:st.tm.length=n)(h0:bK st.tm){vs':List (AV K)}(hw:Wk cx.D (ij st ts) st.H vs' H')(hlen:vs'.length=ts.length):
 Goes cx n0 st ⟨cy (List.replicate n .any) ts vs',H',st.ok⟩:=by
 intro ρ S a w hn0 aV;refine⟨by show n0<=H'.length;rw[hw.len];exact hn0,ρ,S,⟨hw.heap _ _ _ aV.heap,?_,aV.defers⟩,hw.step⟩;have hsz:a.tmps.size=n:=by rw[<-hn];exact aV.slots.len.symm
 have hrep:∀t,Rep cx.D ρ S w (st.tm.getD t .any) (a.tmps.getD t undef):=fun t=>by
  rw[List.getD_eq_getElem?_getD,Array.getD_eq_getD_getElem?];cases hg:st.tm[t]? with
  |none=>exact .any _
  |some v=>
   obtain⟨x,hx,-⟩:=aV.slots.get hg;rw[hx];exact aV.slots.rep h0 hg hx
 have hus:aI cx.D ρ S w (ij st ts) (ts.map fun t=>a.tmps.getD t undef):=⟨by simp[ij],fun i v x h1 h2=>by
  simp only[ij,List.getElem?_map,Option.map_eq_some_iff]at h1 h2;obtain⟨t,e1,rfl⟩:=h1;obtain⟨t',e2,rfl⟩:=h2;rw[e1]at e2;simp at e2;subst e2;exact hrep t⟩
 have adB:=hw.EC _ _ _ _ hus;refine D5 hsz fun i t v x h1 h2 h3=>adB.2 i v x h2 ?_
 simp only[List.getElem?_map,h1,Option.map_some];rw[Array.getD_eq_getD_getElem?,h3];rfl
theorem Qm{D:aT K}:∀(l:List (Sh K))(x:Sh.Ts l)(i:Nat)(v:AV K),(Sh.encs D l x)[i]?=some v->v.dU=false
 |[],x,i,v,h=>by simp[Sh.encs]at h
 |s::r,x,i,v,h=>by
  cases i with
  |zero=>
   simp only[Sh.encs,List.getElem?_cons_zero,Option.some.injEq]at h;subst h;cases s<;>simp only[Sh.enc]<;>rfl
  |succ i=>exact Qm r x.2 i v (by simpa [Sh.encs]using h)
theorem adC{n:Nat}{ds:List Nat}{l:List (AV K)}(h:∀(i:Nat) v,l[i]?=some v->v.dU=false):bK (cy (List.replicate n .any) ds l):=fun t g b v e=>by
 rcases su ds l _ t _ e with h1|⟨i,-,h2⟩
 ·rw[List.getElem?_replicate]at h1;split at h1<;>cases h1
 ·have:=h i _ h2;simp[AV.dU]at this
theorem EK{n0:Nat}{src:List (Option Nat)}{keep:List Nat}{st st':St K}(h:jV n0 src keep st=some st'):st'.tm.length=st.tm.length:=by
 unfold jV at h;split at h
 ·split at h
  ·simp only[Option.some.injEq]at h;subst h;simp[oo]
  ·cases h
 ·cases h
theorem Tr.goes{cx:Cx K}{n0:Nat}{c:Code}{st st1 st2:St K}{e:Ex}(h:Tr cx n0 c st e st1)(g:Goes cx n0 st1 st2):Tr cx n0 c st e st2:=fun ρ S a w hn aV=>by
 refine wp_mono (h ρ S a w hn aV) ?_
 rintro e' a' w' ⟨he,hn1,ρ1,S1,cn,hst1⟩
 obtain⟨hn2,ρ2,S2,ot,hst2⟩:=g ρ1 S1 a' w' hn1 cn;exact⟨he,hn2,ρ2,S2,ot,hst1.trans hst2⟩
section
variable {cx :Cx K}(hD:aX cx.D)(hc:aE cx)(hm:cx.P.follows .mixedOrders=true){c:Code}(hl:eE cx c){n n0:Nat}{ins outs:List Nat}{sh:aw K}{Y:Type}{run:Nat->sh.T->Option Y}
 {bo:List (bq K Y)} {out:Y->{R:Type}->(Ex->List (AV K)->List (Ob K)->R)->R}
 (h0:∀x,run 0 x=none) (hs:∀m x,cZ cx c (sy cx.D n ins sh x) (Qk cx n n0 ins outs sh (run m) (uL cx.D bo))=run (m+1) x)
 (hx:∀d∈bo,d.e≠.normal/\∀x (R:Type) (k:Ex->List (AV K)->List (Ob K)->R),out (d.conv x) k=k d.e (d.sh.aO cx.D x) (d.sh.aP cx.D x))
include hD hc hm hl h0 hs hx
theorem Qn{y:Y}:∀(m:Nat)(x:sh.T),run m x=some y->∃e vs Ho,(∀(R:Type)(k:Ex->List (AV K)->List (Ob K)->R),out y k=k e vs Ho)/\
 ∀(ρ0:List Value)(S0:Nat->Prop)(H0:List (Ob K))(w0:World)(ρ:List Value)(S:Nat->Prop)(a:Act)(w:World),n0<=(sy cx.D n ins sh x).H.length->Sat cx ρ S a w (sy cx.D n ins sh x)->Step cx.D n0 ρ0 S0 H0 w0 ρ S (sy cx.D n ins sh x).H w->
  Code.rounds cx.P c (fun e' a' w'=>e'=e.eY/\n0<=Ho.length/\∃ρ' S',Sat cx ρ' S' a' w' ⟨cy (List.replicate n .any) outs vs,Ho,true⟩/\Step cx.D n0 ρ0 S0 H0 w0 ρ' S' Ho w') m a w
 |0,x,h=>by rw[h0]at h;cases h
 |m+1,x,h=>by
  rw[<-hs m x]at h;obtain⟨e,s,h1,h2,h3⟩:=gK hD hc hm c hl _ _ _ h;unfold Qk at h1;have hno:bK (sy cx.D n ins sh x).tm:=adC (Qm _ _);cases hok:s.ok with
  |false=>rw[hok]at h1;cases h1
  |true=>
   rw[hok]at h1;simp only[cond_true]at h1;obtain⟨n1,htr⟩:=h3 hok hno;cases hlen:Nat.beq s.tm.length n with
   |false=>rw[hlen]at h1;cases h1
   |true=>
   rw[hlen]at h1;simp only[cond_true]at h1;have hsn:s.tm.length=n:=Nat.eq_of_beq_eq_true hlen;have key:∀keep s1 s' vs' jg,lK cx s=some (true,s1)->nM n0 keep s1=some s'->Wk cx.D (ij s' keep) s'.H vs' jg->vs'.length=keep.length->Tr cx n0 c (sy cx.D n ins sh x) e ⟨cy (List.replicate n .any) keep vs',jg,true⟩:=fun keep s1 s' vs' jg hcl hn hw hvl=>by
    have hr:jV n0 ((reach s1.H 64 (List.range n0++bg (keep.map fun t=>s1.tm.getD t .any)) []).map some) keep s1=some s':=hn;obtain⟨hk1,g1,g2⟩:=x3 (cx:=cx) hD hr;obtain⟨c1,c2,c3,c4⟩:=P8 hD hcl;have gc:Goes cx n0 s s1:=fun ρ S a w hn aV=>by
     obtain⟨q1,q2⟩:=c4 n0 ρ S a w aV;exact⟨by rw[c3];exact hn,ρ,S,q1,q2⟩
    have hl2:s1.tm.length=n:=by rw[c1];exact hsn
    have hn2:bK s1.tm:=by rw[c1];exact n1
    have:=(htr n0).goes (gc.trans ((g2 hn2).trans (retag ((EK hr).trans hl2) g1 hw hvl)));rw[hk1,c2,hok]at this;exact this
   cases e with
   |normal=>
    dsimp only at h1;split at h1
    ·rename_i b s1 hcl;cases b with
     |false=>cases h1
     |true=>
     simp only[cond_true]at h1;split at h1
     ·rename_i s' hn;split at h1
      ·rename_i x' hx';obtain⟨e2,vs,Ho,q1,q2⟩:=Qn m x' h1;refine⟨e2,vs,Ho,q1,fun ρ0 S0 H0 w0 ρ S a w hn0 aV hst=>?_⟩;rw[rounds_succ];refine wp_mono (key ins s1 s' _ _ hcl hn (aw.uI hD hx') (by rw[EI hx'];simp[ij]) ρ S a w hn0 aV) ?_
       rintro e' a' w' ⟨rfl,hn1,ρ1,S1,cn,hst1⟩
       exact q2 ρ0 S0 H0 w0 ρ1 S1 a' w' hn1 cn (hst.trans hst1)
      ·cases h1
     ·cases h1
    ·cases h1
   |exit id=>
    dsimp only at h1;split at h1
    ·rename_i b s1 hcl;cases b with
     |false=>cases h1
     |true=>
     simp only[cond_true]at h1;split at h1
     ·rename_i s' hn;obtain⟨g1,vs',jg,g2,g3,g4⟩:=EJ hD bo hx _ _ _ _ h1;refine⟨.exit id,vs',jg,g2,fun ρ0 S0 H0 w0 ρ S a w hn0 aV hst=>?_⟩;rw[rounds_succ];refine wp_mono (key outs s1 s' _ _ hcl hn g3 (by rw[g4];simp[ij]) ρ S a w hn0 aV) ?_
      rintro e' a' w' ⟨rfl,hn1,ρ1,S1,cn,hst1⟩
      exact⟨rfl,hn1,ρ1,S1,cn,hst.trans hst1⟩
     ·cases h1
    ·cases h1
   |ret=>
    dsimp only at h1;split at h1
    ·rename_i b s1 hcl;cases b with
     |false=>cases h1
     |true=>
     simp only[cond_true]at h1;split at h1
     ·rename_i s' hn;obtain⟨g1,vs',jg,g2,g3,g4⟩:=EJ hD bo hx _ _ _ _ h1;refine⟨.ret,vs',jg,g2,fun ρ0 S0 H0 w0 ρ S a w hn0 aV hst=>?_⟩;rw[rounds_succ];refine wp_mono (key outs s1 s' _ _ hcl hn g3 (by rw[g4];simp[ij]) ρ S a w hn0 aV) ?_
      rintro e' a' w' ⟨rfl,hn1,ρ1,S1,cn,hst1⟩
      exact⟨rfl,hn1,ρ1,S1,cn,hst.trans hst1⟩
     ·cases h1
    ·cases h1
theorem bA(kp:Nat)(N:Nat):bm cx c (bw cx.D kp n n0 ins outs sh (run N) out):=by
 intro vals Hi R k r h;simp only[bw]at h;cases hb:Nat.beq Hi.length n0 with
 |false=>rw[hb]at h;cases h
 |true=>
  rw[hb]at h;have hlen:Hi.length=n0:=Nat.eq_of_beq_eq_true hb;simp only[cond_true]at h;split at h
  ·rename_i st hst;split at h
   ·rename_i x hx1;split at h
    ·rename_i y hy;obtain⟨e,vs,Ho,q1,q2⟩:=Qn hD hc hm hl h0 hs hx N x hy;rw[q1]at h;refine⟨e,vs,Ho,h,?_⟩;unfold Qj at hst;split at hst
     ·rename_i st1 hst1;have hst':jV n0 ((reach st1.H 64 (List.range n0++bg (ins.map fun t=>st1.tm.getD t .any)) []).map some) ins st1=some st:=hst;obtain⟨k1,g1,g2⟩:=x3 (cx:=cx) hD hst1;obtain⟨k2,g3,g4⟩:=x3 (cx:=cx) hD hst';intro ρ S a w hn0 aV;have hno:bK (cy (List.replicate n (AV.any:AV K)) ins vals):=fun t g b v e=>by
       rcases su ins vals _ t _ e with h1|⟨i,h1,-⟩
       ·rw[List.getElem?_replicate]at h1;split at h1<;>cases h1
       ·unfold jV at hst1;split at hst1
        ·split at hst1
         ·rename_i ws H1 hv hm1;obtain⟨gl,gg⟩:=oq _ _ hv;have hi:i<ws.length:=by rw[gl];simp;exact(List.getElem?_eq_some_iff.1 h1).1
          obtain⟨v0,q1,q2⟩:=gg i _ (List.getElem?_eq_getElem hi);simp only[List.getElem?_map,h1,Option.map_some,Option.some.injEq]at q1;rw[List.getD_eq_getElem?_getD,e]at q1;simp only[Option.getD_some]at q1;subst q1;simp[cU]at q2
         ·cases hst1
        ·cases hst1
      have hlen1:st1.tm.length=n:=by rw[EK hst1];simp[oo]
      have hlen2:st.tm.length=n:=by rw[EK hst'];exact hlen1
      have hw:=aw.uI hD hx1;have hr:=retag (cx:=cx) (n0:=n0) hlen2 g3 hw (by rw[EI hx1];simp[ij]);have hok:st.ok=true:=by rw[k2,k1]
      rw[hok]at hr;rw[hlen];obtain⟨hn1,ρ1,S1,cn,hst2⟩:=((g2 hno).trans ((g4 g1).trans hr)) ρ S a w (by show n0<=Hi.length;omega) aV;exact wp_loop_rounds N (q2 ρ S Hi w ρ1 S1 a w hn1 cn hst2)
     ·cases hst
    ·cases h
   ·cases h
  ·cases h
end
def fB:Code->List Code
 |.loop c=>[c]
 |.seq a b=>fB a++fB b
 |.cond _ a b=>fB a++fB b
 |.block _ c=>fB c
 |_=>[]
def bh(c:Code)(i:Nat):Code:=(fB c).getD i .skip
theorem sA{cx:Cx K}:∀(c:Code),(∀b∈fB c,∀L,cx.loop (keyOf b)=some L->bm cx b L)->eE cx c
 |.loop c,h=>fun L hL=>h c (by simp[fB]) L hL
 |.seq a b,h=>⟨sA a fun x hx=>h x (by simp[fB,hx]),sA b fun x hx=>h x (by simp[fB,hx])⟩
 |.cond _ a b,h=>⟨sA a fun x hx=>h x (by simp[fB,hx]),sA b fun x hx=>h x (by simp[fB,hx])⟩
 |.block _ c,h=>sA c h
 |.skip,_|.exit _,_|.ret,_|.region ..,_|.scope ..,_|.rangeFunc ..,_|.goto ..,_|.label ..,_|.refuse ..,_=>trivial
def EL(cx:Cx K)(c:Code):Prop:=∃L,cx.loop (keyOf c)=some L/\bm cx c L
theorem EL.mk{cx:Cx K}{c:Code}{L:bk K}(h:cx.loop (keyOf c)=some L)(ho:bm cx c L):EL cx c:=⟨L,h,ho⟩
theorem bD{cx:Cx K}{c:Code}(n:Nat)(hn:(fB c).length=n)(h:∀i,i<n->EL cx (bh c i)):eE cx c:=
 sA c fun b hb L hL=>by
  obtain⟨i,hi,rfl⟩:=List.getElem_of_mem hb;obtain⟨L',h1,h2⟩:=h i (by omega);have e:bh c i=(fB c)[i]:=by simp[bh,List.getD_eq_getElem?_getD,List.getElem?_eq_getElem hi]
  rw[e]at h1 h2;rw[h1]at hL;simp only[Option.some.injEq]at hL;subst hL;exact h2
theorem aL{cx:Cx K}{c:Code}(hn:(fB c).length=0):eE cx c:=bD 0 hn fun i hi=>absurd hi (Nat.not_lt_zero i)
theorem bE{p:Nat->Prop}(h:p 0):∀i,i<1->p i:=fun i hi=>by
 have:i=0:=by omega
 subst this;exact h
theorem lt_succ{p:Nat->Prop}{n:Nat}(h:∀i,i<n->p i)(hn:p n):∀i,i<n+1->p i:=fun i hi=>by
 by_cases he:i=n
 ·subst he;exact hn
 ·exact h i (by omega)
def bu(fn:Func):Code:=match fn.body with
 |some c=>c
 |none=>.skip
theorem aN{cx:Cx K}{fn:Func}(h:eE cx (bu fn)):∀c,fn.body=some c->eE cx c:=fun c hc=>by
 have:bu fn=c:=by unfold bu;rw[hc]
 rw[<-this];exact h
theorem ax{α:Type _}{p:α->Prop}:∀c∈([]:List α),p c:=fun c h=>by simp at h
theorem an{α:Type _}{p:α->Prop}{a:α}{l:List α}(h:p a)(t:∀c∈l,p c):∀c∈a::l,p c:=fun c hc=>by
 rcases List.mem_cons.1 hc with rfl|hc
 ·exact h
 ·exact t c hc
theorem bC{i:Nat}:Ex.exit i≠.normal:=fun h=>by cases h
theorem bR:Ex.ret≠.normal:=fun h=>by cases h
theorem Qo:∃n:Nat,2^63<=n:=⟨2^63,Nat.le_refl _⟩
noncomputable def ak:Nat:=Classical.choose Qo
theorem b9:2^63<=ak:=Classical.choose_spec Qo
end Go.V
namespace Go.V
open Go
variable {K :bL}{D:aT K}{ρ ρ':List Value}{S S':Nat->Prop}{w w':World}
def Sh.flat:Sh K->Bool
 |.int _|.bool|.str|.au _=>true
 |_=>false
def eR:List (Sh K)->Bool
 |[]=>true
 |s::r=>s.flat&&eR r
def D0(K:bL):aT K:={cells:=fun _ _=>[],dec:=fun _ _=>none,byte:=fun _=>none,find:=fun _=>none}
def Qp(cs:K.U->List (Sh K)):List K.U->List (AV K)->Option K.U
 |[],_=>none
 |c::r,l=>match Sh.cu (D0 K) (cs c) l with
  |some _=>some c
  |none=>Qp cs r l
def EY(cs:K.U->List (Sh K))(mk:(c:K.U)->Sh.Ts (cs c)->K.El c×Bool)(un:(c:K.U)->K.El c->Sh.Ts (cs c))(byte:(c:K.U)->Option ((K.El c->UInt8)×(UInt8->K.El c)))(codes:List K.U)(base:Base:=Base.yd)(jL:Option TypeId:=none)(fN:K.U->Option TypeId:=fun _=>none):aT K:={
 base:=base
 jL:=jL
 fN:=fN
 cells c x:=Sh.encs (D0 K) (cs c) (un c x)
 dec c l:=match Sh.cu (D0 K) (cs c) l with
  |some y=>some (mk c y)
  |none=>none
 byte:=byte
 find l:=Qp cs codes l}
theorem adD{c:K.U}{v:AV K}{l:List (K.El c)}(h:elems [] c v=some l){u:Value}(hr:Rep D ρ S w v u):Rep D ρ S w (.au c l) u:=by
 unfold elems at h;split at h
 ·simp only[Option.some.injEq]at h;subst h;cases hr;exact .cK _ _
 ·split at h
  ·rename_i he _;subst he;simp only[Option.some.injEq]at h;subst h;exact hr
  ·cases h
 ·simp at h
 ·cases h
theorem Qq:∀(l:List (Sh K))(vs:List (AV K))(x:Sh.Ts l),eR l=true->Sh.cu (D0 K) l vs=some x->∀us,aI D ρ S w vs us->aI D ρ S w (Sh.encs (D0 K) l x) us
 |[],vs,x,hf,h,us,hr=>by
   cases vs with
   |nil=>exact hr
   |cons v r=>unfold Sh.cu at h;cases h
 |s::r,vs,x,hf,h,us,hr=>by
  simp only[eR,Bool.and_eq_true]at hf;cases vs with
  |nil=>unfold Sh.cu at h;cases h
  |cons v l=>
   unfold Sh.cu at h;split at h
   ·rename_i a b h1 h2;have h:=Option.some.inj h;subst h;obtain⟨u,t,rfl,g1,g2⟩:=hr.cS;refine .cons ?_ (Qq r l b hf.2 h2 t g2);cases s<;>simp only[Sh.flat]at hf<;>first|(exact absurd hf.1 Bool.false_ne_true)|skip
    ·rw[AV.Es h1]at g1;exact g1
    ·rw[AV.Et h1]at g1;exact g1
    ·rw[AV.Eu h1]at g1;exact g1
    ·exact adD h1 g1
   ·cases h
theorem EM:∀(l:List (Sh K))(x:Sh.Ts l),eR l=true->dz (Sh.encs (D0 K) l x)=true/\(Sh.encs (D0 K) l x).all AV.one=true
 |[],x,hf=>⟨rfl,rfl⟩
 |s::r,x,hf=>by
  simp only[eR,Bool.and_eq_true]at hf;obtain⟨h1,h2⟩:=EM r x.2 hf.2;simp only[Sh.encs,dz,List.all_cons,Bool.and_eq_true];refine⟨⟨?_,h1⟩,?_,h2⟩<;>(cases s<;>simp only[Sh.flat]at hf<;>first|(exact absurd hf.1 Bool.false_ne_true)|rfl)
theorem Qr:∀(l:List (Sh K))(x y:Sh.Ts l),eR l=true->bM (Sh.encs (D0 K) l x)=bM (Sh.encs (D0 K) l y)
 |[],x,y,hf=>rfl
 |s::r,x,y,hf=>by
  simp only[eR,Bool.and_eq_true]at hf;simp only[Sh.encs,bM];rw[Qr r x.2 y.2 hf.2];congr 1;cases s<;>simp only[Sh.flat]at hf<;>first|(exact absurd hf.1 Bool.false_ne_true)|rfl
theorem Qs:∀(l:List (Sh K))(x:Sh.Ts l),eR l=true->∀(j:Nat) v,(Sh.encs (D0 K) l x)[j]?=some v->v≠.bO/\(v.gz=false->dA v=false)
 |[],x,hf,j,v,h=>by simp[Sh.encs]at h
 |s::r,x,hf,j,v,h=>by
  simp only[eR,Bool.and_eq_true]at hf;cases j with
  |zero=>
   simp[Sh.encs]at h;subst h;cases s<;>simp only[Sh.flat]at hf<;>first|(exact absurd hf.1 Bool.false_ne_true)|exact⟨fun e=>(by cases e),fun _=>rfl⟩|exact⟨fun e=>(by cases e),fun e=>by cases e⟩
  |succ j=>exact Qs r x.2 hf.2 j v (by simpa [Sh.encs]using h)
theorem adE{c:K.U}{v:AV K}{l:List (K.El c)}(h:elems [] c v=some l):v=.au c l\/(v=.bO/\l=[]):=by
 unfold elems at h;split at h
 ·simp only[Option.some.injEq]at h;exact .inr ⟨rfl,h.symm⟩
 ·split at h
  ·rename_i he _;subst he;simp only[Option.some.injEq]at h;subst h;exact .inl rfl
  ·cases h
 ·simp at h
 ·cases h
theorem Qu:∀(l:List (Sh K))(vs:List (AV K))(x:Sh.Ts l),eR l=true->Sh.cu (D0 K) l vs=some x->vs.length=l.length/\∀(j:Nat) v v',vs[j]?=some v->(Sh.encs (D0 K) l x)[j]?=some v'->v'=v\/(v=.bO/\∃c',v'=.au c' [])
 |[],vs,x,hf,h=>by
   cases vs with
   |nil=>exact⟨rfl,fun j v v' h=>by simp at h⟩
   |cons v r=>unfold Sh.cu at h;cases h
 |s::r,vs,x,hf,h=>by
  simp only[eR,Bool.and_eq_true]at hf;cases vs with
  |nil=>unfold Sh.cu at h;cases h
  |cons v l=>
   unfold Sh.cu at h;split at h
   ·rename_i a b h1 h2;have h:=Option.some.inj h;subst h;obtain⟨g1,g2⟩:=Qu r l b hf.2 h2;refine⟨by simp[g1],fun j u u' hu hu'=>?_⟩;cases j with
    |zero=>
     simp[Sh.encs]at hu hu';subst hu;subst hu';cases s<;>simp only[Sh.flat]at hf<;>first|(exact absurd hf.1 Bool.false_ne_true)|skip
     ·exact .inl (AV.Es h1).symm
     ·exact .inl (AV.Et h1).symm
     ·exact .inl (AV.Eu h1).symm
     ·rcases adE h1 with h|⟨h,e⟩
      ·exact .inl h.symm
      ·exact .inr ⟨h,_,by rw[e];rfl⟩
    |succ j=>exact g2 j u u' (by simpa using hu) (by simpa [Sh.encs]using hu')
   ·cases h
theorem QB{codes:List K.U}{base:Base}{jL:Option TypeId}{fN:K.U->Option TypeId}{cs:K.U->List (Sh K)}{mk:(c:K.U)->Sh.Ts (cs c)->K.El c×Bool}{un:(c:K.U)->K.El c->Sh.Ts (cs c)}{byte:(c:K.U)->Option ((K.El c->UInt8)×(UInt8->K.El c))}
 (hf:∀c,eR (cs c)=true) (hl:∀c,(cs c).length=K.sz c) (hu:∀c y x,mk c y=(x,true)->un c x=y) (hb:∀c f g,byte c=some (f,g)->(∀x,Sh.encs (D0 K) (cs c) (un c x)=[.int .u8 ((f x).toNat:Int)])/\∀b,f (g b)=b):aX (EY cs mk un byte codes base jL fN):={
 len c x:=by show(Sh.encs (D0 K) (cs c) (un c x)).length=_;rw[EH,hl]
 closed c x:=(EM _ _ (hf c)).1
 one c x:=(EM _ _ (hf c)).2
 dec c l x h:=fun ρ S w vs hr=>by
  change(match Sh.cu (D0 K) (cs c) l with
   |some y=>some (mk c y)
   |none=>none)=some (x,true)at h
  split at h
  ·rename_i y hy
   show aI _ ρ S w (Sh.encs (D0 K) (cs c) (un c x)) vs
   rw[hu c y x (Option.some.inj h)];exact Qq _ _ _ (hf c) hy _ hr
  ·cases h
 byte:=hb
 flat c x:=Qr _ _ _ (hf c)
 kinds c x:=Qs _ _ (hf c)
 rN c l x h:=by
  change(match Sh.cu (D0 K) (cs c) l with
   |some y=>some (mk c y)
   |none=>none)=some (x,true)at h
  split at h
  ·rename_i y hy;obtain⟨g1,g2⟩:=Qu _ _ _ (hf c) hy;refine⟨by rw[g1,hl],fun j v v' h1 h2=>g2 j v v' h1 ?_⟩;change(Sh.encs (D0 K) (cs c) (un c x))[j]?=some v' at h2;rw[hu c y x (Option.some.inj h)]at h2;exact h2
  ·cases h}
def uP(n:Int):Bool:=decide (0<=n)&&decide (n<256)
def uO(n:Int):UInt8:=UInt8.ofNat n.toNat
theorem EZ{n:Int×Unit}{x:UInt8}(h:(uO n.1,uP n.1)=(x,true)):((x.toNat:Int),())=n:=by
 simp only[Prod.mk.injEq,uP,Bool.and_eq_true,decide_eq_true_eq]at h;obtain⟨rfl,h0,h3⟩:=h;obtain⟨a,b⟩:=n;dsimp only at h0 h3⊢;have h1:a.toNat<256:=by omega
 have h2:((uO a).toNat:Int)=a:=by
  unfold uO;rw[UInt8.toNat_ofNat'];simp only[Nat.reducePow];rw[Nat.mod_eq_of_lt h1];omega
 rw[h2]
def aJ{α:Type _}:List (Nat×α)->Nat->Option α
 |[],_=>none
 |p::r,n=>cond (Nat.beq p.1 n) (some p.2) (aJ r n)
def aK{α:Type _}(d:α):List (Nat×α)->Nat->α
 |[],_=>d
 |p::r,n=>cond (Nat.beq p.1 n) p.2 (aK d r n)
end Go.V
