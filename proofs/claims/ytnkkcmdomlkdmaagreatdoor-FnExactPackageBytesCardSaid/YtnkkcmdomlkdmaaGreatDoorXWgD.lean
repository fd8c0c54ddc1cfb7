/-
  NEW NUMBERS FOR THE OBJECTS.
-/
import Derived.Test.YtnkkcmdomlkdmaaGreatDoorXWgC
import Derived.Test.YtnkkcmdomlkdmaaGreatDoorXWgA
import Derived.Lib.ItoaNum
set_option linter.unusedVariables false
namespace Go.V
open Go
variable {K :dc}{ρ ρ':List Value}{S S':Nat->Prop}{w w':World}{H H':List (Ob K)}
theorem anQ{α β:Type}{f:α->Option β}:∀(l:List α)(l':List β),yc f l=some l'->l'.length=l.length/\∀(i:Nat) y,l'[i]?=some y->∃x,l[i]?=some x/\f x=some y
 |[],l',h=>by simp[yc]at h;subst h;simp
 |x::l,l',h=>by
  simp only[yc]at h;split at h
  ·rename_i y m h1 h2;simp only[aD]at h;subst h;obtain⟨g1,g2⟩:=anQ l m h2;refine⟨by simp[g1],fun i z hi=>?_⟩;cases i with
   |zero=>simp at hi;subst hi;exact⟨x,rfl,h1⟩
   |succ i=>simp at hi;obtain⟨v,q1,q2⟩:=g2 i z hi;exact⟨v,by simpa using q1,q2⟩
  ·cases h
theorem Tc{n0 n:Nat}:∀(src:List (Option Nat))(k:Nat),uI n0 n k src=true->
 (∀i:Nat,src[i]?=some none->k+i<n0)/\(∀(i h:Nat),src[i]?=some (some h)->h<n/\(k+i<n0->h=k+i))/\∀(i j h:Nat),src[i]?=some (some h)->src[j]?=some (some h)->i=j
 |[],k,h=>⟨fun i hi=>by simp at hi,fun i h hi=>by simp at hi,fun i j h hi=>by simp at hi⟩
 |none::r,k,h=>by
  simp only[uI,bD,bw]at h;obtain⟨a,b,c⟩:=Tc r (k+1) h.2;refine⟨fun i hi=>?_,fun i g hi=>?_,fun i j g hi hj=>?_⟩
  ·cases i with
   |zero=>exact h.1
   |succ i=>have:=a i (by simpa using hi);omega
  ·cases i with
   |zero=>simp at hi
   |succ i=>have:=b i g (by simpa using hi);exact⟨this.1,fun hh=>by have:=this.2 (by omega);omega⟩
  ·cases i with
   |zero=>simp at hi
   |succ i=>
    cases j with
    |zero=>simp at hj
    |succ j=>rw[c i j g (by simpa using hi) (by simpa using hj)]
 |some g0::r,k,h=>by
  simp only[uI,bD,gq,bw,fj,mi,cm]at h;obtain⟨h1,h2,h3,h4⟩:=h;obtain⟨a,b,c⟩:=Tc r (k+1) h4;refine⟨fun i hi=>?_,fun i g hi=>?_,fun i j g hi hj=>?_⟩
  ·cases i with
   |zero=>simp at hi
   |succ i=>have:=a i (by simpa using hi);omega
  ·cases i with
   |zero=>simp at hi;subst hi;exact⟨h1,fun hh=>by omega⟩
   |succ i=>have:=b i g (by simpa using hi);exact⟨this.1,fun hh=>by have:=this.2 (by omega);omega⟩
  ·cases i with
   |zero=>
    simp at hi;subst hi;cases j with
    |zero=>rfl
    |succ j=>exact absurd (jS (by simpa using hj)) h3
   |succ i=>
    cases j with
    |zero=>simp at hj;subst hj;exact absurd (jS (by simpa using hi)) h3
    |succ j=>rw[c i j g (by simpa using hi) (by simpa using hj)]
theorem aFu{src:List (Option Nat)}{h i:Nat}(hi:uH src h=some i):src[i]?=some (some h):=by
 unfold uH at hi;rw[List.idxOf?_eq_some_iff]at hi;obtain⟨hlt,he,-⟩:=hi;rw[bG hlt];simpa using he
def kF(ρ:List Value):Nat->List (Option Nat)->List Value
 |_,[]=>[]
 |i,none::r=>ρ.getD i undef::kF ρ (i+1) r
 |i,some h::r=>ρ.getD h undef::kF ρ (i+1) r
theorem NA{ρ:List Value}:∀(src:List (Option Nat))(k i:Nat)(x:Option Nat),src[i]?=some x->(kF ρ k src)[i]?=some (ρ.getD (x.getD (k+i)) undef)
 |[],k,i,x,h=>by simp at h
 |none::r,k,0,x,h=>by simp at h;subst h;simp[kF]
 |some h0::r,k,0,x,h=>by simp at h;subst h;simp[kF]
 |none::r,k,i+1,x,h=>by
  simp only[kF,List.getElem?_cons_succ];rw[NA r (k+1) i x (by simpa using h),kK,QH 1 i]
 |some h0::r,k,i+1,x,h=>by
  simp only[kF,List.getElem?_cons_succ];rw[NA r (k+1) i x (by simpa using h),kK,QH 1 i]
theorem Td{ρ:List Value}:∀(src:List (Option Nat))(k:Nat),(kF ρ k src).length=src.length
 |[],k=>rfl
 |none::r,k=>by simp[kF,Td r]
 |some h0::r,k=>by simp[kF,Td r]
theorem anR{D:bL K}(hD:bT D)(hs:aU D ρ S w H){n0:Nat}(hn:n0<=H.length){src:List (Option Nat)}(hk:uI n0 H.length 0 src=true)(hl:n0<=src.length)(hm:yc (yd src H) src=some H'):
 aU D (kF ρ 0 src) S w H'/\Step D n0 ρ S H w (kF ρ 0 src) S H' w/\Ren (uH src) ρ (kF ρ 0 src)/\n0<=H'.length:=by
 obtain⟨k1,k2,k3⟩:=Tc src 0 hk;obtain⟨m1,m2⟩:=anQ _ _ hm;have hlen:=hs.len;have Tf:∀{h:Nat},h<H.length->some (ρ.getD h undef)=ρ[h]?:=fun{h} hh=>by
  rw[aH,bG (show h<ρ.length by omega)];rfl
 have hsub:∀(i h:Nat),src[i]?=some (some h)->(kF ρ 0 src)[i]?=ρ[h]?:=fun i h hi=>by
  rw[NA src 0 i _ hi];exact Tf (k2 i h hi).1
 have rS:Ren (uH src) ρ (kF ρ 0 src):=fun i j r hij hr=>by rw[hsub j i (aFu hij)];exact hr
 have hsrc:∀{i:Nat}{o:Ob K},H'[i]?=some o->o.live=true->∃h o0,src[i]?=some (some h)/\H[h]?=some o0/\kX (uH src) o0=some o:=fun{i o} ho hlive=>by
  obtain⟨x,q1,q2⟩:=m2 i o ho;cases x with
  |none=>simp only[yd,aD]at q2;subst q2;simp[Ob.live]at hlive
  |some h=>
   simp only[yd]at q2;split at q2
   ·rename_i o0 ho0;exact⟨h,o0,q1,ho0,q2⟩
   ·cases q2
 have hown:∀b,Own D w (kF ρ 0 src) H' b->Own D w ρ H b:=fun b ⟨i,o,r,h1,h2,h3,h4⟩=>by
  obtain⟨h,o0,e1,e2,e3⟩:=hsrc h1 h2;rw[hsub i h e1]at h3;exact⟨h,o0,r,e2,by rw[<-mR e3];exact h2,h3,(nW e3).1 h4⟩
 refine⟨⟨by rw[Td,m1],fun i o r h1 h2=>?_,fun i j o o' r r' b h1 h2 h3 h4 g1 g2 g3 g4=>?_,fun b hb=>hs.lt b (hown b hb),hs.slt,hs.base⟩,⟨rfl,rfl,rfl,eL _,fun _ _ _=>rfl,fun b hb=>.inl (hown b hb),fun _ h=>h,fun _ h=>.inl h,fun i hi=>?_⟩,rS,by rw[m1];exact hl⟩
 ·obtain⟨x,q1,q2⟩:=m2 i o h1;cases x with
  |none=>simp only[yd,aD]at q2;subst q2;trivial
  |some h=>
   simp only[yd]at q2;split at q2
   ·rename_i o0 ho0;rw[hsub i h q1]at h2;exact RE hD rS q2 (hs.ob h o0 r ho0 h2)
   ·cases q2
 ·obtain⟨h,o0,e1,e2,e3⟩:=hsrc h1 h2;obtain⟨h',RO,c1,c2,c3⟩:=hsrc g1 g2;rw[hsub i h e1]at h3;rw[hsub j h' c1]at g3;have:=hs.eY h h' o0 RO r r' b e2 (by rw[<-mR e3];exact h2) h3 ((nW e3).1 h4) c2 (by rw[<-mR c3];exact g2) g3 ((nW c3).1 g4);subst this;exact k3 i j h e1 c1
 ·have hi':i<src.length:=by omega
  have hg:=bG hi';rw[NA src 0 i _ hg];cases hx:src[i]with
  |none=>rw[Option.getD_none,gV];exact Tf (by omega)
  |some h=>
   rw[hx]at hg;have:=(k2 i h hg).2 (by omega);rw[aR,this,gV];exact Tf (by omega)
def Goes(cx:Cx K)(n0:Nat)(st st':St K):Prop:=
 ∀(ρ:List Value)(S:Nat->Prop)(a:Act)(w:World),n0<=st.H.length->Sat cx ρ S a w st->n0<=st'.H.length/\∃ρ' S',Sat cx ρ' S' a w st'/\Step cx.D n0 ρ S st.H w ρ' S' st'.H w
theorem Goes.trans{cx:Cx K}{n0:Nat}{st st1 st2:St K}(a:Goes cx n0 st st1)(b:Goes cx n0 st1 st2):Goes cx n0 st st2:=fun ρ S a' w hn bN=>by
 obtain⟨h1,ρ1,S1,q1,q2⟩:=a ρ S a' w hn bN;obtain⟨h2,ρ2,S2,q3,q4⟩:=b ρ1 S1 a' w h1 q1;exact⟨h2,ρ2,S2,q3,q2.trans q4⟩
theorem NB{cx:Cx K}(hD:bT cx.D){n0:Nat}{src:List (Option Nat)}{keep:List Nat}{st st':St K}(h:rL n0 src keep st=some st'):st'.ok=st.ok/\dz st'.tm/\(dz st.tm->Goes cx n0 st st'):=by
 unfold rL at h;split at h
 ·rename_i hk;simp only[bD,bw]at hk;split at h
  ·rename_i vs H' hv hm;simp only[aD]at h;subst h;refine⟨rfl,anO hv,fun h0 ρ S a w hn bN=>?_⟩;obtain⟨s1,s2,s3,s4⟩:=anR hD bN.heap hn hk.1 hk.2 hm;refine⟨s4,_,S,⟨s1,Ta bN.slots.len.symm fun i t v x g1 g2 g3=>?_,bN.defers⟩,s2⟩;obtain⟨v0,q1,q2⟩:=(yp _ _ hv).2 i v g2;simp only[fL,g1,Md,aD]at q1;subst q1;refine uP hD s3 _ v x q2 ?_;rw[aH];cases hg:st.tm[t]? with
   |none=>exact .any x
   |some v1=>exact bN.slots.rep h0 hg g3
  ·cases h
 ·cases h
end Go.V
namespace Go.V
open Go
variable {K :dc}{ρ ρ':List Value}{S S':Nat->Prop}{w w':World}{H H':List (Ob K)}
theorem Ti{cx:Cx K}(hD:bT cx.D){st:St K}{a:Act}(h0:dz st.tm)(bN:Sat cx ρ S a w st):∀(rs:List ResultVar)(l:List (AV K)),uG cx st rs=some l->
 ∃vs:List Value,(rs.mapM fun r=>(match r with
  |.tmp t=>pure (a.tmps.getD t undef)
  |.cell p t=>do loadVar t (<-asAddr (a.tmps.getD p undef)):Sem Value)).run cx.P w=.ok vs w/\bB cx.D ρ S w l vs
 |[],l,h=>by
   simp only[uG,aD]at h;subst h;exact⟨[],by simp,.nil⟩
 |.tmp t::r,l,h=>by
   simp only[uG]at h;split at h
   ·rename_i l1 h1;simp only[aD]at h;subst h;obtain⟨vs,q1,q2⟩:=Ti hD h0 bN r l1 h1;refine⟨a.tmps.getD t undef::vs,?_,.cons ?_ q2⟩
    ·simp only[List.mapM_cons,Sem.run_bind,Sem.run_pure,Result.andThen_ok];rw[q1];rfl
    ·rw[aH,jc];cases hg:st.tm[t]? with
     |none=>exact .any _
     |some v=>
      obtain⟨x,hx,-⟩:=bN.slots.get hg;rw[hx];exact bN.slots.rep h0 hg hx
   ·cases h
 |.cell p t::r,l,h=>by
   simp only[uG]at h;split at h
   ·rename_i v l1 hv h1;simp only[aD]at h;subst h;obtain⟨vs,q1,q2⟩:=Ti hD h0 bN r l1 h1;have hrep:Rep cx.D ρ S w (st.tm.getD p .any) (a.tmps.getD p undef):=by
     rw[aH,jc];cases hg:st.tm[p]? with
     |none=>exact .any _
     |some v=>
      obtain⟨x,hx,-⟩:=bN.slots.get hg;rw[hx];exact bN.slots.rep h0 hg hx
    obtain⟨u,hu,hr⟩:=al4 hD bN.heap hv hrep;refine⟨u::vs,?_,.cons hr q2⟩;have hu':(do loadVar t (<-asAddr (a.tmps.getD p undef)):Sem Value).run cx.P w=.ok u w:=by
     generalize a.tmps.getD p undef=X at hu;unfold Instr.loadAt at hu;simp only[Sem.run_bind]at hu⊢;cases X<;>first
      |(simp[Instr.sureAddr,Result.andThen]at hu;done)
      |skip
     rename_i pa;cases pa with
     |none=>simp[Instr.sureAddr,Result.andThen,stuck]at hu
     |some pa=>simpa [Instr.sureAddr,asAddr]using hu
    simp only[List.mapM_cons,Sem.run_bind]at hu'⊢;rw[hu'];simp only[Result.andThen_ok];rw[q1];rfl
   ·cases h
theorem aFv{cx:Cx K}(hD:bT cx.D){fn:Func}{st:St K}{a:Act}(h0:dz st.tm)(bN:Sat cx ρ S a w st){v:AV K}(h:resV cx fn st=some v):∃u,(results fn a.tmps).run cx.P w=.ok u w/\Rep cx.D ρ S w v u:=by
 have key:∀l,uG cx st fn.results.toList=some l->∃vs:List Value,bB cx.D ρ S w l vs/\(results fn a.tmps).run cx.P w=.ok (if h:vs.toArray.size=1 then vs.toArray[0]else .tuple vs.toArray) w:=fun l hl=>by
  obtain⟨vs,q1,q2⟩:=Ti hD h0 bN _ l hl;refine⟨vs,q2,?_⟩;unfold results;rw[Array.mapM_eq_mapM_toList];simp only[map_eq_pure_bind,bind_assoc,pure_bind,Sem.run_bind];exact Eq.trans (xw (fun z:Result (List Value)=>z.andThen fun l w'=>Sem.run cx.P (pure (if h:l.toArray.size=1 then l.toArray[0]else Value.tuple l.toArray)) w') q1) rfl
 unfold resV at h;split at h
 ·rename_i v1 hl;simp only[aD]at h;subst h;obtain⟨vs,q1,q2⟩:=key _ hl;obtain⟨x,r,rfl,hx,hr⟩:=q1.gW;have:=hr.nI;subst this;exact⟨x,by rw[q2];rfl,qz bN.heap _ _ hx⟩
 ·rename_i l hne hl;simp only[aD]at h;subst h;obtain⟨vs,q1,q2⟩:=key _ hl;have q1':=Gg bN.heap _ _ q1;refine⟨.tuple vs.toArray,?_,.bQ q1'.1 q1'.2⟩;rw[q2,dif_neg];intro h1;have:l.length=1:=by rw[q1.1];simpa using h1
  match l,this with
  |[x],_=>exact hne x rfl
 ·cases h
end Go.V
namespace Go.V
open Go
variable {K :dc}{ρ ρ':List Value}{S S':Nat->Prop}{w w':World}{H H':List (Ob K)}
inductive qB (X Y:Type):Type 1 where
 |nx (x:X)
 |out (y:Y)
 |bad
 |br (b:Bool) (l r:qB X Y)
 |sum {A B:Type} (s:A⊕B) (f:A->qB X Y) (g:B->qB X Y)
noncomputable def qB.elim{X Y R:Type}(t:qB X Y)(nx:X->R)(out:Y->R)(bad:R):R:=
 qB.rec (motive:=fun _=>R) nx out bad (fun b _ _ l r=>cond b l r) (fun s _ _ f g=>Sum.rec (motive:=fun _=>R) f g s) t
theorem qB.cases{X Y:Type}(t:qB X Y):(∃x,∀(R:Type) nx out bad,t.elim (R:=R) nx out bad=nx x)\/(∃y,∀(R:Type) nx out bad,t.elim (R:=R) nx out bad=out y)\/∀(R:Type) nx out bad,t.elim (R:=R) nx out bad=bad:=by
 induction t with
 |nx x=>exact .inl ⟨x,fun _ _ _ _=>rfl⟩
 |out y=>exact .inr (.inl ⟨y,fun _ _ _ _=>rfl⟩)
 |bad=>exact .inr (.inr fun _ _ _ _=>rfl)
 |br b l r ihl ihr=>cases b;exact ihr;exact ihl
 |sum s f g ihf ihg=>
  cases s with
  |inl a=>exact ihf a
  |inr b=>exact ihg b
noncomputable def iter{X Y:Type}(step:X->qB X Y):Nat->X->Option Y
 |0,_=>none
 |n+1,x=>(step x).elim (iter step n) some none
structure my (K:dc) (X Y:Type) where
 n:Nat
 n0:Nat
 ins:List Nat
 outs:List Nat
 start:List (AV K)->List (Ob K)->Option X
 vals:X->List (AV K)
 aFy:X->List (Ob K)
 step:X->qB X Y
 chk:X->Bool
 fin:X->Y
 out:Y->{R:Type}->(Ex->List (AV K)->List (Ob K)->R)->R
variable {X Y:Type}
def my.st(M:my K X Y)(x:X):St K:=⟨ej (List.replicate M.n .any) M.ins (M.vals x),M.aFy x,true⟩
def my.fst(M:my K X Y)(y:Y):Ex×St K:=M.out y fun e vs Ho=>(e,⟨ej (List.replicate M.n .any) M.outs vs,Ho,true⟩)
def my.toD(M:my K X Y):bf K:={
 n:=M.n
 ins:=M.ins
 outs:=M.outs
 run vs H k:=match M.start vs H with
  |some x=>cond (M.chk x) (M.out (M.fin x) k) none
  |none=>none}
noncomputable def my.tree(M:my K X Y)(x:X):Option (St K⊕Ex×St K):=(M.step x).elim (fun x'=>some (.inl (M.st x'))) (fun y=>some (.inr (M.fst y))) none
theorem anT{cx:Cx K}(hD:bT cx.D){s s1:St K}(h:uJ cx s=some (true,s1)):s1.tm=s.tm/\s1.ok=s.ok/\s1.H.length=s.H.length/\∀(n0:Nat)(ρ:List Value)(S:Nat->Prop)(a:Act)(w:World),Sat cx ρ S a w s->Sat cx ρ S a w s1/\Step cx.D n0 ρ S s.H w ρ S s1.H w:=by
 unfold uJ at h;split at h
 ·simp only[aD,cw,qk]at h;subst h;exact⟨rfl,rfl,rfl,fun n0 ρ S a w hs=>⟨hs,Step.refl⟩⟩
 ·split at h
  ·rename_i H' b t hsh;simp only[aD,cw]at h;obtain⟨rfl,rfl⟩:=h;have hl:H'.length=s.H.length:=by
    unfold shut at hsh;split at hsh
    ·simp only[aD,cw]at hsh;rw[<-hsh.1]
    ·cases hsh
   refine⟨rfl,rfl,hl,fun n0 ρ S a w hs=>?_⟩;obtain⟨g1,g2,-⟩:=amV (n0:=n0) hD hs.heap hsh;exact⟨⟨g1,hs.slots,hs.defers⟩,g2⟩
  ·cases h
theorem anU{cx:Cx K}(hD:bT cx.D)(hc:aI cx)(hm:cx.P.follows .mixedOrders=true){c:Code}(hl:iu cx c){n0:Nat}{keep outs:List Nat}{st:St K}{r:St K⊕Ex×St K}(h:ML cx n0 keep outs c st=some r)(h0:dz st.tm):
 st.ok=true/\match r with
   |.inl st'=>dz st'.tm/\Tr cx n0 c st .normal st'
   |.inr (e,st')=>e≠.normal/\Tr cx n0 c st e st':=by
 unfold ML at h;obtain⟨e,s,h1,h2,h3⟩:=qA hD hc hm c hl _ _ _ h;cases hok:s.ok with
 |false=>rw[hok]at h1;cases h1
 |true=>
  rw[hok]at h1;simp only[cr]at h1;obtain⟨n1,htr⟩:=h3 hok h0;refine⟨h2 hok,?_⟩;have key:∀keep' s1 s',uJ cx s=some (true,s1)->ye n0 keep' s1=some s'->dz s'.tm/\Tr cx n0 c st e s':=fun keep' s1 s' hcl hn=>by
   obtain⟨g1,g2⟩:dz s'.tm/\(dz s1.tm->Goes cx n0 s1 s'):=(NB (cx:=cx) hD hn).2;obtain⟨c1,c2,c3,c4⟩:=anT hD hcl;refine⟨g1,fun ρ S a w hn0 bN=>wp_mono (htr n0 ρ S a w hn0 bN) ?_⟩
   rintro e' a' w' ⟨he,hn1,ρ1,S1,fG,hst1⟩
   obtain⟨aFz,aFA⟩:=c4 n0 ρ1 S1 a' w' fG;obtain⟨hn2,ρ2,S2,GH,hst2⟩:=g2 (by rw[c1];exact n1) ρ1 S1 a' w' (by rw[c3];exact hn1) aFz;exact⟨he,hn2,ρ2,S2,GH,(hst1.trans aFA).trans hst2⟩
  cases e with
  |normal=>
   dsimp only at h1;split at h1
   ·rename_i b s1 hcl;cases b with
    |false=>cases h1
    |true=>
    simp only[cr]at h1;split at h1
    ·rename_i s' hn;simp only[aD]at h1;subst h1;exact key _ _ _ hcl hn
    ·cases h1
   ·cases h1
  |exit id=>
   dsimp only at h1;split at h1
   ·rename_i b s1 hcl;cases b with
    |false=>cases h1
    |true=>
    simp only[cr]at h1;split at h1
    ·rename_i s' hn;simp only[aD]at h1;subst h1;exact⟨by simp,(key _ _ _ hcl hn).2⟩
    ·cases h1
   ·cases h1
  |ret=>
   dsimp only at h1;split at h1
   ·rename_i b s1 hcl;cases b with
    |false=>cases h1
    |true=>
    simp only[cr]at h1;split at h1
    ·rename_i s' hn;simp only[aD]at h1;subst h1;exact⟨by simp,(key _ _ _ hcl hn).2⟩
    ·cases h1
   ·cases h1
theorem anV{cx:Cx K}(hD:bT cx.D)(hc:aI cx)(hm:cx.P.follows .mixedOrders=true){c:Code}(hl:iu cx c){M:my K X Y}(hr:∀x,ML cx M.n0 M.ins M.outs c (M.st x)=M.tree x){ρ0:List Value}{S0:Nat->Prop}{H0:List (Ob K)}{w0:World}{y:Y}:
 ∀(n:Nat)(x:X),iter M.step n x=some y->dz (M.st x).tm->∀(ρ:List Value)(S:Nat->Prop)(a:Act)(w:World),M.n0<=(M.st x).H.length->Sat cx ρ S a w (M.st x)->Step cx.D M.n0 ρ0 S0 H0 w0 ρ S (M.st x).H w->
  Code.rounds cx.P c (fun e' a' w'=>e'=(M.fst y).1.nO/\M.n0<=(M.fst y).2.H.length/\∃ρ' S',Sat cx ρ' S' a' w' (M.fst y).2/\Step cx.D M.n0 ρ0 S0 H0 w0 ρ' S' (M.fst y).2.H w') n a w
 |0,x,h,_,_,_,_,_,_,_,_=>by simp[iter]at h
 |n+1,x,h,h0,ρ,S,a,w,hn,bN,hst=>by
  have hrx:=hr x;rw[rounds_succ];simp only[iter]at h;unfold my.tree at hrx;rcases(M.step x).cases with⟨x',hx⟩|⟨y',hy⟩|hb
  ·rw[hx]at h hrx;obtain⟨-,n1,htr⟩:=anU hD hc hm hl hrx h0;refine wp_mono (htr ρ S a w hn bN) ?_
   rintro e' a' w' ⟨rfl,hn1,ρ1,S1,fG,hst1⟩
   exact anV hD hc hm hl hr n x' h n1 ρ1 S1 a' w' hn1 fG (hst.trans hst1)
  ·rw[hy]at h hrx;simp only[aD]at h;subst h;obtain⟨-,hne,htr⟩:=anU hD hc hm hl hrx h0;refine wp_mono (htr ρ S a w hn bN) ?_
   rintro e' a' w' ⟨rfl,hn1,ρ1,S1,fG,hst1⟩
   have:∀(e:Ex),e≠.normal->∀(N:Act->World->Prop)(Q:Exit->Act->World->Prop),Q e.nO a' w'->Exit.then N Q e.nO a' w':=fun e he N Q hq=>by
    cases e with
    |normal=>exact absurd rfl he
    |exit id=>exact hq
    |ret=>exact hq
   exact this _ hne _ _ ⟨rfl,hn1,ρ1,S1,fG,hst.trans hst1⟩
  ·rw[hb]at h;cases h
theorem my.ok{cx:Cx K}(hD:bT cx.D)(hc:aI cx)(hm:cx.P.follows .mixedOrders=true){c:Code}(hl:iu cx c)(M:my K X Y)(hr:∀x,ML cx M.n0 M.ins M.outs c (M.st x)=M.tree x)
 (hs:∀vs Hi x,M.start vs Hi=some x->Hi.length=M.n0/\Goes cx M.n0 ⟨ej (List.replicate M.n .any) M.ins vs,Hi,true⟩ (M.st x)) (hno:∀x,(M.vals x).all (fun v=> !v.jF)=true)
 (hf:∀x,M.chk x=true->∃n,iter M.step n x=some (M.fin x)) (ho:∀y,∃e vs Ho,∀(R:Type)(k:Ex->List (AV K)->List (Ob K)->R),M.out y k=k e vs Ho):bg cx c M.toD:=by
 intro vals Hi R k r h;simp only[my.toD]at h;split at h
 ·rename_i x hx;cases Tj:M.chk x with
  |false=>rw[Tj]at h;cases h
  |true=>
   rw[Tj]at h;simp only[cr]at h;obtain⟨n,hn⟩:=hf x Tj;obtain⟨e,vs,Ho,hout⟩:=ho (M.fin x);rw[hout]at h;refine⟨e,vs,Ho,h,?_⟩;obtain⟨hlen,hgo⟩:=hs vals Hi x hx;have aFB:M.fst (M.fin x)=(e,⟨ej (List.replicate M.n .any) M.outs vs,Ho,true⟩):=hout _ _;have h0:dz (M.st x).tm:=fun t g b v e=>by
    rcases AX M.ins (M.vals x) _ t _ e with h1|⟨i,-,h2⟩
    ·rw[ql]at h1;split at h1<;>cases h1
    ·have:=dr.1 (hno x) _ (jS h2);simp[AV.jF]at this
   intro ρ S a w hn0 bN;rw[hlen]at hn0⊢;obtain⟨hn1,ρ1,S1,fG,hst1⟩:=hgo ρ S a w (by show M.n0<=Hi.length;omega) bN;have:=anV hD hc hm hl hr n x hn h0 ρ1 S1 a w hn1 fG hst1;rw[aFB]at this;exact wp_loop_rounds n this
 ·cases h
end Go.V
namespace Go.V
open Go
variable {K :dc}{D:bL K}{ρ ρ':List Value}{S S':Nat->Prop}{w w':World}{H H':List (Ob K)}
inductive Sh (K:dc) where
 |any
 |int (k:IntKind)
 |bool
 |str
 |ah (c:K.U)
 |el (c:K.U)
 |rp (c:K.U) (off:Nat)
 |dt
 |di
 |ptr (h off:Nat)
 |own (h:Nat)
 |fn (g:Nat) (caps:List (Sh K))
 |agg (l:List (Sh K))
 |bQ (l:List (Sh K))
 |np (h:Nat)
 |ep (h:Nat) (c:K.U) (off:Nat)
inductive bk (K:dc) where
 |dead
 |box (l:List (Sh K))
 |el (c:K.U)
 |arr (c:K.U)
 |gY (c:K.U)
 |tree (c:K.U)
mutual
def Sh.T:Sh K->Type
 |.int _=>Int
 |.bool=>Bool
 |.str=>List UInt8
 |.ah c=>List (K.El c)
 |.el c=>K.El c
 |.rp c _=>K.El c
 |.ep _ _ _=>Nat
 |.fn _ l=>Sh.Ts l
 |.agg l=>Sh.Ts l
 |.bQ l=>Sh.Ts l
 |_=>Unit
def Sh.Ts:List (Sh K)->Type
 |[]=>Unit
 |s::r=>Sh.T s×Sh.Ts r
end
def bk.T:bk K->Type
 |.dead=>Unit
 |.box l=>Sh.Ts l
 |.el c=>K.El c
 |.arr c=>List (K.El c)
 |.gY c=>List (K.El c)
 |.tree c=>List (K.El c)
def bk.Ts:List (bk K)->Type
 |[]=>Unit
 |s::r=>bk.T s×bk.Ts r
mutual
def Sh.enc(D:bL K):(s:Sh K)->s.T->AV K
 |.any,_=>.any
 |.int k,n=>.int k n
 |.bool,b=>.bool b
 |.str,s=>.str s
 |.ah c,l=>.ah c l
 |.el c,x=>.agg (D.cells c x)
 |.rp c o,x=>.rp c x o
 |.dt,_=>.dt
 |.di,_=>.di
 |.ptr h o,_=>.ptr h o
 |.own h,_=>.sl h
 |.np h,_=>.np h
 |.ep h c o,i=>.ep h (K.sz c) i o
 |.fn g l,x=>.fn g (Sh.encs D l x)
 |.agg l,x=>.agg (Sh.encs D l x)
 |.bQ l,x=>.bQ (Sh.encs D l x)
def Sh.encs(D:bL K):(l:List (Sh K))->Sh.Ts l->List (AV K)
 |[],_=>[]
 |s::r,x=>Sh.enc D s x.1::Sh.encs D r x.2
end
def bk.enc(D:bL K):(s:bk K)->s.T->Ob K
 |.dead,_=>.dead
 |.box l,x=>.box (Sh.encs D l x)
 |.el c,x=>.box (D.cells c x)
 |.arr c,x=>.arr c x
 |.gY c,x=>.gY c x
 |.tree c,x=>.tree c x
def bk.encs(D:bL K):(l:List (bk K))->bk.Ts l->List (Ob K)
 |[],_=>[]
 |s::r,x=>bk.enc D s x.1::bk.encs D r x.2
def AV.getInt(k:IntKind):AV K->Option Int
 |.int k' n=>if k=k' then some n else none
 |_=>none
def AV.getBool:AV K->Option Bool
 |.bool b=>some b
 |_=>none
def AV.Tm:AV K->Option (List UInt8)
 |.str s=>some s
 |_=>none
def AV.NC:AV K->Option (List (AV K))
 |.agg l=>some l
 |_=>none
def AV.Tn:AV K->Option (List (AV K))
 |.bQ l=>some l
 |_=>none
def AV.getFn(g:Nat):AV K->Option (List (AV K))
 |.fn g' l=>if g=g' then some l else none
 |_=>none
def AV.To(c:K.U)(o:Nat):AV K->Option (K.El c)
 |.rp c' x o'=>if o=o' then match K.kx c' c with
   |.isTrue h=>some (h ▸ x)
   |.isFalse _=>none else none
 |_=>none
def AV.Tq:AV K->Option Unit
 |.dt=>some ()
 |_=>none
def AV.Tt:AV K->Option Unit
 |.di=>some ()
 |_=>none
def AV.Tu(h o:Nat):AV K->Option Unit
 |.ptr h' o'=>if h=h' then if o=o' then some ()else none else none
 |_=>none
def AV.Tv(h:Nat):AV K->Option Unit
 |.sl h'=>if h=h' then some ()else none
 |_=>none
def AV.Tz(h:Nat):AV K->Option Unit
 |.np h'=>if h=h' then some ()else none
 |_=>none
def AV.TA(h:Nat)(c:K.U)(o:Nat):AV K->Option Nat
 |.ep h' st i o'=>if h=h' then if K.sz c=st then if o=o' then some i else none else none else none
 |_=>none
theorem AV.aFC{h:Nat}{c:K.U}{o:Nat}{v:AV K}{n:Nat}(hh:v.TA h c o=some n):v=.ep h (K.sz c) n o:=by
 unfold AV.TA at hh;split at hh
 ·split at hh
  ·split at hh
   ·split at hh
    ·rename_i h1 h2 h3;subst h1;subst h2;subst h3;simp only[aD]at hh;subst hh;rfl
    ·cases hh
   ·cases hh
  ·cases hh
 ·cases hh
theorem AV.TB{k:IntKind}{v:AV K}{n:Int}(h:v.getInt k=some n):v=.int k n:=by
 unfold AV.getInt at h;split at h
 ·split at h
  ·rename_i hk;subst hk;simp only[aD]at h;subst h;rfl
  ·cases h
 ·cases h
theorem AV.TC{v:AV K}{n:Bool}(h:v.getBool=some n):v=.bool n:=by
 unfold AV.getBool at h;split at h
 ·simp only[aD]at h;subst h;rfl
 ·cases h
theorem AV.TD{v:AV K}{n:List UInt8}(h:v.Tm=some n):v=.str n:=by
 unfold AV.Tm at h;split at h
 ·simp only[aD]at h;subst h;rfl
 ·cases h
theorem AV.anW{v:AV K}{n:List (AV K)}(h:v.NC=some n):v=.agg n:=by
 unfold AV.NC at h;split at h
 ·simp only[aD]at h;subst h;rfl
 ·cases h
theorem AV.aFD{v:AV K}{n:List (AV K)}(h:v.Tn=some n):v=.bQ n:=by
 unfold AV.Tn at h;split at h
 ·simp only[aD]at h;subst h;rfl
 ·cases h
theorem AV.aFE{g:Nat}{v:AV K}{n:List (AV K)}(h:v.getFn g=some n):v=.fn g n:=by
 unfold AV.getFn at h;split at h
 ·split at h
  ·rename_i hk;subst hk;simp only[aD]at h;subst h;rfl
  ·cases h
 ·cases h
theorem AV.aFF{c:K.U}{o:Nat}{v:AV K}{n:K.El c}(h:v.To c o=some n):v=.rp c n o:=by
 unfold AV.To at h;split at h
 ·split at h
  ·rename_i hk;subst hk;split at h
   ·rename_i he _;subst he;simp only[aD]at h;subst h;rfl
   ·cases h
  ·cases h
 ·cases h
theorem AV.aFG{v:AV K}{n:Unit}(h:v.Tq=some n):v=.dt:=by
 unfold AV.Tq at h;split at h
 ·rfl
 ·cases h
theorem AV.aFH{v:AV K}{n:Unit}(h:v.Tt=some n):v=.di:=by
 unfold AV.Tt at h;split at h
 ·rfl
 ·cases h
theorem AV.aFI{a o:Nat}{v:AV K}{n:Unit}(h:v.Tu a o=some n):v=.ptr a o:=by
 unfold AV.Tu at h;split at h
 ·split at h
  ·split at h
   ·rename_i h1 h2;subst h1;subst h2;rfl
   ·cases h
  ·cases h
 ·cases h
theorem AV.aFJ{a:Nat}{v:AV K}{n:Unit}(h:v.Tv a=some n):v=.sl a:=by
 unfold AV.Tv at h;split at h
 ·split at h
  ·rename_i h1;subst h1;rfl
  ·cases h
 ·cases h
theorem AV.anX{a:Nat}{v:AV K}{n:Unit}(h:v.Tz a=some n):v=.np a:=by
 unfold AV.Tz at h;split at h
 ·split at h
  ·rename_i h1;subst h1;rfl
  ·cases h
 ·cases h
def sure{α:Type}:Option (α×Bool)->Option α
 |some (x,true)=>some x
 |_=>none
theorem anY{α:Type}{o:Option (α×Bool)}{x:α}(h:sure o=some x):o=some (x,true):=by
 unfold sure at h;split at h
 ·simp only[aD]at h;subst h;rfl
 ·cases h
mutual
def Sh.dec(D:bL K):(s:Sh K)->AV K->Option s.T
 |.any,_=>some ()
 |.int k,v=>v.getInt k
 |.bool,v=>v.getBool
 |.str,v=>v.Tm
 |.ah c,v=>elems [] c v
 |.el c,v=>match v.NC with
   |some l=>sure (D.dec c l)
   |none=>none
 |.rp c o,v=>v.To c o
 |.dt,v=>v.Tq
 |.di,v=>v.Tt
 |.ptr h o,v=>v.Tu h o
 |.own h,v=>v.Tv h
 |.np h,v=>v.Tz h
 |.ep h c o,v=>v.TA h c o
 |.fn g l,v=>match v.getFn g with
   |some l'=>Sh.eg D l l'
   |none=>none
 |.agg l,v=>match v.NC with
   |some l'=>Sh.eg D l l'
   |none=>none
 |.bQ l,v=>match v.Tn with
   |some l'=>Sh.eg D l l'
   |none=>none
def Sh.eg(D:bL K):(l:List (Sh K))->List (AV K)->Option (Sh.Ts l)
 |[],[]=>some ()
 |s::r,v::l=>match Sh.dec D s v,Sh.eg D r l with
  |some x,some y=>some (x,y)
  |_,_=>none
 |_,_=>none
end
def Ob.AY:Ob K->Option (List (AV K))
 |.box l=>some l
 |_=>none
def Ob.TE(c:K.U):Ob K->Option (List (K.El c))
 |.arr c' l=>match K.kx c' c with
   |.isTrue h=>some (h ▸ l)
   |.isFalse _=>none
 |_=>none
def Ob.TF(c:K.U):Ob K->Option (List (K.El c))
 |.gY c' l=>match K.kx c' c with
   |.isTrue h=>some (h ▸ l)
   |.isFalse _=>none
 |_=>none
def Ob.TG(c:K.U):Ob K->Option (List (K.El c))
 |.tree c' l=>match K.kx c' c with
   |.isTrue h=>some (h ▸ l)
   |.isFalse _=>none
 |_=>none
theorem Ob.anZ{v:Ob K}{n:List (AV K)}(h:v.AY=some n):v=.box n:=by
 unfold Ob.AY at h;split at h
 ·simp only[aD]at h;subst h;rfl
 ·cases h
theorem Ob.aFK{c:K.U}{v:Ob K}{n:List (K.El c)}(h:v.TE c=some n):v=.arr c n:=by
 unfold Ob.TE at h;split at h
 ·split at h
  ·rename_i he _;subst he;simp only[aD]at h;subst h;rfl
  ·cases h
 ·cases h
theorem Ob.aFL{c:K.U}{v:Ob K}{n:List (K.El c)}(h:v.TF c=some n):v=.gY c n:=by
 unfold Ob.TF at h;split at h
 ·split at h
  ·rename_i he _;subst he;simp only[aD]at h;subst h;rfl
  ·cases h
 ·cases h
theorem Ob.aFM{c:K.U}{v:Ob K}{n:List (K.El c)}(h:v.TG c=some n):v=.tree c n:=by
 unfold Ob.TG at h;split at h
 ·split at h
  ·rename_i he _;subst he;simp only[aD]at h;subst h;rfl
  ·cases h
 ·cases h
def bk.dec(D:bL K):(s:bk K)->Ob K->Option s.T
 |.dead,_=>some ()
 |.box l,o=>match o.AY with
   |some cs=>Sh.eg D l cs
   |none=>none
 |.el c,o=>match o.AY with
   |some cs=>sure (D.dec c cs)
   |none=>none
 |.arr c,o=>o.TE c
 |.gY c,o=>o.TF c
 |.tree c,o=>o.TG c
def bk.eg(D:bL K):(l:List (bk K))->List (Ob K)->Option (bk.Ts l)
 |[],[]=>some ()
 |s::r,v::l=>match bk.dec D s v,bk.eg D r l with
  |some x,some y=>some (x,y)
  |_,_=>none
 |_,_=>none
theorem aFN(hD:bT D){c:K.U}{v:AV K}{l:List (K.El c)}(h:elems [] c v=some l){u:Value}(hr:Rep D ρ S w v u):Rep D ρ S w (.ah c l) u:=by
 unfold elems at h;split at h
 ·simp only[aD]at h;subst h;cases hr;exact .fe _ _
 ·split at h
  ·rename_i he _;subst he;simp only[aD]at h;subst h;exact hr
  ·cases h
 ·simp at h
 ·cases h
mutual
theorem Sh.AZ(hD:bT D):∀(s:Sh K)(v:AV K)(x:s.T),Sh.dec D s v=some x->∀u,Rep D ρ S w v u->Rep D ρ S w (Sh.enc D s x) u
 |.any,v,x,h,u,hr=>.any u
 |.int k,v,x,h,u,hr=>by rw[AV.TB h]at hr;exact hr
 |.bool,v,x,h,u,hr=>by rw[AV.TC h]at hr;exact hr
 |.str,v,x,h,u,hr=>by rw[AV.TD h]at hr;exact hr
 |.ah c,v,x,h,u,hr=>aFN hD h hr
 |.el c,v,x,h,u,hr=>by
   unfold Sh.dec at h;split at h
   ·rename_i l hl;rw[AV.anW hl]at hr;cases hr with
    |agg hl hh=>
     have:=hD.dec c _ _ (anY h) ρ S w _ ⟨hl,hh⟩;exact .agg this.1 this.2
   ·cases h
 |.rp c o,v,x,h,u,hr=>by rw[AV.aFF h]at hr;exact hr
 |.dt,v,x,h,u,hr=>by rw[AV.aFG h]at hr;exact hr
 |.di,v,x,h,u,hr=>by rw[AV.aFH h]at hr;exact hr
 |.ptr a b,v,x,h,u,hr=>by rw[AV.aFI h]at hr;exact hr
 |.own a,v,x,h,u,hr=>by rw[AV.aFJ h]at hr;exact hr
 |.np a,v,x,h,u,hr=>by rw[AV.anX h]at hr;exact hr
 |.ep a c o,v,x,h,u,hr=>by rw[AV.aFC h]at hr;exact hr
 |.fn g l,v,x,h,u,hr=>by
   unfold Sh.dec at h;split at h
   ·rename_i l' hl;rw[AV.aFE hl]at hr;cases hr with
    |fn hl hh=>
     have:=Sh.uV hD l _ x h _ ⟨hl,hh⟩;exact .fn this.1 this.2
   ·cases h
 |.agg l,v,x,h,u,hr=>by
   unfold Sh.dec at h;split at h
   ·rename_i l' hl;rw[AV.anW hl]at hr;cases hr with
    |agg hl hh=>
     have:=Sh.uV hD l _ x h _ ⟨hl,hh⟩;exact .agg this.1 this.2
   ·cases h
 |.bQ l,v,x,h,u,hr=>by
   unfold Sh.dec at h;split at h
   ·rename_i l' hl;rw[AV.aFD hl]at hr;cases hr with
    |bQ hl hh=>
     have:=Sh.uV hD l _ x h _ ⟨hl,hh⟩;exact .bQ this.1 this.2
   ·cases h
theorem Sh.uV(hD:bT D):∀(l:List (Sh K))(vs:List (AV K))(x:Sh.Ts l),Sh.eg D l vs=some x->∀us,bB D ρ S w vs us->bB D ρ S w (Sh.encs D l x) us
 |[],vs,x,h,us,hr=>by
   cases vs with
   |nil=>exact hr
   |cons v r=>unfold Sh.eg at h;cases h
 |s::r,vs,x,h,us,hr=>by
  cases vs with
  |nil=>unfold Sh.eg at h;cases h
  |cons v l=>
   unfold Sh.eg at h;split at h
   ·rename_i a b h1 h2;have h:=jl h;subst h;obtain⟨u,t,rfl,g1,g2⟩:=hr.gW;exact .cons (Sh.AZ hD s v a h1 u g1) (Sh.uV hD r l b h2 t g2)
   ·cases h
end
theorem aFO{l:List (AV K)}(h:ie l=true):kW l=false:=by
 cases l with
 |nil=>rfl
 |cons v r=>
  simp only[ie,bD]at h;cases v<;>first|rfl|(simp[AV.closed]at h)
theorem aFP{l:List (Sh K)}{cs:List (AV K)}{x:Sh.Ts l}(h:Sh.eg D l cs=some x)(hn:kW (Sh.encs D l x)=true):kW cs=true:=by
 cases l with
 |nil=>unfold Sh.encs at hn;cases hn
 |cons s r=>
  cases cs with
  |nil=>unfold Sh.eg at h;cases h
  |cons v vs=>
   unfold Sh.eg at h;split at h
   ·rename_i a b h1 h2;have h:=jl h;subst h;change kW (Sh.enc D s a::Sh.encs D r b)=true at hn;cases s
    all_goals first
     |exact absurd (show false=true from hn) (by simp)
     |(have h3:=AV.anX (v:=v) h1;rw[h3];rfl)
   ·cases h
theorem bk.AZ(hD:bT D)(s:bk K)(o:Ob K)(x:s.T)(h:bk.dec D s o=some x):((bk.enc D s x).live=true->o.live=true/\∀w r b,cD D w (bk.enc D s x) r b->cD D w o r b)/\∀r,gX D ρ S w o r->gX D ρ S w (bk.enc D s x) r:=by
 cases s with
 |dead=>exact⟨fun h=>Bool.noConfusion h,fun _ _=>trivial⟩
 |box l=>
  change(match o.AY with
   |some cs=>Sh.eg D l cs
   |none=>none)=some x at h
  split at h
  ·rename_i cs hcs;rw[Ob.anZ hcs];refine⟨fun _=>⟨rfl,fun _ _ _ h=>h⟩,fun r hh=>?_⟩;obtain⟨b,vs,T,e,h1,h2,h3⟩:=hh;exact⟨b,vs,T,e,h1,Sh.uV hD l _ x h _ h2,fun hn=>h3 (aFP h hn)⟩
  ·cases h
 |el c=>
  change(match o.AY with
   |some cs=>sure (D.dec c cs)
   |none=>none)=some x at h
  split at h
  ·rename_i cs hcs;rw[Ob.anZ hcs];refine⟨fun _=>⟨rfl,fun _ _ _ h=>h⟩,fun r hh=>?_⟩;obtain⟨b,vs,T,e,h1,h2,h3⟩:=hh;exact⟨b,vs,T,e,h1,hD.dec c _ _ (anY h) ρ S w _ h2,fun hn=>by rw[aFO (hD.closed c x)]at hn;cases hn⟩
  ·cases h
 |arr c=>rw[Ob.aFK h];exact⟨fun h=>⟨h,fun _ _ _ h=>h⟩,fun _ h=>h⟩
 |gY c=>rw[Ob.aFL h];exact⟨fun h=>⟨h,fun _ _ _ h=>h⟩,fun _ h=>h⟩
 |tree c=>rw[Ob.aFM h];exact⟨fun h=>⟨h,fun _ _ _ h=>h⟩,fun _ h=>h⟩
theorem bk.ND:∀(l:List (bk K))(os:List (Ob K))(x:bk.Ts l),bk.eg D l os=some x->(bk.encs D l x).length=os.length/\∀(i:Nat) o',(bk.encs D l x)[i]?=some o'->∃o,os[i]?=some o/\∃(s:bk K)(y:s.T),bk.dec D s o=some y/\o'=bk.enc D s y
 |[],os,x,h=>by
   cases os with
   |nil=>exact⟨rfl,fun i o' h=>by simp[bk.encs]at h⟩
   |cons v r=>simp[bk.eg]at h
 |s::r,os,x,h=>by
  cases os with
  |nil=>simp[bk.eg]at h
  |cons v l=>
   simp only[bk.eg]at h;split at h
   ·rename_i a b h1 h2;have h:=jl h;subst h;obtain⟨g1,g2⟩:=bk.ND r l b h2;refine⟨by simp only[bk.encs,aZ];rw[g1],fun i o' hi=>?_⟩;cases i with
    |zero=>simp[bk.encs]at hi;exact⟨v,rfl,s,a,h1,hi.symm⟩
    |succ i=>simp[bk.encs]at hi;obtain⟨o,q⟩:=g2 i o' hi;exact⟨o,by simpa using q.1,q.2⟩
   ·cases h
structure Wk (D:bL K) (vs:List (AV K)) (H:List (Ob K)) (vs':List (AV K)) (H':List (Ob K)):Prop where
 len:H'.length=H.length
 TI:∀ρ S w us,bB D ρ S w vs us->bB D ρ S w vs' us
 heap:∀ρ S w,aU D ρ S w H->aU D ρ S w H'
 own:∀w ρ b,Own D w ρ H' b->Own D w ρ H b
theorem Wk.step{vs vs':List (AV K)}{n0:Nat}(h:Wk D vs H vs' H'):Step D n0 ρ S H w ρ S H' w:=
 ⟨rfl,rfl,rfl,eL _,fun _ _ _=>rfl,fun b hb=>.inl (h.own _ _ b hb),fun _ h=>h,fun _ h=>.inl h,fun _ _=>rfl⟩
theorem bk.an0{l:List (bk K)}{os:List (Ob K)}{x:bk.Ts l}(hD:bT D)(h:bk.eg D l os=some x)(w:World)(ρ:List Value)(b:Nat)(hb:Own D w ρ (bk.encs D l x) b):Own D w ρ os b:=by
 obtain⟨i,o',r,h1,h2,h3,h4⟩:=hb;obtain⟨o,q1,s,y,q2,rfl⟩:=(bk.ND l os x h).2 i o' h1;have q3:=(bk.AZ (ρ:=ρ) (S:=fun _=>False) (w:=w) hD s o y q2).1 h2;exact⟨i,o,r,q1,q3.1,h3,q3.2 _ _ _ h4⟩
theorem bk.uV{l:List (bk K)}{os:List (Ob K)}{x:bk.Ts l}(hD:bT D)(h:bk.eg D l os=some x)(hs:aU D ρ S w os):aU D ρ S w (bk.encs D l x):=by
 obtain⟨g1,g2⟩:=bk.ND l os x h;refine⟨by rw[g1];exact hs.len,fun i o' r h1 h2=>?_,fun i j o o' r r' b h1 h2 h3 h4 c1 c2 c3 c4=>?_,fun b hb=>hs.lt b (bk.an0 hD h w ρ b hb),hs.slt,hs.base⟩
 ·obtain⟨o,q1,s,y,q2,rfl⟩:=g2 i o' h1;exact(bk.AZ hD s o y q2).2 r (hs.ob i o r q1 h2)
 ·obtain⟨o1,q1,s,y,q2,rfl⟩:=g2 i o h1;obtain⟨o2,p1,s',y',p2,rfl⟩:=g2 j o' c1;have a1:=(bk.AZ (ρ:=ρ) (S:=S) (w:=w) hD s o1 y q2).1 h2;have a2:=(bk.AZ (ρ:=ρ) (S:=S) (w:=w) hD s' o2 y' p2).1 c2;exact hs.eY i j o1 o2 r r' b q1 a1.1 h3 (a1.2 _ _ _ h4) p1 a2.1 c3 (a2.2 _ _ _ c4)
structure aM (K:dc) where
 vs:List (Sh K)
 os:List (bk K)
def aM.T(c:aM K):Type:=Sh.Ts c.vs×bk.Ts c.os
def aM.dec(D:bL K)(c:aM K)(vs:List (AV K))(H:List (Ob K)):Option c.T:=
 match Sh.eg D c.vs vs,bk.eg D c.os H with
 |some a,some b=>some (a,b)
 |_,_=>none
def aM.lG(D:bL K)(c:aM K)(x:c.T):List (AV K):=Sh.encs D c.vs x.1
def aM.jv(D:bL K)(c:aM K)(x:c.T):List (Ob K):=bk.encs D c.os x.2
theorem aM.GI(hD:bT D){c:aM K}{vs:List (AV K)}{x:c.T}(h:c.dec D vs H=some x):Wk D vs H (c.lG D x) (c.jv D x):=by
 unfold aM.dec at h;split at h
 ·rename_i a b h1 h2;have h:=jl h;subst h;exact⟨(bk.ND c.os H b h2).1,fun ρ S w us hr=>Sh.uV hD c.vs vs a h1 us hr,fun ρ S w hs=>bk.uV hD h2 hs,fun w ρ b' hb=>bk.an0 hD h2 w ρ b' hb⟩
 ·cases h
end Go.V
namespace Go.V
open Go
variable {K :dc}{ρ ρ':List Value}{S S':Nat->Prop}{w w':World}{H H':List (Ob K)}
def oe(dp:K.U->Bool)(H:List (Ob K))(cs:List (List (Option K.U))):AV K->AV K×List (Ob K)
 |.bQ l=>(.bQ (fK dp H cs l).1,(fK dp H cs l).2)
 |v=>((fK dp H cs [v]).1.headD v,(fK dp H cs [v]).2)
def forgets:List Bool->List (AV K)->List (AV K)
 |[],vs=>vs
 |_::_,[]=>[]
 |true::r,_::vs=>.any::forgets r vs
 |false::r,v::vs=>v::forgets r vs
def NF:List Bool->AV K->AV K
 |[],v=>v
 |l,.bQ vs=>.bQ (forgets l vs)
 |true::_,_=>.any
 |false::_,v=>v
theorem TJ{D:bL K}:∀(l:List Bool)(vs:List (AV K))(us:List Value),bB D ρ S w vs us->bB D ρ S w (forgets l vs) us
 |[],vs,us,h=>by simpa only[forgets]using h
 |_::_,[],us,h=>by simpa only[forgets]using h
 |b::r,v::vs,us,h=>by
  obtain⟨u,t,rfl,h1,h2⟩:=h.gW;cases b
  ·exact .cons h1 (TJ r vs t h2)
  ·exact .cons (.any u) (TJ r vs t h2)
theorem aFQ{D:bL K}(l:List Bool)(v:AV K)(u:Value)(h:Rep D ρ S w v u):Rep D ρ S w (NF l v) u:=by
 unfold NF;split
 ·exact h
 ·cases h with
  |bQ hl hh=>
   have:=TJ l _ _ ⟨hl,hh⟩;exact .bQ this.1 this.2
 ·exact .any _
 ·exact h
def TK(cx:Cx K)(fz:Bool)(fn:Func)(n0:Nat){R:Type}(fin:AV K->List (Ob K)->Option R)(e:Ex)(st:St K):Option R:=
 match e with
 |.exit _=>none
 |_=>match resV cx fn st with
  |some v0=>let v:=NF cx.J4 v0
   cond st.ok (cond fz (match MM cx.mv n0 (eC (jn st.H (hands v)) v) (jn st.H (hands v))with
    |some (v',H')=>fin v' H'
    |none=>none) (match MM cx.mv n0 (oe cx.deep st.H cx.fl v).1 (oe cx.deep st.H cx.fl v).2 with
    |some (v',H')=>fin v' H'
    |none=>none)) none
  |none=>none
def JO(cx:Cx K)(fz:Bool)(fn:Func)(args:List (AV K))(H:List (Ob K)){R:Type}(fin:AV K->List (Ob K)->Option R):Option R:=
 match fn.body with
 |some c=>fQ cx c ⟨args++List.replicate (fn.ntmps-args.length) .any,H,true⟩ (TK cx fz fn H.length fin)
 |none=>none
structure an1 (P:Program) (f:FuncId) (fn:Func):Prop where
 get:P.funcs[f]?=some fn
 name:(fn.name== "runtime.NumGoroutine")=false
theorem TL{D:bL K}(dp:K.U->Bool):∀(css:List (List (Option K.U)))(l:List (AV K))(H:List (Ob K))(ρ:List Value)(vs:List Value),aU D ρ S w H->bB D ρ S w l vs->AB D S w H ρ vs (fK dp H css l)
 |[],l,H,ρ,vs,hs,hr=>⟨ρ,by simpa [fK]using hs,by simpa [fK]using hr,by simpa [fK]using Step.refl,fun _ _ h=>h,by simp[fK],fun _ _ h=>by simpa [fK]using h⟩
 |cs::css,[],H,ρ,vs,hs,hr=>⟨ρ,by simpa [fK]using hs,by simpa [fK]using hr,by simpa [fK]using Step.refl,fun _ _ h=>h,by simp[fK],fun _ _ h=>by simpa [fK]using h⟩
 |cs::css,v::r,H,ρ,vs,hs,hr=>by
  obtain⟨u,t,rfl,h1,h2⟩:=hr.gW;have fin:∀(v':AV K)(p:List (AV K)×List (Ob K))(us:List Value),(∀ρ',bB D ρ' S w p.1 us->Rep D ρ' S w v' u)->AB D S w H ρ us p->AB D S w H ρ (u::t) (v'::(fK dp p.2 css r).1,(fK dp p.2 css r).2):=fun v' p us hv hp=>by
   obtain⟨ρ1,g1,g2,g3,g4,g5,g6⟩:=hp;obtain⟨ρ2,k1,k2,k3,k4,k5,k6⟩:=TL dp css r p.2 ρ1 t g1 (h2.mono (fun _ h=>h) (fun _ _=>rfl) g4);exact⟨ρ2,k1,.cons ((hv ρ1 g2).mono (fun _ h=>h) (fun _ _=>rfl) k4) k2,g3.trans (k3.weaken g5),fun h r hr=>k4 h r (g4 h r hr),cq g5 k5,fun h o ho=>k6 h o (g6 h o ho)⟩
  have one:∀v,Rep D ρ S w v u->fK dp H (cs::css) (v::r)=((thaw dp H cs [v]).1.headD v::(fK dp (thaw dp H cs [v]).2 css r).1,(fK dp (thaw dp H cs [v]).2 css r).2)->AB D S w H ρ (u::t) (fK dp H (cs::css) (v::r)):=fun v h1 e=>by
   rw[e];refine fin _ _ [u] (fun ρ' hr'=>?_) (yh dp cs [v] H ρ [u] hs (.cons h1 .nil));generalize hq:(thaw dp H cs [v]).1=q at hr';cases q with
   |nil=>have:=hr'.1;simp at this
   |cons x y=>exact hr'.head
  cases v with
  |agg l=>
   cases h1 with
   |agg hl hh=>
    have e:fK dp H (cs::css) (.agg l::r)=(.agg (thaw dp H cs l).1::(fK dp (thaw dp H cs l).2 css r).1,(fK dp (thaw dp H cs l).2 css r).2):=rfl;rw[e];exact fin _ _ _ (fun ρ' hr'=>.agg hr'.1 hr'.2) (yh dp cs l H ρ _ hs ⟨hl,hh⟩)
  |_=>exact one _ h1 rfl
theorem aFR{D:bL K}(dp:K.U->Bool)(cs:List (List (Option K.U)))(v:AV K)(hs:aU D ρ S w H){u:Value}(hr:Rep D ρ S w v u):
 ∃ρ',aU D ρ' S w (oe dp H cs v).2/\Rep D ρ' S w (oe dp H cs v).1 u/\Step D H.length ρ S H w ρ' S (oe dp H cs v).2 w/\H.length<=(oe dp H cs v).2.length:=by
 have one:∀v,Rep D ρ S w v u->oe dp H cs v=((fK dp H cs [v]).1.headD v,(fK dp H cs [v]).2)->∃ρ',aU D ρ' S w (oe dp H cs v).2/\Rep D ρ' S w (oe dp H cs v).1 u/\Step D H.length ρ S H w ρ' S (oe dp H cs v).2 w/\H.length<=(oe dp H cs v).2.length:=fun v hr e=>by
  rw[e];obtain⟨ρ',g1,g2,g3,g4,g5,g6⟩:=TL dp cs [v] H ρ [u] hs (.cons hr .nil);refine⟨ρ',g1,?_,g3,g5⟩;generalize hq:(fK dp H cs [v]).1=q at g2;cases q with
  |nil=>have:=g2.1;simp at this
  |cons x y=>exact g2.head
 cases v with
 |bQ l=>
  cases hr with
  |bQ hl hh=>
   obtain⟨ρ',g1,g2,g3,g4,g5,g6⟩:=TL dp cs l H ρ _ hs ⟨hl,hh⟩;exact⟨ρ',g1,.bQ g2.1 g2.2,g3,g5⟩
 |_=>exact one _ hr rfl
theorem aFS{cx:Cx K}(hD:bT cx.D){fz:Bool}{fn:Func}{n0:Nat}{R:Type}{fin:AV K->List (Ob K)->Option R}{e:Ex}{st:St K}{r:R}(h:TK cx fz fn n0 fin e st=some r):
 st.ok=true/\(∀i,e≠.exit i)/\∃v v' H',resV cx fn st=some v/\fin v' H'=some r/\∀ρ S w,n0<=st.H.length->aU cx.D ρ S w st.H->∀u,Rep cx.D ρ S w v u->∃ρ' S',aU cx.D ρ' S' w H'/\Rep cx.D ρ' S' w v' u/\Step cx.D n0 ρ S st.H w ρ' S' H' w:=by
 have key:∀(v0:AV K)(H0:List (Ob K)) v' H',MM cx.mv n0 v0 H0=some (v',H')->∀ρ S w,n0<=H0.length->aU cx.D ρ S w H0->∀u,Rep cx.D ρ S w v0 u->∃ρ',aU cx.D ρ' S w H'/\Rep cx.D ρ' S w v' u/\Step cx.D n0 ρ S H0 w ρ' S H' w:=fun v0 H0 v' H' hp ρ S w hn hs u hr=>by
  unfold MM Q7 at hp;split at hp
  ·rename_i hk;simp only[bD,bw]at hk;split at hp
   ·rename_i v'' H1 hv' hH';simp only[aD,cw]at hp;obtain⟨rfl,rfl⟩:=hp;obtain⟨s1,s2,s3,s4⟩:=anR hD hs hn hk.1 hk.2 hH';exact⟨_,s1,uP hD s3 _ _ u hv' hr,s2⟩
   ·cases hp
  ·cases hp
 unfold TK at h;split at h
 ·cases h
 ·rename_i hne;split at h
  ·rename_i v0 hv0;dsimp only at h;generalize hv:NF cx.J4 v0=v at h;have fgt:∀{ρ S w}{u:Value},Rep cx.D ρ S w v0 u->Rep cx.D ρ S w v u:=fun hr=>by rw[<-hv];exact aFQ _ _ _ hr
   cases hok:st.ok with
   |false=>rw[hok]at h;cases h
   |true=>
    rw[hok]at h;simp only[cr]at h;refine⟨rfl,hne,?_⟩;cases fz with
    |false=>
     simp only[ef]at h;split at h
     ·rename_i v' H' hp;exact⟨v0,v',H',hv0,h,fun ρ S w hn hs u hr0=>by
       have hr:=fgt hr0;obtain⟨ρ1,t1,t2,t3,t4⟩:=aFR cx.deep cx.fl v hs hr;obtain⟨ρ',a,b,c⟩:=key _ _ _ _ hp ρ1 S w (cq hn t4) t1 u t2;exact⟨ρ',S,a,b,(t3.weaken hn).trans c⟩⟩
     ·cases h
    |true=>
     simp only[cr]at h;split at h
     ·rename_i v' H' hp;exact⟨v0,v',H',hv0,h,fun ρ S w hn hs u hr0=>by
       have hr:=fgt hr0;obtain⟨S1,g1,g2,g3⟩:=MP (n0:=n0) (hands v) hs;obtain⟨ρ',a,b,c⟩:=key _ _ _ _ hp ρ S1 w (by omega) g1 u (qz g1 _ _ (hr.mono g2.s1 (fun _ _=>rfl) (fun _ _ h=>h)));exact⟨ρ',S1,a,b,g2.trans c⟩⟩
     ·cases h
  ·cases h
theorem aFT{cx:Cx K}(hD:bT cx.D)(hc:aI cx)(hm:cx.P.follows .mixedOrders=true){fz:Bool}{f:FuncId}{fn:Func}(hf:an1 cx.P f fn)(hl:∀c,fn.body=some c->iu cx c)
 {args:List (AV K)} {R:Type} {fin:AV K->List (Ob K)->Option R} {r:R} (h:JO cx fz fn args H fin=some r):∃v H',fin v H'=some r/\RC cx.D cx.P f args H v H':=by
 unfold JO at h;split at h
 ·rename_i c hb;obtain⟨e,st,h1,-,h3⟩:=qA hD hc hm c (hl c hb) _ _ _ h;obtain⟨hok,hne,v,v',H',hv,hr,hfin⟩:=aFS hD h1;refine⟨v',H',hr,⟨fn,hf.get,hf.name,by rw[hb];rfl⟩,fun ρ S w vals hs ha=>?_⟩;have h0:dz (args++List.replicate (fn.ntmps-args.length) (AV.any:AV K)):=fun t g b y e=>by
   rcases cG t args.length with hlt|hge
   ·rw[dL hlt]at e;obtain⟨x,-,hx⟩:=ha.get e;cases hx
   ·rw[eA hge,ql]at e;split at e<;>cases e
  obtain⟨n1,htr⟩:=h3 hok h0;refine calls_of_wp hf.get hb ?_;have bN:Sat cx ρ S {tmps:=vals.toArray++Array.replicate (fn.ntmps-vals.toArray.size) undef,defers:=[]} w ⟨args++List.replicate (fn.ntmps-args.length) .any,H,true⟩:=⟨hs,⟨by simp[ha.1],fun t v x h1 h2=>.kD (by
   rcases cG t args.length with hlt|hge
   ·rw[dL hlt]at h1;rw[Array.getElem?_append_left (by simpa [<-ha.1]using hlt)]at h2;exact ha.2 t v x h1 (by simpa using h2)
   ·rw[eA hge,ql]at h1;split at h1
    ·simp at h1;subst h1;exact .any x
    ·cases h1)⟩,rfl⟩
  refine wp_mono (htr H.length ρ S _ w (eL _) bN) ?_
  rintro e' a' w' ⟨rfl,hn,ρ1,S1,fG,hst1⟩
  obtain⟨u,hu,hr1⟩:=aFv hD n1 fG hv;have an3:∃u' ρ' S',Ending.returned u=.returned u'/\aU cx.D ρ' S' w' H'/\Rep cx.D ρ' S' w' v' u'/\Step cx.D H.length ρ S H w ρ' S' H' w':=by
   obtain⟨ρ2,S2,q1,q2,q3⟩:=hfin ρ1 S1 w' hn fG.heap u hr1;exact⟨u,ρ2,S2,rfl,q1,q2,hst1.trans q3⟩
  cases e with
  |exit i=>exact absurd rfl (hne i)
  |normal=>exact⟨fG.defers,u,hu,an3⟩
  |ret=>exact⟨fG.defers,u,hu,an3⟩
 ·cases h
structure an (K:dc) where
 f:FuncId
 sh:aM K
 R:Type
 run:sh.T->Option R
 dflt:R
 out:R->AV K×List (Ob K)
def an.Ok(D:bL K)(P:Program)(c:an K):Prop:=∀x r,c.run x=some r->RC D P c.f (c.sh.lG D x) (c.sh.jv D x) (c.out r).1 (c.out r).2
def callOf(D:bL K):List (an K)->FuncId->List (AV K)->List (Ob K)->Option (AV K×List (Ob K)×Bool)
 |[],_,_,_=>none
 |c::l,f,args,H=>cond (Nat.beq c.f f) (match c.sh.dec D args H with
  |some x=>some ((c.out ((c.run x).getD c.dflt)).1,(c.out ((c.run x).getD c.dflt)).2,(c.run x).isSome)
  |none=>callOf D l f args H) (callOf D l f args H)
theorem RC.weak{D:bL K}{P:Program}{f:FuncId}{args args':List (AV K)}{r:AV K}{Ho:List (Ob K)}(hw:Wk D args H args' H')(h:RC D P f args' H' r Ho):RC D P f args H r Ho:=by
 refine⟨h.1,fun ρ S w vals hs ha=>(h.2 ρ S w vals (hw.heap _ _ _ hs) (hw.TI _ _ _ _ ha)).mono ?_⟩
 rintro e w' ⟨u,ρ',S',rfl,h1,h2,h3⟩
 rw[hw.len]at h3;exact⟨u,ρ',S',rfl,h1,h2,hw.step.trans h3⟩
theorem an4{D:bL K}(hD:bT D){P:Program}:∀(l:List (an K)),(∀c∈l,c.Ok D P)->∀f args H r H',callOf D l f args H=some (r,H',true)->RC D P f args H r H'
 |[],_,f,args,H,r,H',h=>by simp[callOf]at h
 |c::l,hl,f,args,H,r,H',h=>by
  have ih:=an4 hD l (fun c hc=>hl c (by simp[hc])) f args H r H';unfold callOf at h;cases hb:Nat.beq c.f f with
  |false=>rw[hb]at h;exact ih h
  |true=>
   rw[hb]at h;have hf:c.f=f:=FN hb;simp only[cr]at h;split at h
   ·rename_i x hx;simp only[aD,cw]at h;obtain⟨h1,h2,h3⟩:=h;obtain⟨y,hy⟩:=Option.isSome_iff_exists.1 h3;rw[hy]at h1 h2;simp only[aR]at h1 h2;have:=hl c (by simp) x y hy;rw[h1,h2,hf]at this;exact this.weak (aM.GI hD hx)
   ·exact ih h
theorem aL{cx:Cx K}(hD:bT cx.D)(l:List (an K))(hl:∀c∈l,c.Ok cx.D cx.P)(he:cx.call=callOf cx.D l:=by exact rfl)(ha:cx.alt=fun _ _ _ _=>none:=by exact rfl)(ho:(fun(R:Type)=>cx.FT (R:=R))=fun(R:Type)(a b:Option R)=>QP a b:=by exact rfl):aI cx:=by
 refine⟨fun f args H r H' h=>?_,fun b f args H r H' h=>?_,fun R a b r h=>?_⟩
 ·rw[he]at h;exact an4 hD l hl f args H r H' h
 ·rw[ha]at h;cases h
 ·have:=congrFun ho R;rw[this]at h;exact aDD h
def an.Y0(D:bL K)(c:an K):an K:={c with out:=fun r=>(iV D (c.out r).2 (c.out r).1,[])}
theorem an.asj{D:bL K}(hD:bT D){P:Program}{c:an K}(h:c.Ok D P)(h0:c.sh.os=[])(hcl:∀r,(iV D (c.out r).2 (c.out r).1).closed=true):(c.Y0 D).Ok D P:=by
 intro x r hr;have hH:c.sh.jv D x=[]:=by
  unfold aM.jv;have:∀(l:List (bk K))(y:bk.Ts l),l=[]->bk.encs D l y=[]:=fun l y e=>by subst e;rfl
  exact this _ _ h0
 obtain⟨h1,h2⟩:=h x r hr;refine⟨h1,fun ρ S w vals hs ha=>(h2 ρ S w vals hs ha).mono ?_⟩
 rintro e w' ⟨u,ρ',S',rfl,g1,g2,g3⟩
 show ∃u_1 ρ' S',Ending.returned u=.returned u_1/\aU D ρ' S' w' ([]:List (Ob K))/\Rep D ρ' S' w' (iV D (c.out r).2 (c.out r).1) u_1/\Step D (c.sh.jv D x).length ρ S (c.sh.jv D x) w ρ' S' ([]:List (Ob K)) w'
 change aU D ρ S w (c.sh.jv D x)at hs;rw[hH]at g3 hs⊢;have hρ:ρ=[]:=by have:=hs.len;simpa using this
 refine⟨u,[],fun b=>S' b\/Own D w' ρ' (c.out r).2 b,rfl,⟨rfl,fun _ _ _ h=>by simp at h,fun _ _ _ _ _ _ _ h=>by simp at h,fun b ⟨_,_,_,h,_⟩=>by simp at h,fun b hb=>hb.elim (g1.slt b) fun h=>(g1.lt b h).1,D.base.mono (fun _ h=>.inl h) (fun _ _=>rfl) g1.base⟩,
  (amC hD g1 _ _ g2).closed hD (hcl r),⟨g3.os,g3.tape,g3.output,g3.size,g3.old,fun b ⟨_,_,_,h,_⟩=>by simp at h,fun b hb=>.inl (g3.s1 b hb),fun b hb=>?_,fun h hh=>by simp at hh⟩⟩
 rcases hb with hb|hb
 ·exact g3.s2 b hb
 ·exact .inr (g3.own b hb)
structure DT (K:dc) (D:bL K) (R:Type) where
 sh:aM K
 conv:sh.T->R
def DT.fin{D:bL K}{R:Type}(d:DT K D R)(v:AV K)(H:List (Ob K)):Option R:=match d.sh.dec D [v] H with
 |some x=>some (d.conv x)
 |none=>none
theorem fq{cx:Cx K}(hD:bT cx.D)(hc:aI cx)(hm:cx.P.follows .mixedOrders=true){c:an K}{fz:Bool}{fn:Func}(hf:an1 cx.P c.f fn)(hl:∀b,fn.body=some b->iu cx b)
 (d:DT K cx.D c.R) (ho:∀x,([(c.out (d.conv x)).1],(c.out (d.conv x)).2)=(d.sh.lG cx.D x,d.sh.jv cx.D x)) (he:∀x,JO cx fz fn (c.sh.lG cx.D x) (c.sh.jv cx.D x) d.fin=c.run x):c.Ok cx.D cx.P:=by
 intro x r hr;rw[<-he x]at hr;obtain⟨v,H',h1,h2⟩:=aFT hD hc hm hf hl hr;unfold DT.fin at h1;split at h1
 ·rename_i y hy;simp only[aD]at h1;have hw:=aM.GI hD hy;have:=ho y;simp only[cw]at this;rw[<-this.1,<-this.2]at hw;rw[h1]at hw;refine⟨h2.1,fun ρ S w vals hs ha=>(h2.2 ρ S w vals hs ha).mono ?_⟩
  rintro e w' ⟨u,ρ',S',rfl,g1,g2,g3⟩
  have:=(hw.TI _ _ _ [u] (.cons g2 .nil)).head;exact⟨u,ρ',S',rfl,hw.heap _ _ _ g1,this,g3.trans hw.step⟩
 ·cases h1
instance : Coe Bool Nat:=⟨fun b=>cond b 1 0⟩
def stays(kp i:Nat):Bool:=Nat.beq kp 1||Nat.blt (i+2) kp
def TM(kp:Nat):Nat->List (Ob K)->List (Option Nat)×List (Option Nat)
 |_,[]=>([],[])
 |i,o::r=>match TM kp (i+1) r with
  |(a,b)=>match o with
   |.arr ..=>cond (stays kp i) (some i::a,b) (none::a,some i::b)
   |.tree ..=>cond (stays kp i) (some i::a,b) (none::a,some i::b)
   |_=>(some i::a,b)
def an6(kp:Nat)(n n0:Nat)(ins:List Nat)(vals:List (AV K))(Hi:List (Ob K)):Option (St K):=
 match rL n0 ((TM kp 0 Hi).1++(TM kp 0 Hi).2) ins ⟨ej (List.replicate n .any) ins vals,Hi,true⟩with
 |some st=>ye n0 ins st
 |none=>none
def mV(st:St K)(ts:List Nat):List (AV K):=ts.map fun t=>st.tm.getD t .any
def bm(D:bL K)(kp:Nat)(n n0:Nat)(ins outs:List Nat)(sh:aM K){Y:Type}(run:sh.T->Option Y)(out:Y->{R:Type}->(Ex->List (AV K)->List (Ob K)->R)->R):bf K:={
 n:=n
 ins:=ins
 outs:=outs
 run vals Hi k:=cond (Nat.beq Hi.length n0) (match an6 kp n n0 ins vals Hi with
  |some st=>match sh.dec D (mV st ins) st.H with
   |some x=>match run x with
    |some y=>out y k
    |none=>none
   |none=>none
  |none=>none) none}
def Pn(cx:Cx K)(n n0:Nat)(ins outs:List Nat)(sh:aM K){Y:Type}(next:sh.T->Option Y)(fin:Ex->List (AV K)->List (Ob K)->Option Y)(e:Ex)(s:St K):Option Y:=
 cond s.ok (cond (Nat.beq s.tm.length n) (match e with
  |.normal=>match uJ cx s with
    |some (b,s1)=>cond b (match ye n0 ins s1 with
     |some s'=>match sh.dec cx.D (mV s' ins) s'.H with
      |some x=>next x
      |none=>none
     |none=>none) none
    |none=>none
  |e=>match uJ cx s with
   |some (b,s1)=>cond b (match ye n0 outs s1 with
    |some s'=>fin e (mV s' outs) s'.H
    |none=>none) none
   |none=>none) none) none
def wq(D:bL K)(n:Nat)(ins:List Nat)(sh:aM K)(x:sh.T):St K:=⟨ej (List.replicate n .any) ins (sh.lG D x),sh.jv D x,true⟩
structure cC (K:dc) (Y:Type) where
 e:Ex
 sh:aM K
 conv:sh.T->Y
def Ex.same:Ex->Ex->Bool
 |.normal,.normal=>true
 |.exit a,.exit b=>Nat.beq a b
 |.ret,.ret=>true
 |_,_=>false
theorem Ex.same_eq{a b:Ex}(h:Ex.same a b=true):a=b:=by
 cases a<;>cases b<;>simp only[Ex.same]at h<;>first|rfl|cases h|(rw[FN h])
def zq(D:bL K){Y:Type}:List (cC K Y)->Ex->List (AV K)->List (Ob K)->Option Y
 |[],_,_,_=>none
 |d::l,e,vs,H=>cond (Ex.same d.e e) (match d.sh.dec D vs H with
  |some x=>some (d.conv x)
  |none=>none) (zq D l e vs H)
theorem an7{D:bL K}:∀(l:List (Sh K))(vs:List (AV K))(x:Sh.Ts l),Sh.eg D l vs=some x->vs.length=l.length
 |[],vs,x,h=>by
   cases vs with
   |nil=>rfl
   |cons v r=>unfold Sh.eg at h;cases h
 |s::r,vs,x,h=>by
  cases vs with
  |nil=>unfold Sh.eg at h;cases h
  |cons v l=>
   unfold Sh.eg at h;split at h
   ·rename_i a b h1 h2;simp only[aZ];rw[an7 r l b h2]
   ·cases h
theorem TN{D:bL K}:∀(l:List (Sh K))(x:Sh.Ts l),(Sh.encs D l x).length=l.length
 |[],x=>rfl
 |s::r,x=>by simp only[Sh.encs,aZ];rw[TN r]
theorem qf{D:bL K}{sh:aM K}{vs:List (AV K)}{x:sh.T}(h:sh.dec D vs H=some x):(sh.lG D x).length=vs.length:=by
 unfold aM.dec at h;split at h
 ·rename_i a b h1 h2;unfold aM.lG;rw[TN,an7 _ _ _ h1]
 ·cases h
theorem TP{D:bL K}(hD:bT D){Y:Type}{out:Y->{R:Type}->(Ex->List (AV K)->List (Ob K)->R)->R}:∀(l:List (cC K Y)),(∀d∈l,d.e≠.normal/\∀x (R:Type) (k:Ex->List (AV K)->List (Ob K)->R),out (d.conv x) k=k d.e (d.sh.lG D x) (d.sh.jv D x))->
 ∀e vs H y,zq D l e vs H=some y->e≠.normal/\∃vs' H',(∀(R:Type)(k:Ex->List (AV K)->List (Ob K)->R),out y k=k e vs' H')/\Wk D vs H vs' H'/\vs'.length=vs.length
 |[],_,e,vs,H,y,h=>by simp[zq]at h
 |d::l,hl,e,vs,H,y,h=>by
  unfold zq at h;cases hs:Ex.same d.e e with
  |false=>rw[hs]at h;exact TP hD l (fun d hd=>hl d (by simp[hd])) e vs H y h
  |true=>
   rw[hs]at h;have he:=Ex.same_eq hs;simp only[cr]at h;split at h
   ·rename_i x hx;simp only[aD]at h;subst h;obtain⟨h1,h2⟩:=hl d (by simp);rw[he]at h1 h2;exact⟨h1,_,_,fun R k=>h2 x R k,aM.GI hD hx,qf hx⟩
   ·cases h
theorem retag{cx:Cx K}{n0:Nat}{st:St K}{ts:List Nat}{n:Nat}(hn:st.tm.length=n)(h0:dz st.tm){vs':List (AV K)}(hw:Wk cx.D (mV st ts) st.H vs' H')(hlen:vs'.length=ts.length):
 Goes cx n0 st ⟨ej (List.replicate n .any) ts vs',H',st.ok⟩:=by
 intro ρ S a w hn0 bN;refine⟨by show n0<=H'.length;rw[hw.len];exact hn0,ρ,S,⟨hw.heap _ _ _ bN.heap,?_,bN.defers⟩,hw.step⟩;have hsz:a.tmps.size=n:=by rw[<-hn];exact bN.slots.len.symm
 have hrep:∀t,Rep cx.D ρ S w (st.tm.getD t .any) (a.tmps.getD t undef):=fun t=>by
  rw[aH,jc];cases hg:st.tm[t]? with
  |none=>exact .any _
  |some v=>
   obtain⟨x,hx,-⟩:=bN.slots.get hg;rw[hx];exact bN.slots.rep h0 hg hx
 have hus:bB cx.D ρ S w (mV st ts) (ts.map fun t=>a.tmps.getD t undef):=⟨by simp[mV],fun i v x h1 h2=>by
  simp only[mV,fL,fw]at h1 h2;obtain⟨t,e1,rfl⟩:=h1;obtain⟨t',e2,rfl⟩:=h2;rw[e1]at e2;simp at e2;subst e2;exact hrep t⟩
 have aFU:=hw.TI _ _ _ _ hus;refine Ta hsz fun i t v x h1 h2 h3=>aFU.2 i v x h2 ?_
 simp only[fL,h1,Md];rw[jc,h3];rfl
theorem an8{D:bL K}:∀(l:List (Sh K))(x:Sh.Ts l)(i:Nat)(v:AV K),(Sh.encs D l x)[i]?=some v->v.jF=false
 |[],x,i,v,h=>by simp[Sh.encs]at h
 |s::r,x,i,v,h=>by
  cases i with
  |zero=>
   simp only[Sh.encs,List.getElem?_cons_zero,aD]at h;subst h;cases s<;>simp only[Sh.enc]<;>rfl
  |succ i=>exact an8 r x.2 i v (by simpa [Sh.encs]using h)
theorem aFV{n:Nat}{ds:List Nat}{l:List (AV K)}(h:∀(i:Nat) v,l[i]?=some v->v.jF=false):dz (ej (List.replicate n .any) ds l):=fun t g b v e=>by
 rcases AX ds l _ t _ e with h1|⟨i,-,h2⟩
 ·rw[ql]at h1;split at h1<;>cases h1
 ·have:=h i _ h2;simp[AV.jF]at this
theorem TQ{n0:Nat}{src:List (Option Nat)}{keep:List Nat}{st st':St K}(h:rL n0 src keep st=some st'):st'.tm.length=st.tm.length:=by
 unfold rL at h;split at h
 ·split at h
  ·simp only[aD]at h;subst h;simp[yo]
  ·cases h
 ·cases h
theorem Tr.goes{cx:Cx K}{n0:Nat}{c:Code}{st st1 st2:St K}{e:Ex}(h:Tr cx n0 c st e st1)(g:Goes cx n0 st1 st2):Tr cx n0 c st e st2:=fun ρ S a w hn bN=>by
 refine wp_mono (h ρ S a w hn bN) ?_
 rintro e' a' w' ⟨he,hn1,ρ1,S1,fG,hst1⟩
 obtain⟨hn2,ρ2,S2,GH,hst2⟩:=g ρ1 S1 a' w' hn1 fG;exact⟨he,hn2,ρ2,S2,GH,hst1.trans hst2⟩
section
variable {cx :Cx K}(hD:bT cx.D)(hc:aI cx)(hm:cx.P.follows .mixedOrders=true){c:Code}(hl:iu cx c){n n0:Nat}{ins outs:List Nat}{sh:aM K}{Y:Type}{run:Nat->sh.T->Option Y}
 {bh:List (cC K Y)} {out:Y->{R:Type}->(Ex->List (AV K)->List (Ob K)->R)->R}
 (h0:∀x,run 0 x=none) (hs:∀m x,fQ cx c (wq cx.D n ins sh x) (Pn cx n n0 ins outs sh (run m) (zq cx.D bh))=run (m+1) x)
 (hx:∀d∈bh,d.e≠.normal/\∀x (R:Type) (k:Ex->List (AV K)->List (Ob K)->R),out (d.conv x) k=k d.e (d.sh.lG cx.D x) (d.sh.jv cx.D x))
include hD hc hm hl h0 hs hx
theorem an9{y:Y}:∀(m:Nat)(x:sh.T),run m x=some y->∃e vs Ho,(∀(R:Type)(k:Ex->List (AV K)->List (Ob K)->R),out y k=k e vs Ho)/\
 ∀(ρ0:List Value)(S0:Nat->Prop)(H0:List (Ob K))(w0:World)(ρ:List Value)(S:Nat->Prop)(a:Act)(w:World),n0<=(wq cx.D n ins sh x).H.length->Sat cx ρ S a w (wq cx.D n ins sh x)->Step cx.D n0 ρ0 S0 H0 w0 ρ S (wq cx.D n ins sh x).H w->
  Code.rounds cx.P c (fun e' a' w'=>e'=e.nO/\n0<=Ho.length/\∃ρ' S',Sat cx ρ' S' a' w' ⟨ej (List.replicate n .any) outs vs,Ho,true⟩/\Step cx.D n0 ρ0 S0 H0 w0 ρ' S' Ho w') m a w
 |0,x,h=>by rw[h0]at h;cases h
 |m+1,x,h=>by
  rw[<-hs m x]at h;obtain⟨e,s,h1,h2,h3⟩:=qA hD hc hm c hl _ _ _ h;unfold Pn at h1;have hno:dz (wq cx.D n ins sh x).tm:=aFV (an8 _ _);cases hok:s.ok with
  |false=>rw[hok]at h1;cases h1
  |true=>
   rw[hok]at h1;simp only[cr]at h1;obtain⟨n1,htr⟩:=h3 hok hno;cases hlen:Nat.beq s.tm.length n with
   |false=>rw[hlen]at h1;cases h1
   |true=>
   rw[hlen]at h1;simp only[cr]at h1;have hsn:s.tm.length=n:=FN hlen;have key:∀keep s1 s' vs' qy,uJ cx s=some (true,s1)->ye n0 keep s1=some s'->Wk cx.D (mV s' keep) s'.H vs' qy->vs'.length=keep.length->Tr cx n0 c (wq cx.D n ins sh x) e ⟨ej (List.replicate n .any) keep vs',qy,true⟩:=fun keep s1 s' vs' qy hcl hn hw hvl=>by
    have hr:rL n0 ((reach s1.H 64 (List.range n0++ct (keep.map fun t=>s1.tm.getD t .any)) []).map some) keep s1=some s':=hn;obtain⟨hk1,g1,g2⟩:=NB (cx:=cx) hD hr;obtain⟨c1,c2,c3,c4⟩:=anT hD hcl;have gc:Goes cx n0 s s1:=fun ρ S a w hn bN=>by
     obtain⟨q1,q2⟩:=c4 n0 ρ S a w bN;exact⟨by rw[c3];exact hn,ρ,S,q1,q2⟩
    have hl2:s1.tm.length=n:=by rw[c1];exact hsn
    have hn2:dz s1.tm:=by rw[c1];exact n1
    have:=(htr n0).goes (gc.trans ((g2 hn2).trans (retag ((TQ hr).trans hl2) g1 hw hvl)));rw[hk1,c2,hok]at this;exact this
   cases e with
   |normal=>
    dsimp only at h1;split at h1
    ·rename_i b s1 hcl;cases b with
     |false=>cases h1
     |true=>
     simp only[cr]at h1;split at h1
     ·rename_i s' hn;split at h1
      ·rename_i x' hx';obtain⟨e2,vs,Ho,q1,q2⟩:=an9 m x' h1;refine⟨e2,vs,Ho,q1,fun ρ0 S0 H0 w0 ρ S a w hn0 bN hst=>?_⟩;rw[rounds_succ];refine wp_mono (key ins s1 s' _ _ hcl hn (aM.GI hD hx') (by rw[qf hx'];simp[mV]) ρ S a w hn0 bN) ?_
       rintro e' a' w' ⟨rfl,hn1,ρ1,S1,fG,hst1⟩
       exact q2 ρ0 S0 H0 w0 ρ1 S1 a' w' hn1 fG (hst.trans hst1)
      ·cases h1
     ·cases h1
    ·cases h1
   |exit id=>
    dsimp only at h1;split at h1
    ·rename_i b s1 hcl;cases b with
     |false=>cases h1
     |true=>
     simp only[cr]at h1;split at h1
     ·rename_i s' hn;obtain⟨g1,vs',qy,g2,g3,g4⟩:=TP hD bh hx _ _ _ _ h1;refine⟨.exit id,vs',qy,g2,fun ρ0 S0 H0 w0 ρ S a w hn0 bN hst=>?_⟩;rw[rounds_succ];refine wp_mono (key outs s1 s' _ _ hcl hn g3 (by rw[g4];simp[mV]) ρ S a w hn0 bN) ?_
      rintro e' a' w' ⟨rfl,hn1,ρ1,S1,fG,hst1⟩
      exact⟨rfl,hn1,ρ1,S1,fG,hst.trans hst1⟩
     ·cases h1
    ·cases h1
   |ret=>
    dsimp only at h1;split at h1
    ·rename_i b s1 hcl;cases b with
     |false=>cases h1
     |true=>
     simp only[cr]at h1;split at h1
     ·rename_i s' hn;obtain⟨g1,vs',qy,g2,g3,g4⟩:=TP hD bh hx _ _ _ _ h1;refine⟨.ret,vs',qy,g2,fun ρ0 S0 H0 w0 ρ S a w hn0 bN hst=>?_⟩;rw[rounds_succ];refine wp_mono (key outs s1 s' _ _ hcl hn g3 (by rw[g4];simp[mV]) ρ S a w hn0 bN) ?_
      rintro e' a' w' ⟨rfl,hn1,ρ1,S1,fG,hst1⟩
      exact⟨rfl,hn1,ρ1,S1,fG,hst.trans hst1⟩
     ·cases h1
    ·cases h1
theorem eU(kp:Nat)(N:Nat):bg cx c (bm cx.D kp n n0 ins outs sh (run N) out):=by
 intro vals Hi R k r h;simp only[bm]at h;cases hb:Nat.beq Hi.length n0 with
 |false=>rw[hb]at h;cases h
 |true=>
  rw[hb]at h;have hlen:Hi.length=n0:=FN hb;simp only[cr]at h;split at h
  ·rename_i st hst;split at h
   ·rename_i x hx1;split at h
    ·rename_i y hy;obtain⟨e,vs,Ho,q1,q2⟩:=an9 hD hc hm hl h0 hs hx N x hy;rw[q1]at h;refine⟨e,vs,Ho,h,?_⟩;unfold an6 at hst;split at hst
     ·rename_i st1 hst1;have hst':rL n0 ((reach st1.H 64 (List.range n0++ct (ins.map fun t=>st1.tm.getD t .any)) []).map some) ins st1=some st:=hst;obtain⟨k1,g1,g2⟩:=NB (cx:=cx) hD hst1;obtain⟨k2,g3,g4⟩:=NB (cx:=cx) hD hst';intro ρ S a w hn0 bN;have hno:dz (ej (List.replicate n (AV.any:AV K)) ins vals):=fun t g b v e=>by
       rcases AX ins vals _ t _ e with h1|⟨i,h1,-⟩
       ·rw[ql]at h1;split at h1<;>cases h1
       ·unfold rL at hst1;split at hst1
        ·split at hst1
         ·rename_i ws H1 hv hm1;obtain⟨gl,gg⟩:=yp _ _ hv;have hi:i<ws.length:=by rw[gl];simp;exact(bc.1 h1).1
          obtain⟨v0,q1,q2⟩:=gg i _ (bG hi);simp only[fL,h1,Md,aD]at q1;rw[aH,e]at q1;simp only[aR]at q1;subst q1;simp[fF]at q2
         ·cases hst1
        ·cases hst1
      have hlen1:st1.tm.length=n:=by rw[TQ hst1];simp[yo]
      have hlen2:st.tm.length=n:=by rw[TQ hst'];exact hlen1
      have hw:=aM.GI hD hx1;have hr:=retag (cx:=cx) (n0:=n0) hlen2 g3 hw (by rw[qf hx1];simp[mV]);have hok:st.ok=true:=by rw[k2,k1]
      rw[hok]at hr;rw[hlen];obtain⟨hn1,ρ1,S1,fG,hst2⟩:=((g2 hno).trans ((g4 g1).trans hr)) ρ S a w (by show n0<=Hi.length;omega) bN;exact wp_loop_rounds N (q2 ρ S Hi w ρ1 S1 a w hn1 fG hst2)
     ·cases hst
    ·cases h
   ·cases h
  ·cases h
end
def jw:Code->List Code
 |.loop c=>[c]
 |.seq a b=>jw a++jw b
 |.cond _ a b=>jw a++jw b
 |.block _ c=>jw c
 |_=>[]
def aW(c:Code)(i:Nat):Code:=(jw c).getD i .skip
theorem A0{cx:Cx K}:∀(c:Code),(∀b∈jw c,∀L,cx.loop (keyOf b)=some L->bg cx b L)->iu cx c
 |.loop c,h=>fun L hL=>h c (by simp[jw]) L hL
 |.seq a b,h=>⟨A0 a fun x hx=>h x (by simp[jw,hx]),A0 b fun x hx=>h x (by simp[jw,hx])⟩
 |.cond _ a b,h=>⟨A0 a fun x hx=>h x (by simp[jw,hx]),A0 b fun x hx=>h x (by simp[jw,hx])⟩
 |.block _ c,h=>A0 c h
 |.skip,_|.exit _,_|.ret,_|.region ..,_|.scope ..,_|.rangeFunc ..,_|.goto ..,_|.label ..,_|.refuse ..,_=>trivial
def TR(cx:Cx K)(c:Code):Prop:=∃L,cx.loop (keyOf c)=some L/\bg cx c L
theorem TR.mk{cx:Cx K}{c:Code}{L:bf K}(h:cx.loop (keyOf c)=some L)(ho:bg cx c L):TR cx c:=⟨L,h,ho⟩
theorem mG{cx:Cx K}{c:Code}(n:Nat)(hn:(jw c).length=n)(h:∀i,i<n->TR cx (aW c i)):iu cx c:=
 A0 c fun b hb L hL=>by
  obtain⟨i,hi,rfl⟩:=iy hb;obtain⟨L',h1,h2⟩:=h i (by omega);have e:aW c i=(jw c)[i]:=by simp[aW,aH,bG hi]
  rw[e]at h1 h2;rw[h1]at hL;simp only[aD]at hL;subst hL;exact h2
theorem eN{cx:Cx K}{c:Code}(hn:(jw c).length=0):iu cx c:=mG 0 hn fun i hi=>absurd hi (hC i)
theorem ns{p:Nat->Prop}(h:p 0):∀i,i<1->p i:=fun i hi=>by
 have:i=0:=by omega
 subst this;exact h
theorem lt_succ{p:Nat->Prop}{n:Nat}(h:∀i,i<n->p i)(hn:p n):∀i,i<n+1->p i:=fun i hi=>by
 by_cases he:i=n
 ·subst he;exact hn
 ·exact h i (by omega)
def aY(fn:Func):Code:=match fn.body with
 |some c=>c
 |none=>.skip
theorem Jz{cx:Cx K}{fn:Func}(h:iu cx (aY fn)):∀c,fn.body=some c->iu cx c:=fun c hc=>by
 have:aY fn=c:=by unfold aY;rw[hc]
 rw[<-this];exact h
theorem ak{α:Type _}{p:α->Prop}:∀c∈([]:List α),p c:=fun c h=>by simp at h
theorem ae{α:Type _}{p:α->Prop}{a:α}{l:List α}(h:p a)(t:∀c∈l,p c):∀c∈a::l,p c:=fun c hc=>by
 rcases gz.1 hc with rfl|hc
 ·exact h
 ·exact t c hc
theorem bp{i:Nat}:Ex.exit i≠.normal:=fun h=>by cases h
theorem bX:Ex.ret≠.normal:=fun h=>by cases h
theorem iG{D:bL K}{P:Program}{c:an K}(h:∀x,c.run x=none):c.Ok D P:=fun x r hr=>by rw[h]at hr;cases hr
theorem aoa:∃n:Nat,2^63<=n:=⟨2^63,eL _⟩
noncomputable def af:Nat:=Classical.choose aoa
theorem bU:2^63<=af:=Classical.choose_spec aoa
end Go.V
namespace Go.V
open Go
variable {K :dc}{D:bL K}{ρ ρ':List Value}{S S':Nat->Prop}{w w':World}
def Sh.flat:Sh K->Bool
 |.int _|.bool|.str|.ah _=>true
 |_=>false
def kz:List (Sh K)->Bool
 |[]=>true
 |s::r=>s.flat&&kz r
def D0(K:dc):bL K:={cells:=fun _ _=>[],dec:=fun _ _=>none,byte:=fun _=>none,find:=fun _=>none}
def aob(cs:K.U->List (Sh K)):List K.U->List (AV K)->Option K.U
 |[],_=>none
 |c::r,l=>match Sh.eg (D0 K) (cs c) l with
  |some _=>some c
  |none=>aob cs r l
def Qf(cs:K.U->List (Sh K))(mk:(c:K.U)->Sh.Ts (cs c)->K.El c×Bool)(un:(c:K.U)->K.El c->Sh.Ts (cs c))(byte:(c:K.U)->Option ((K.El c->UInt8)×(UInt8->K.El c)))(codes:List K.U)(base:Base:=Base.alG)(rC:Option TypeId:=none)(qm:K.U->Option TypeId:=fun _=>none):bL K:={
 base:=base
 rC:=rC
 qm:=qm
 cells c x:=Sh.encs (D0 K) (cs c) (un c x)
 dec c l:=match Sh.eg (D0 K) (cs c) l with
  |some y=>some (mk c y)
  |none=>none
 byte:=byte
 find l:=aob cs codes l}
theorem aFW{c:K.U}{v:AV K}{l:List (K.El c)}(h:elems [] c v=some l){u:Value}(hr:Rep D ρ S w v u):Rep D ρ S w (.ah c l) u:=by
 unfold elems at h;split at h
 ·simp only[aD]at h;subst h;cases hr;exact .fe _ _
 ·split at h
  ·rename_i he _;subst he;simp only[aD]at h;subst h;exact hr
  ·cases h
 ·simp at h
 ·cases h
theorem aoc:∀(l:List (Sh K))(vs:List (AV K))(x:Sh.Ts l),kz l=true->Sh.eg (D0 K) l vs=some x->∀us,bB D ρ S w vs us->bB D ρ S w (Sh.encs (D0 K) l x) us
 |[],vs,x,hf,h,us,hr=>by
   cases vs with
   |nil=>exact hr
   |cons v r=>unfold Sh.eg at h;cases h
 |s::r,vs,x,hf,h,us,hr=>by
  simp only[kz,bD]at hf;cases vs with
  |nil=>unfold Sh.eg at h;cases h
  |cons v l=>
   unfold Sh.eg at h;split at h
   ·rename_i a b h1 h2;have h:=jl h;subst h;obtain⟨u,t,rfl,g1,g2⟩:=hr.gW;refine .cons ?_ (aoc r l b hf.2 h2 t g2);cases s<;>simp only[Sh.flat]at hf<;>first|(exact absurd hf.1 xK)|skip
    ·rw[AV.TB h1]at g1;exact g1
    ·rw[AV.TC h1]at g1;exact g1
    ·rw[AV.TD h1]at g1;exact g1
    ·exact aFW h1 g1
   ·cases h
theorem TS:∀(l:List (Sh K))(x:Sh.Ts l),kz l=true->ie (Sh.encs (D0 K) l x)=true/\(Sh.encs (D0 K) l x).all AV.one=true
 |[],x,hf=>⟨rfl,rfl⟩
 |s::r,x,hf=>by
  simp only[kz,bD]at hf;obtain⟨h1,h2⟩:=TS r x.2 hf.2;simp only[Sh.encs,ie,xC,bD];refine⟨⟨?_,h1⟩,?_,h2⟩<;>(cases s<;>simp only[Sh.flat]at hf<;>first|(exact absurd hf.1 xK)|rfl)
theorem aod:∀(l:List (Sh K))(x y:Sh.Ts l),kz l=true->dS (Sh.encs (D0 K) l x)=dS (Sh.encs (D0 K) l y)
 |[],x,y,hf=>rfl
 |s::r,x,y,hf=>by
  simp only[kz,bD]at hf;simp only[Sh.encs,dS];rw[aod r x.2 y.2 hf.2];congr 1;cases s<;>simp only[Sh.flat]at hf<;>first|(exact absurd hf.1 xK)|rfl
theorem aoe:∀(l:List (Sh K))(x:Sh.Ts l),kz l=true->∀(j:Nat) v,(Sh.encs (D0 K) l x)[j]?=some v->v≠.di/\(v.qu=false->iW v=false)
 |[],x,hf,j,v,h=>by simp[Sh.encs]at h
 |s::r,x,hf,j,v,h=>by
  simp only[kz,bD]at hf;cases j with
  |zero=>
   simp[Sh.encs]at h;subst h;cases s<;>simp only[Sh.flat]at hf<;>first|(exact absurd hf.1 xK)|exact⟨fun e=>(by cases e),fun _=>rfl⟩|exact⟨fun e=>(by cases e),fun e=>by cases e⟩
  |succ j=>exact aoe r x.2 hf.2 j v (by simpa [Sh.encs]using h)
theorem aFX{c:K.U}{v:AV K}{l:List (K.El c)}(h:elems [] c v=some l):v=.ah c l\/(v=.di/\l=[]):=by
 unfold elems at h;split at h
 ·simp only[aD]at h;exact .inr ⟨rfl,h.symm⟩
 ·split at h
  ·rename_i he _;subst he;simp only[aD]at h;subst h;exact .inl rfl
  ·cases h
 ·simp at h
 ·cases h
theorem aof:∀(l:List (Sh K))(vs:List (AV K))(x:Sh.Ts l),kz l=true->Sh.eg (D0 K) l vs=some x->vs.length=l.length/\∀(j:Nat) v v',vs[j]?=some v->(Sh.encs (D0 K) l x)[j]?=some v'->v'=v\/(v=.di/\∃c',v'=.ah c' [])
 |[],vs,x,hf,h=>by
   cases vs with
   |nil=>exact⟨rfl,fun j v v' h=>by simp at h⟩
   |cons v r=>unfold Sh.eg at h;cases h
 |s::r,vs,x,hf,h=>by
  simp only[kz,bD]at hf;cases vs with
  |nil=>unfold Sh.eg at h;cases h
  |cons v l=>
   unfold Sh.eg at h;split at h
   ·rename_i a b h1 h2;have h:=jl h;subst h;obtain⟨g1,g2⟩:=aof r l b hf.2 h2;refine⟨by simp[g1],fun j u u' hu hu'=>?_⟩;cases j with
    |zero=>
     simp[Sh.encs]at hu hu';subst hu;subst hu';cases s<;>simp only[Sh.flat]at hf<;>first|(exact absurd hf.1 xK)|skip
     ·exact .inl (AV.TB h1).symm
     ·exact .inl (AV.TC h1).symm
     ·exact .inl (AV.TD h1).symm
     ·rcases aFX h1 with h|⟨h,e⟩
      ·exact .inl h.symm
      ·exact .inr ⟨h,_,by rw[e];rfl⟩
    |succ j=>exact g2 j u u' (by simpa using hu) (by simpa [Sh.encs]using hu')
   ·cases h
theorem aDd{codes:List K.U}{base:Base}{rC:Option TypeId}{qm:K.U->Option TypeId}{cs:K.U->List (Sh K)}{mk:(c:K.U)->Sh.Ts (cs c)->K.El c×Bool}{un:(c:K.U)->K.El c->Sh.Ts (cs c)}{byte:(c:K.U)->Option ((K.El c->UInt8)×(UInt8->K.El c))}
 (hf:∀c,kz (cs c)=true) (hl:∀c,(cs c).length=K.sz c) (hu:∀c y x,mk c y=(x,true)->un c x=y) (hb:∀c f g,byte c=some (f,g)->(∀x,Sh.encs (D0 K) (cs c) (un c x)=[.int .u8 ((f x).toNat:Int)])/\∀b,f (g b)=b):bT (Qf cs mk un byte codes base rC qm):={
 len c x:=by show(Sh.encs (D0 K) (cs c) (un c x)).length=_;rw[TN,hl]
 closed c x:=(TS _ _ (hf c)).1
 one c x:=(TS _ _ (hf c)).2
 dec c l x h:=fun ρ S w vs hr=>by
  change(match Sh.eg (D0 K) (cs c) l with
   |some y=>some (mk c y)
   |none=>none)=some (x,true)at h
  split at h
  ·rename_i y hy
   show bB _ ρ S w (Sh.encs (D0 K) (cs c) (un c x)) vs
   rw[hu c y x (jl h)];exact aoc _ _ _ (hf c) hy _ hr
  ·cases h
 byte:=hb
 flat c x:=aod _ _ _ (hf c)
 kinds c x:=aoe _ _ (hf c)
 MN c l x h:=by
  change(match Sh.eg (D0 K) (cs c) l with
   |some y=>some (mk c y)
   |none=>none)=some (x,true)at h
  split at h
  ·rename_i y hy;obtain⟨g1,g2⟩:=aof _ _ _ (hf c) hy;refine⟨by rw[g1,hl],fun j v v' h1 h2=>g2 j v v' h1 ?_⟩;change(Sh.encs (D0 K) (cs c) (un c x))[j]?=some v' at h2;rw[hu c y x (jl h)]at h2;exact h2
  ·cases h}
def iN(n:Int):Bool:=decide (0<=n)&&decide (n<256)
def fH(n:Int):UInt8:=UInt8.ofNat n.toNat
theorem alg{n:Int×Unit}{x:UInt8}(h:(fH n.1,iN n.1)=(x,true)):((x.toNat:Int),())=n:=by
 simp only[cw,iN,bD,bw]at h;obtain⟨rfl,h0,h3⟩:=h;obtain⟨a,b⟩:=n;dsimp only at h0 h3⊢;have h1:a.toNat<256:=by omega
 have h2:((fH a).toNat:Int)=a:=by
  unfold fH;rw[UInt8.toNat_ofNat'];simp only[Nat.reducePow];rw[Nat.mod_eq_of_lt h1];omega
 rw[h2]
def dI{α:Type _}:List (Nat×α)->Nat->Option α
 |[],_=>none
 |p::r,n=>cond (Nat.beq p.1 n) (some p.2) (dI r n)
def dO{α:Type _}(d:α):List (Nat×α)->Nat->α
 |[],_=>d
 |p::r,n=>cond (Nat.beq p.1 n) p.2 (dO d r n)
end Go.V
namespace Go.V
open Go
def aDc(gM gT gS gR:Nat):Base:={
 inv S w:=(S gM/\S gT/\S gS/\S gR)/\(∃m,w.cell? ⟨gM,0,none⟩=some (.int .i64 m))/\(∃T fr,w.heap[gT]?=some (.cells (Lib.pow10Tab.map fun z=>Value.int .u64 z).toArray T fr))/\(∃t p,w.cell? ⟨gS,0,none⟩=some (.iface t p))/\∃t p,w.cell? ⟨gR,0,none⟩=some (.iface t p)
 mono:=fun{S S' w w'} hS hw h=>by
  obtain⟨⟨h1,h2,h3,h4⟩,⟨m,hm⟩,⟨T,fr,hT⟩,⟨t,p,hs⟩,⟨t2,p2,hr⟩⟩:=h;refine⟨⟨hS _ h1,hS _ h2,hS _ h3,hS _ h4⟩,⟨m,?_⟩,⟨T,fr,by rw[hw _ h2];exact hT⟩,⟨t,p,?_⟩,⟨t2,p2,?_⟩⟩
  ·rw[cell?_of_heap (w:=w) (a:=⟨gM,0,none⟩) (hw _ h1)];exact hm
  ·rw[cell?_of_heap (w:=w) (a:=⟨gS,0,none⟩) (hw _ h3)];exact hs
  ·rw[cell?_of_heap (w:=w) (a:=⟨gR,0,none⟩) (hw _ h4)];exact hr}
end Go.V
namespace Go.V
end Go.V
