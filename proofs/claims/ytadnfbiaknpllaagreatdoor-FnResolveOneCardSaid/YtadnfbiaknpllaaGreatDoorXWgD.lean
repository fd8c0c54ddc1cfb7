/-
  NEW NUMBERS FOR THE OBJECTS.
-/
import Derived.Test.YtadnfbiaknpllaaGreatDoorXWgC
import Derived.Test.YtadnfbiaknpllaaGreatDoorXWgA
import Derived.Lib.ItoaNum
set_option linter.unusedVariables false
namespace Go.V
open Go
variable {K :di}{ρ ρ':List Value}{S S':Nat->Prop}{w w':World}{H H':List (Ob K)}
theorem QZ{α β:Type}{f:α->Option β}:∀(l:List α)(l':List β),vl f l=some l'->l'.length=l.length/\∀(i:Nat) y,l'[i]?=some y->∃x,l[i]?=some x/\f x=some y
 |[],l',h=>by simp[vl]at h;subst h;simp
 |x::l,l',h=>by
  simp only[vl]at h;split at h
  ·rename_i y m h1 h2;simp only[aw]at h;subst h;obtain⟨g1,g2⟩:=QZ l m h2;refine⟨by simp[g1],fun i z hi=>?_⟩;cases i with
   |zero=>simp at hi;subst hi;exact⟨x,rfl,h1⟩
   |succ i=>simp at hi;obtain⟨v,q1,q2⟩:=g2 i z hi;exact⟨v,by simpa using q1,q2⟩
  ·cases h
theorem KC{n0 n:Nat}:∀(src:List (Option Nat))(k:Nat),sY n0 n k src=true->
 (∀i:Nat,src[i]?=some none->k+i<n0)/\(∀(i h:Nat),src[i]?=some (some h)->h<n/\(k+i<n0->h=k+i))/\∀(i j h:Nat),src[i]?=some (some h)->src[j]?=some (some h)->i=j
 |[],k,h=>⟨fun i hi=>by simp at hi,fun i h hi=>by simp at hi,fun i j h hi=>by simp at hi⟩
 |none::r,k,h=>by
  simp only[sY,bu,bX]at h;obtain⟨a,b,c⟩:=KC r (k+1) h.2;refine⟨fun i hi=>?_,fun i g hi=>?_,fun i j g hi hj=>?_⟩
  ·cases i with
   |zero=>exact h.1
   |succ i=>have:=a i (by simpa using hi);omega
  ·cases i with
   |zero=>simp at hi
   |succ i=>have:=b i g (by simpa using hi);exact⟨this.1,fun hh=>by have:=this.2 (by omega);omega⟩
  ·cases i with
   |zero=>simp at hi
   |succ i=>
    cases j with
    |zero=>simp at hj
    |succ j=>rw[c i j g (by simpa using hi) (by simpa using hj)]
 |some g0::r,k,h=>by
  simp only[sY,bu,gu,bX,fb,xd,fa]at h;obtain⟨h1,h2,h3,h4⟩:=h;obtain⟨a,b,c⟩:=KC r (k+1) h4;refine⟨fun i hi=>?_,fun i g hi=>?_,fun i j g hi hj=>?_⟩
  ·cases i with
   |zero=>simp at hi
   |succ i=>have:=a i (by simpa using hi);omega
  ·cases i with
   |zero=>simp at hi;subst hi;exact⟨h1,fun hh=>by omega⟩
   |succ i=>have:=b i g (by simpa using hi);exact⟨this.1,fun hh=>by have:=this.2 (by omega);omega⟩
  ·cases i with
   |zero=>
    simp at hi;subst hi;cases j with
    |zero=>rfl
    |succ j=>exact absurd (iO (by simpa using hj)) h3
   |succ i=>
    cases j with
    |zero=>simp at hj;subst hj;exact absurd (iO (by simpa using hi)) h3
    |succ j=>rw[c i j g (by simpa using hi) (by simpa using hj)]
theorem afg{src:List (Option Nat)}{h i:Nat}(hi:sX src h=some i):src[i]?=some (some h):=by
 unfold sX at hi;rw[List.idxOf?_eq_some_iff]at hi;obtain⟨hlt,he,-⟩:=hi;rw[cJ hlt];simpa using he
def kK(ρ:List Value):Nat->List (Option Nat)->List Value
 |_,[]=>[]
 |i,none::r=>ρ.getD i undef::kK ρ (i+1) r
 |i,some h::r=>ρ.getD h undef::kK ρ (i+1) r
theorem ED{ρ:List Value}:∀(src:List (Option Nat))(k i:Nat)(x:Option Nat),src[i]?=some x->(kK ρ k src)[i]?=some (ρ.getD (x.getD (k+i)) undef)
 |[],k,i,x,h=>by simp at h
 |none::r,k,0,x,h=>by simp at h;subst h;simp[kK]
 |some h0::r,k,0,x,h=>by simp at h;subst h;simp[kK]
 |none::r,k,i+1,x,h=>by
  simp only[kK,List.getElem?_cons_succ];rw[ED r (k+1) i x (by simpa using h),kE,xi 1 i]
 |some h0::r,k,i+1,x,h=>by
  simp only[kK,List.getElem?_cons_succ];rw[ED r (k+1) i x (by simpa using h),kE,xi 1 i]
theorem KD{ρ:List Value}:∀(src:List (Option Nat))(k:Nat),(kK ρ k src).length=src.length
 |[],k=>rfl
 |none::r,k=>by simp[kK,KD r]
 |some h0::r,k=>by simp[kK,KD r]
theorem Q0{D:bC K}(hD:bT D)(hs:aM D ρ S w H){n0:Nat}(hn:n0<=H.length){src:List (Option Nat)}(hk:sY n0 H.length 0 src=true)(hl:n0<=src.length)(hm:vl (vm src H) src=some H'):
 aM D (kK ρ 0 src) S w H'/\Step D n0 ρ S H w (kK ρ 0 src) S H' w/\Ren (sX src) ρ (kK ρ 0 src)/\n0<=H'.length:=by
 obtain⟨k1,k2,k3⟩:=KC src 0 hk;obtain⟨m1,m2⟩:=QZ _ _ hm;have hlen:=hs.len;have KE:∀{h:Nat},h<H.length->some (ρ.getD h undef)=ρ[h]?:=fun{h} hh=>by
  rw[gp,cJ (show h<ρ.length by omega)];rfl
 have hsub:∀(i h:Nat),src[i]?=some (some h)->(kK ρ 0 src)[i]?=ρ[h]?:=fun i h hi=>by
  rw[ED src 0 i _ hi];exact KE (k2 i h hi).1
 have rz:Ren (sX src) ρ (kK ρ 0 src):=fun i j r hij hr=>by rw[hsub j i (afg hij)];exact hr
 have hsrc:∀{i:Nat}{o:Ob K},H'[i]?=some o->o.live=true->∃h o0,src[i]?=some (some h)/\H[h]?=some o0/\lq (sX src) o0=some o:=fun{i o} ho hlive=>by
  obtain⟨x,q1,q2⟩:=m2 i o ho;cases x with
  |none=>simp only[vm,aw]at q2;subst q2;simp[Ob.live]at hlive
  |some h=>
   simp only[vm]at q2;split at q2
   ·rename_i o0 ho0;exact⟨h,o0,q1,ho0,q2⟩
   ·cases q2
 have hown:∀b,Own D w (kK ρ 0 src) H' b->Own D w ρ H b:=fun b ⟨i,o,r,h1,h2,h3,h4⟩=>by
  obtain⟨h,o0,e1,e2,e3⟩:=hsrc h1 h2;rw[hsub i h e1]at h3;exact⟨h,o0,r,e2,by rw[<-nq e3];exact h2,h3,(oL e3).1 h4⟩
 refine⟨⟨by rw[KD,m1],fun i o r h1 h2=>?_,fun i j o o' r r' b h1 h2 h3 h4 g1 g2 g3 g4=>?_,fun b hb=>hs.lt b (hown b hb),hs.slt,hs.base⟩,⟨rfl,rfl,rfl,cq _,fun _ _ _=>rfl,fun b hb=>.inl (hown b hb),fun _ h=>h,fun _ h=>.inl h,fun i hi=>?_⟩,rz,by rw[m1];exact hl⟩
 ·obtain⟨x,q1,q2⟩:=m2 i o h1;cases x with
  |none=>simp only[vm,aw]at q2;subst q2;trivial
  |some h=>
   simp only[vm]at q2;split at q2
   ·rename_i o0 ho0;rw[hsub i h q1]at h2;exact Js hD rz q2 (hs.ob h o0 r ho0 h2)
   ·cases q2
 ·obtain⟨h,o0,e1,e2,e3⟩:=hsrc h1 h2;obtain⟨h',JA,c1,c2,c3⟩:=hsrc g1 g2;rw[hsub i h e1]at h3;rw[hsub j h' c1]at g3;have:=hs.ff h h' o0 JA r r' b e2 (by rw[<-nq e3];exact h2) h3 ((oL e3).1 h4) c2 (by rw[<-nq c3];exact g2) g3 ((oL c3).1 g4);subst this;exact k3 i j h e1 c1
 ·have hi':i<src.length:=by omega
  have hg:=cJ hi';rw[ED src 0 i _ hg];cases hx:src[i]with
  |none=>rw[Option.getD_none,dz];exact KE (by omega)
  |some h=>
   rw[hx]at hg;have:=(k2 i h hg).2 (by omega);rw[an,this,dz];exact KE (by omega)
def Goes(cx:Cx K)(n0:Nat)(st st':St K):Prop:=
 ∀(ρ:List Value)(S:Nat->Prop)(a:Act)(w:World),n0<=st.H.length->Sat cx ρ S a w st->n0<=st'.H.length/\∃ρ' S',Sat cx ρ' S' a w st'/\Step cx.D n0 ρ S st.H w ρ' S' st'.H w
theorem Goes.trans{cx:Cx K}{n0:Nat}{st st1 st2:St K}(a:Goes cx n0 st st1)(b:Goes cx n0 st1 st2):Goes cx n0 st st2:=fun ρ S a' w hn bH=>by
 obtain⟨h1,ρ1,S1,q1,q2⟩:=a ρ S a' w hn bH;obtain⟨h2,ρ2,S2,q3,q4⟩:=b ρ1 S1 a' w h1 q1;exact⟨h2,ρ2,S2,q3,q2.trans q4⟩
theorem EE{cx:Cx K}(hD:bT cx.D){n0:Nat}{src:List (Option Nat)}{keep:List Nat}{st st':St K}(h:rl n0 src keep st=some st'):st'.ok=st.ok/\dG st'.tm/\(dG st.tm->Goes cx n0 st st'):=by
 unfold rl at h;split at h
 ·rename_i hk;simp only[bu,bX]at hk;split at h
  ·rename_i vs H' hv hm;simp only[aw]at h;subst h;refine⟨rfl,QX hv,fun h0 ρ S a w hn bH=>?_⟩;obtain⟨s1,s2,s3,s4⟩:=Q0 hD bH.heap hn hk.1 hk.2 hm;refine⟨s4,_,S,⟨s1,KB bH.slots.len.symm fun i t v x g1 g2 g3=>?_,bH.defers⟩,s2⟩;obtain⟨v0,q1,q2⟩:=(vF _ _ hv).2 i v g2;simp only[jG,g1,iP,aw]at q1;subst q1;refine tp hD s3 _ v x q2 ?_;rw[gp];cases hg:st.tm[t]? with
   |none=>exact .any x
   |some v1=>exact bH.slots.rep h0 hg g3
  ·cases h
 ·cases h
end Go.V
namespace Go.V
open Go
variable {K :di}{ρ ρ':List Value}{S S':Nat->Prop}{w w':World}{H H':List (Ob K)}
theorem KF{cx:Cx K}(hD:bT cx.D){st:St K}{a:Act}(h0:dG st.tm)(bH:Sat cx ρ S a w st):∀(rs:List ResultVar)(l:List (AV K)),sW cx st rs=some l->
 ∃vs:List Value,(rs.mapM fun r=>(match r with
  |.tmp t=>pure (a.tmps.getD t undef)
  |.cell p t=>do loadVar t (<-asAddr (a.tmps.getD p undef)):Sem Value)).run cx.P w=.ok vs w/\bc cx.D ρ S w l vs
 |[],l,h=>by
   simp only[sW,aw]at h;subst h;exact⟨[],by simp,.nil⟩
 |.tmp t::r,l,h=>by
   simp only[sW]at h;split at h
   ·rename_i l1 h1;simp only[aw]at h;subst h;obtain⟨vs,q1,q2⟩:=KF hD h0 bH r l1 h1;refine⟨a.tmps.getD t undef::vs,?_,.cons ?_ q2⟩
    ·simp only[List.mapM_cons,Sem.run_bind,Sem.run_pure,Result.andThen_ok];rw[q1];rfl
    ·rw[gp,ou];cases hg:st.tm[t]? with
     |none=>exact .any _
     |some v=>
      obtain⟨x,hx,-⟩:=bH.slots.get hg;rw[hx];exact bH.slots.rep h0 hg hx
   ·cases h
 |.cell p t::r,l,h=>by
   simp only[sW]at h;split at h
   ·rename_i v l1 hv h1;simp only[aw]at h;subst h;obtain⟨vs,q1,q2⟩:=KF hD h0 bH r l1 h1;have hrep:Rep cx.D ρ S w (st.tm.getD p .any) (a.tmps.getD p undef):=by
     rw[gp,ou];cases hg:st.tm[p]? with
     |none=>exact .any _
     |some v=>
      obtain⟨x,hx,-⟩:=bH.slots.get hg;rw[hx];exact bH.slots.rep h0 hg hx
    obtain⟨u,hu,hr⟩:=OZ hD bH.heap hv hrep;refine⟨u::vs,?_,.cons hr q2⟩;have hu':(do loadVar t (<-asAddr (a.tmps.getD p undef)):Sem Value).run cx.P w=.ok u w:=by
     generalize a.tmps.getD p undef=X at hu;unfold Instr.loadAt at hu;simp only[Sem.run_bind]at hu⊢;cases X<;>first
      |(simp[Instr.sureAddr,Result.andThen]at hu;done)
      |skip
     rename_i pa;cases pa with
     |none=>simp[Instr.sureAddr,Result.andThen,stuck]at hu
     |some pa=>simpa [Instr.sureAddr,asAddr]using hu
    simp only[List.mapM_cons,Sem.run_bind]at hu'⊢;rw[hu'];simp only[Result.andThen_ok];rw[q1];rfl
   ·cases h
theorem afh{cx:Cx K}(hD:bT cx.D){fn:Func}{st:St K}{a:Act}(h0:dG st.tm)(bH:Sat cx ρ S a w st){v:AV K}(h:resV cx fn st=some v):∃u,(results fn a.tmps).run cx.P w=.ok u w/\Rep cx.D ρ S w v u:=by
 have key:∀l,sW cx st fn.results.toList=some l->∃vs:List Value,bc cx.D ρ S w l vs/\(results fn a.tmps).run cx.P w=.ok (if h:vs.toArray.size=1 then vs.toArray[0]else .tuple vs.toArray) w:=fun l hl=>by
  obtain⟨vs,q1,q2⟩:=KF hD h0 bH _ l hl;refine⟨vs,q2,?_⟩;unfold results;rw[Array.mapM_eq_mapM_toList];simp only[map_eq_pure_bind,bind_assoc,pure_bind,Sem.run_bind];exact Eq.trans (gV (fun z:Result (List Value)=>z.andThen fun l w'=>Sem.run cx.P (pure (if h:l.toArray.size=1 then l.toArray[0]else Value.tuple l.toArray)) w') q1) rfl
 unfold resV at h;split at h
 ·rename_i v1 hl;simp only[aw]at h;subst h;obtain⟨vs,q1,q2⟩:=key _ hl;obtain⟨x,r,rfl,hx,hr⟩:=q1.gz;have:=hr.oJ;subst this;exact⟨x,by rw[q2];rfl,pV bH.heap _ _ hx⟩
 ·rename_i l hne hl;simp only[aw]at h;subst h;obtain⟨vs,q1,q2⟩:=key _ hl;have q1':=Ai bH.heap _ _ q1;refine⟨.tuple vs.toArray,?_,.bA q1'.1 q1'.2⟩;rw[q2,dif_neg];intro h1;have:l.length=1:=by rw[q1.1];simpa using h1
  match l,this with
  |[x],_=>exact hne x rfl
 ·cases h
end Go.V
namespace Go.V
open Go
variable {K :di}{ρ ρ':List Value}{S S':Nat->Prop}{w w':World}{H H':List (Ob K)}
inductive pX (X Y:Type):Type 1 where
 |nx (x:X)
 |out (y:Y)
 |bad
 |br (b:Bool) (l r:pX X Y)
 |sum {A B:Type} (s:A⊕B) (f:A->pX X Y) (g:B->pX X Y)
noncomputable def pX.elim{X Y R:Type}(t:pX X Y)(nx:X->R)(out:Y->R)(bad:R):R:=
 pX.rec (motive:=fun _=>R) nx out bad (fun b _ _ l r=>cond b l r) (fun s _ _ f g=>Sum.rec (motive:=fun _=>R) f g s) t
theorem pX.cases{X Y:Type}(t:pX X Y):(∃x,∀(R:Type) nx out bad,t.elim (R:=R) nx out bad=nx x)\/(∃y,∀(R:Type) nx out bad,t.elim (R:=R) nx out bad=out y)\/∀(R:Type) nx out bad,t.elim (R:=R) nx out bad=bad:=by
 induction t with
 |nx x=>exact .inl ⟨x,fun _ _ _ _=>rfl⟩
 |out y=>exact .inr (.inl ⟨y,fun _ _ _ _=>rfl⟩)
 |bad=>exact .inr (.inr fun _ _ _ _=>rfl)
 |br b l r ihl ihr=>cases b;exact ihr;exact ihl
 |sum s f g ihf ihg=>
  cases s with
  |inl a=>exact ihf a
  |inr b=>exact ihg b
noncomputable def iter{X Y:Type}(step:X->pX X Y):Nat->X->Option Y
 |0,_=>none
 |n+1,x=>(step x).elim (iter step n) some none
structure mO (K:di) (X Y:Type) where
 n:Nat
 n0:Nat
 ins:List Nat
 outs:List Nat
 start:List (AV K)->List (Ob K)->Option X
 vals:X->List (AV K)
 afk:X->List (Ob K)
 step:X->pX X Y
 chk:X->Bool
 fin:X->Y
 out:Y->{R:Type}->(Ex->List (AV K)->List (Ob K)->R)->R
variable {X Y:Type}
def mO.st(M:mO K X Y)(x:X):St K:=⟨eH (List.replicate M.n .any) M.ins (M.vals x),M.afk x,true⟩
def mO.fst(M:mO K X Y)(y:Y):Ex×St K:=M.out y fun e vs Ho=>(e,⟨eH (List.replicate M.n .any) M.outs vs,Ho,true⟩)
def mO.Q1(M:mO K X Y):bM K:={
 n:=M.n
 ins:=M.ins
 outs:=M.outs
 run vs H k:=match M.start vs H with
  |some x=>cond (M.chk x) (M.out (M.fin x) k) none
  |none=>none}
noncomputable def mO.tree(M:mO K X Y)(x:X):Option (St K⊕Ex×St K):=(M.step x).elim (fun x'=>some (.inl (M.st x'))) (fun y=>some (.inr (M.fst y))) none
theorem Q2{cx:Cx K}(hD:bT cx.D){s s1:St K}(h:sZ cx s=some (true,s1)):s1.tm=s.tm/\s1.ok=s.ok/\s1.H.length=s.H.length/\∀(n0:Nat)(ρ:List Value)(S:Nat->Prop)(a:Act)(w:World),Sat cx ρ S a w s->Sat cx ρ S a w s1/\Step cx.D n0 ρ S s.H w ρ S s1.H w:=by
 unfold sZ at h;split at h
 ·simp only[aw,aP,true_and]at h;subst h;exact⟨rfl,rfl,rfl,fun n0 ρ S a w hs=>⟨hs,Step.refl⟩⟩
 ·split at h
  ·rename_i H' b t hsh;simp only[aw,aP]at h;obtain⟨rfl,rfl⟩:=h;have hl:H'.length=s.H.length:=by
    unfold shut at hsh;split at hsh
    ·simp only[aw,aP]at hsh;rw[<-hsh.1]
    ·cases hsh
   refine⟨rfl,rfl,hl,fun n0 ρ S a w hs=>?_⟩;obtain⟨g1,g2,-⟩:=P6 (n0:=n0) hD hs.heap hsh;exact⟨⟨g1,hs.slots,hs.defers⟩,g2⟩
  ·cases h
theorem Q3{cx:Cx K}(hD:bT cx.D)(hc:aY cx)(hm:cx.P.follows .mixedOrders=true){c:Code}(hl:iD cx c){n0:Nat}{keep outs:List Nat}{st:St K}{r:St K⊕Ex×St K}(h:DR cx n0 keep outs c st=some r)(h0:dG st.tm):
 st.ok=true/\match r with
   |.inl st'=>dG st'.tm/\Tr cx n0 c st .normal st'
   |.inr (e,st')=>e≠.normal/\Tr cx n0 c st e st':=by
 unfold DR at h;obtain⟨e,s,h1,h2,h3⟩:=pW hD hc hm c hl _ _ _ h;cases hok:s.ok with
 |false=>rw[hok]at h1;cases h1
 |true=>
  rw[hok]at h1;simp only[ad]at h1;obtain⟨n1,htr⟩:=h3 hok h0;refine⟨h2 hok,?_⟩;have key:∀keep' s1 s',sZ cx s=some (true,s1)->vo n0 keep' s1=some s'->dG s'.tm/\Tr cx n0 c st e s':=fun keep' s1 s' hcl hn=>by
   obtain⟨g1,g2⟩:dG s'.tm/\(dG s1.tm->Goes cx n0 s1 s'):=(EE (cx:=cx) hD hn).2;obtain⟨c1,c2,c3,c4⟩:=Q2 hD hcl;refine⟨g1,fun ρ S a w hn0 bH=>wp_mono (htr n0 ρ S a w hn0 bH) ?_⟩
   rintro e' a' w' ⟨he,hn1,ρ1,S1,fK,hst1⟩
   obtain⟨afl,afm⟩:=c4 n0 ρ1 S1 a' w' fK;obtain⟨hn2,ρ2,S2,AI,hst2⟩:=g2 (by rw[c1];exact n1) ρ1 S1 a' w' (by rw[c3];exact hn1) afl;exact⟨he,hn2,ρ2,S2,AI,(hst1.trans afm).trans hst2⟩
  cases e with
  |normal=>
   dsimp only at h1;split at h1
   ·rename_i b s1 hcl;cases b with
    |false=>cases h1
    |true=>
    simp only[ad]at h1;split at h1
    ·rename_i s' hn;simp only[aw]at h1;subst h1;exact key _ _ _ hcl hn
    ·cases h1
   ·cases h1
  |exit id=>
   dsimp only at h1;split at h1
   ·rename_i b s1 hcl;cases b with
    |false=>cases h1
    |true=>
    simp only[ad]at h1;split at h1
    ·rename_i s' hn;simp only[aw]at h1;subst h1;exact⟨by simp,(key _ _ _ hcl hn).2⟩
    ·cases h1
   ·cases h1
  |ret=>
   dsimp only at h1;split at h1
   ·rename_i b s1 hcl;cases b with
    |false=>cases h1
    |true=>
    simp only[ad]at h1;split at h1
    ·rename_i s' hn;simp only[aw]at h1;subst h1;exact⟨by simp,(key _ _ _ hcl hn).2⟩
    ·cases h1
   ·cases h1
theorem Q4{cx:Cx K}(hD:bT cx.D)(hc:aY cx)(hm:cx.P.follows .mixedOrders=true){c:Code}(hl:iD cx c){M:mO K X Y}(hr:∀x,DR cx M.n0 M.ins M.outs c (M.st x)=M.tree x){ρ0:List Value}{S0:Nat->Prop}{H0:List (Ob K)}{w0:World}{y:Y}:
 ∀(n:Nat)(x:X),iter M.step n x=some y->dG (M.st x).tm->∀(ρ:List Value)(S:Nat->Prop)(a:Act)(w:World),M.n0<=(M.st x).H.length->Sat cx ρ S a w (M.st x)->Step cx.D M.n0 ρ0 S0 H0 w0 ρ S (M.st x).H w->
  Code.rounds cx.P c (fun e' a' w'=>e'=(M.fst y).1.ox/\M.n0<=(M.fst y).2.H.length/\∃ρ' S',Sat cx ρ' S' a' w' (M.fst y).2/\Step cx.D M.n0 ρ0 S0 H0 w0 ρ' S' (M.fst y).2.H w') n a w
 |0,x,h,_,_,_,_,_,_,_,_=>by simp[iter]at h
 |n+1,x,h,h0,ρ,S,a,w,hn,bH,hst=>by
  have hrx:=hr x;rw[rounds_succ];simp only[iter]at h;unfold mO.tree at hrx;rcases(M.step x).cases with⟨x',hx⟩|⟨y',hy⟩|hb
  ·rw[hx]at h hrx;obtain⟨-,n1,htr⟩:=Q3 hD hc hm hl hrx h0;refine wp_mono (htr ρ S a w hn bH) ?_
   rintro e' a' w' ⟨rfl,hn1,ρ1,S1,fK,hst1⟩
   exact Q4 hD hc hm hl hr n x' h n1 ρ1 S1 a' w' hn1 fK (hst.trans hst1)
  ·rw[hy]at h hrx;simp only[aw]at h;subst h;obtain⟨-,hne,htr⟩:=Q3 hD hc hm hl hrx h0;refine wp_mono (htr ρ S a w hn bH) ?_
   rintro e' a' w' ⟨rfl,hn1,ρ1,S1,fK,hst1⟩
   have:∀(e:Ex),e≠.normal->∀(N:Act->World->Prop)(Q:Exit->Act->World->Prop),Q e.ox a' w'->Exit.then N Q e.ox a' w':=fun e he N Q hq=>by
    cases e with
    |normal=>exact absurd rfl he
    |exit id=>exact hq
    |ret=>exact hq
   exact this _ hne _ _ ⟨rfl,hn1,ρ1,S1,fK,hst.trans hst1⟩
  ·rw[hb]at h;cases h
theorem mO.ok{cx:Cx K}(hD:bT cx.D)(hc:aY cx)(hm:cx.P.follows .mixedOrders=true){c:Code}(hl:iD cx c)(M:mO K X Y)(hr:∀x,DR cx M.n0 M.ins M.outs c (M.st x)=M.tree x)
 (hs:∀vs Hi x,M.start vs Hi=some x->Hi.length=M.n0/\Goes cx M.n0 ⟨eH (List.replicate M.n .any) M.ins vs,Hi,true⟩ (M.st x)) (hno:∀x,(M.vals x).all (fun v=> !v.jH)=true)
 (hf:∀x,M.chk x=true->∃n,iter M.step n x=some (M.fin x)) (ho:∀y,∃e vs Ho,∀(R:Type)(k:Ex->List (AV K)->List (Ob K)->R),M.out y k=k e vs Ho):bP cx c M.Q1:=by
 intro vals Hi R k r h;simp only[mO.Q1]at h;split at h
 ·rename_i x hx;cases KG:M.chk x with
  |false=>rw[KG]at h;cases h
  |true=>
   rw[KG]at h;simp only[ad]at h;obtain⟨n,hn⟩:=hf x KG;obtain⟨e,vs,Ho,hout⟩:=ho (M.fin x);rw[hout]at h;refine⟨e,vs,Ho,h,?_⟩;obtain⟨hlen,hgo⟩:=hs vals Hi x hx;have afn:M.fst (M.fin x)=(e,⟨eH (List.replicate M.n .any) M.outs vs,Ho,true⟩):=hout _ _;have h0:dG (M.st x).tm:=fun t g b v e=>by
    rcases xY M.ins (M.vals x) _ t _ e with h1|⟨i,-,h2⟩
    ·rw[mF]at h1;split at h1<;>cases h1
    ·have:=fO.1 (hno x) _ (iO h2);simp[AV.jH]at this
   intro ρ S a w hn0 bH;rw[hlen]at hn0⊢;obtain⟨hn1,ρ1,S1,fK,hst1⟩:=hgo ρ S a w (by show M.n0<=Hi.length;omega) bH;have:=Q4 hD hc hm hl hr n x hn h0 ρ1 S1 a w hn1 fK hst1;rw[afn]at this;exact wp_loop_rounds n this
 ·cases h
end Go.V
namespace Go.V
open Go
variable {K :di}{D:bC K}{ρ ρ':List Value}{S S':Nat->Prop}{w w':World}{H H':List (Ob K)}
inductive Sh (K:di) where
 |any
 |int (k:IntKind)
 |bool
 |str
 |ax (c:K.U)
 |el (c:K.U)
 |rp (c:K.U) (off:Nat)
 |dD
 |dt
 |ptr (h off:Nat)
 |own (h:Nat)
 |fn (g:Nat) (caps:List (Sh K))
 |agg (l:List (Sh K))
 |bA (l:List (Sh K))
 |np (h:Nat)
 |ep (h:Nat) (c:K.U) (off:Nat)
inductive aQ (K:di) where
 |dead
 |box (l:List (Sh K))
 |el (c:K.U)
 |arr (c:K.U)
 |gW (c:K.U)
 |tree (c:K.U)
mutual
def Sh.T:Sh K->Type
 |.int _=>Int
 |.bool=>Bool
 |.str=>List UInt8
 |.ax c=>List (K.El c)
 |.el c=>K.El c
 |.rp c _=>K.El c
 |.ep _ _ _=>Nat
 |.fn _ l=>Sh.Ts l
 |.agg l=>Sh.Ts l
 |.bA l=>Sh.Ts l
 |_=>Unit
def Sh.Ts:List (Sh K)->Type
 |[]=>Unit
 |s::r=>Sh.T s×Sh.Ts r
end
def aQ.T:aQ K->Type
 |.dead=>Unit
 |.box l=>Sh.Ts l
 |.el c=>K.El c
 |.arr c=>List (K.El c)
 |.gW c=>List (K.El c)
 |.tree c=>List (K.El c)
def aQ.Ts:List (aQ K)->Type
 |[]=>Unit
 |s::r=>aQ.T s×aQ.Ts r
mutual
def Sh.enc(D:bC K):(s:Sh K)->s.T->AV K
 |.any,_=>.any
 |.int k,n=>.int k n
 |.bool,b=>.bool b
 |.str,s=>.str s
 |.ax c,l=>.ax c l
 |.el c,x=>.agg (D.cells c x)
 |.rp c o,x=>.rp c x o
 |.dD,_=>.dD
 |.dt,_=>.dt
 |.ptr h o,_=>.ptr h o
 |.own h,_=>.sl h
 |.np h,_=>.np h
 |.ep h c o,i=>.ep h (K.sz c) i o
 |.fn g l,x=>.fn g (Sh.encs D l x)
 |.agg l,x=>.agg (Sh.encs D l x)
 |.bA l,x=>.bA (Sh.encs D l x)
def Sh.encs(D:bC K):(l:List (Sh K))->Sh.Ts l->List (AV K)
 |[],_=>[]
 |s::r,x=>Sh.enc D s x.1::Sh.encs D r x.2
end
def aQ.enc(D:bC K):(s:aQ K)->s.T->Ob K
 |.dead,_=>.dead
 |.box l,x=>.box (Sh.encs D l x)
 |.el c,x=>.box (D.cells c x)
 |.arr c,x=>.arr c x
 |.gW c,x=>.gW c x
 |.tree c,x=>.tree c x
def aQ.encs(D:bC K):(l:List (aQ K))->aQ.Ts l->List (Ob K)
 |[],_=>[]
 |s::r,x=>aQ.enc D s x.1::aQ.encs D r x.2
def AV.getInt(k:IntKind):AV K->Option Int
 |.int k' n=>if k=k' then some n else none
 |_=>none
def AV.getBool:AV K->Option Bool
 |.bool b=>some b
 |_=>none
def AV.KH:AV K->Option (List UInt8)
 |.str s=>some s
 |_=>none
def AV.EF:AV K->Option (List (AV K))
 |.agg l=>some l
 |_=>none
def AV.KI:AV K->Option (List (AV K))
 |.bA l=>some l
 |_=>none
def AV.getFn(g:Nat):AV K->Option (List (AV K))
 |.fn g' l=>if g=g' then some l else none
 |_=>none
def AV.KJ(c:K.U)(o:Nat):AV K->Option (K.El c)
 |.rp c' x o'=>if o=o' then match K.kF c' c with
   |.isTrue h=>some (h ▸ x)
   |.isFalse _=>none else none
 |_=>none
def AV.KL:AV K->Option Unit
 |.dD=>some ()
 |_=>none
def AV.KN:AV K->Option Unit
 |.dt=>some ()
 |_=>none
def AV.KO(h o:Nat):AV K->Option Unit
 |.ptr h' o'=>if h=h' then if o=o' then some ()else none else none
 |_=>none
def AV.KP(h:Nat):AV K->Option Unit
 |.sl h'=>if h=h' then some ()else none
 |_=>none
def AV.KQ(h:Nat):AV K->Option Unit
 |.np h'=>if h=h' then some ()else none
 |_=>none
def AV.KR(h:Nat)(c:K.U)(o:Nat):AV K->Option Nat
 |.ep h' st i o'=>if h=h' then if K.sz c=st then if o=o' then some i else none else none else none
 |_=>none
theorem AV.afo{h:Nat}{c:K.U}{o:Nat}{v:AV K}{n:Nat}(hh:v.KR h c o=some n):v=.ep h (K.sz c) n o:=by
 unfold AV.KR at hh;split at hh
 ·split at hh
  ·split at hh
   ·split at hh
    ·rename_i h1 h2 h3;subst h1;subst h2;subst h3;simp only[aw]at hh;subst hh;rfl
    ·cases hh
   ·cases hh
  ·cases hh
 ·cases hh
theorem AV.KU{k:IntKind}{v:AV K}{n:Int}(h:v.getInt k=some n):v=.int k n:=by
 unfold AV.getInt at h;split at h
 ·split at h
  ·rename_i hk;subst hk;simp only[aw]at h;subst h;rfl
  ·cases h
 ·cases h
theorem AV.KV{v:AV K}{n:Bool}(h:v.getBool=some n):v=.bool n:=by
 unfold AV.getBool at h;split at h
 ·simp only[aw]at h;subst h;rfl
 ·cases h
theorem AV.KW{v:AV K}{n:List UInt8}(h:v.KH=some n):v=.str n:=by
 unfold AV.KH at h;split at h
 ·simp only[aw]at h;subst h;rfl
 ·cases h
theorem AV.Q5{v:AV K}{n:List (AV K)}(h:v.EF=some n):v=.agg n:=by
 unfold AV.EF at h;split at h
 ·simp only[aw]at h;subst h;rfl
 ·cases h
theorem AV.afp{v:AV K}{n:List (AV K)}(h:v.KI=some n):v=.bA n:=by
 unfold AV.KI at h;split at h
 ·simp only[aw]at h;subst h;rfl
 ·cases h
theorem AV.afq{g:Nat}{v:AV K}{n:List (AV K)}(h:v.getFn g=some n):v=.fn g n:=by
 unfold AV.getFn at h;split at h
 ·split at h
  ·rename_i hk;subst hk;simp only[aw]at h;subst h;rfl
  ·cases h
 ·cases h
theorem AV.afr{c:K.U}{o:Nat}{v:AV K}{n:K.El c}(h:v.KJ c o=some n):v=.rp c n o:=by
 unfold AV.KJ at h;split at h
 ·split at h
  ·rename_i hk;subst hk;split at h
   ·rename_i he _;subst he;simp only[aw]at h;subst h;rfl
   ·cases h
  ·cases h
 ·cases h
theorem AV.afs{v:AV K}{n:Unit}(h:v.KL=some n):v=.dD:=by
 unfold AV.KL at h;split at h
 ·rfl
 ·cases h
theorem AV.aft{v:AV K}{n:Unit}(h:v.KN=some n):v=.dt:=by
 unfold AV.KN at h;split at h
 ·rfl
 ·cases h
theorem AV.afu{a o:Nat}{v:AV K}{n:Unit}(h:v.KO a o=some n):v=.ptr a o:=by
 unfold AV.KO at h;split at h
 ·split at h
  ·split at h
   ·rename_i h1 h2;subst h1;subst h2;rfl
   ·cases h
  ·cases h
 ·cases h
theorem AV.afv{a:Nat}{v:AV K}{n:Unit}(h:v.KP a=some n):v=.sl a:=by
 unfold AV.KP at h;split at h
 ·split at h
  ·rename_i h1;subst h1;rfl
  ·cases h
 ·cases h
theorem AV.Q6{a:Nat}{v:AV K}{n:Unit}(h:v.KQ a=some n):v=.np a:=by
 unfold AV.KQ at h;split at h
 ·split at h
  ·rename_i h1;subst h1;rfl
  ·cases h
 ·cases h
def sure{α:Type}:Option (α×Bool)->Option α
 |some (x,true)=>some x
 |_=>none
theorem Q7{α:Type}{o:Option (α×Bool)}{x:α}(h:sure o=some x):o=some (x,true):=by
 unfold sure at h;split at h
 ·simp only[aw]at h;subst h;rfl
 ·cases h
mutual
def Sh.dec(D:bC K):(s:Sh K)->AV K->Option s.T
 |.any,_=>some ()
 |.int k,v=>v.getInt k
 |.bool,v=>v.getBool
 |.str,v=>v.KH
 |.ax c,v=>elems [] c v
 |.el c,v=>match v.EF with
   |some l=>sure (D.dec c l)
   |none=>none
 |.rp c o,v=>v.KJ c o
 |.dD,v=>v.KL
 |.dt,v=>v.KN
 |.ptr h o,v=>v.KO h o
 |.own h,v=>v.KP h
 |.np h,v=>v.KQ h
 |.ep h c o,v=>v.KR h c o
 |.fn g l,v=>match v.getFn g with
   |some l'=>Sh.ek D l l'
   |none=>none
 |.agg l,v=>match v.EF with
   |some l'=>Sh.ek D l l'
   |none=>none
 |.bA l,v=>match v.KI with
   |some l'=>Sh.ek D l l'
   |none=>none
def Sh.ek(D:bC K):(l:List (Sh K))->List (AV K)->Option (Sh.Ts l)
 |[],[]=>some ()
 |s::r,v::l=>match Sh.dec D s v,Sh.ek D r l with
  |some x,some y=>some (x,y)
  |_,_=>none
 |_,_=>none
end
def Ob.xZ:Ob K->Option (List (AV K))
 |.box l=>some l
 |_=>none
def Ob.KX(c:K.U):Ob K->Option (List (K.El c))
 |.arr c' l=>match K.kF c' c with
   |.isTrue h=>some (h ▸ l)
   |.isFalse _=>none
 |_=>none
def Ob.KY(c:K.U):Ob K->Option (List (K.El c))
 |.gW c' l=>match K.kF c' c with
   |.isTrue h=>some (h ▸ l)
   |.isFalse _=>none
 |_=>none
def Ob.KZ(c:K.U):Ob K->Option (List (K.El c))
 |.tree c' l=>match K.kF c' c with
   |.isTrue h=>some (h ▸ l)
   |.isFalse _=>none
 |_=>none
theorem Ob.Q8{v:Ob K}{n:List (AV K)}(h:v.xZ=some n):v=.box n:=by
 unfold Ob.xZ at h;split at h
 ·simp only[aw]at h;subst h;rfl
 ·cases h
theorem Ob.afw{c:K.U}{v:Ob K}{n:List (K.El c)}(h:v.KX c=some n):v=.arr c n:=by
 unfold Ob.KX at h;split at h
 ·split at h
  ·rename_i he _;subst he;simp only[aw]at h;subst h;rfl
  ·cases h
 ·cases h
theorem Ob.afx{c:K.U}{v:Ob K}{n:List (K.El c)}(h:v.KY c=some n):v=.gW c n:=by
 unfold Ob.KY at h;split at h
 ·split at h
  ·rename_i he _;subst he;simp only[aw]at h;subst h;rfl
  ·cases h
 ·cases h
theorem Ob.afy{c:K.U}{v:Ob K}{n:List (K.El c)}(h:v.KZ c=some n):v=.tree c n:=by
 unfold Ob.KZ at h;split at h
 ·split at h
  ·rename_i he _;subst he;simp only[aw]at h;subst h;rfl
  ·cases h
 ·cases h
def aQ.dec(D:bC K):(s:aQ K)->Ob K->Option s.T
 |.dead,_=>some ()
 |.box l,o=>match o.xZ with
   |some cs=>Sh.ek D l cs
   |none=>none
 |.el c,o=>match o.xZ with
   |some cs=>sure (D.dec c cs)
   |none=>none
 |.arr c,o=>o.KX c
 |.gW c,o=>o.KY c
 |.tree c,o=>o.KZ c
def aQ.ek(D:bC K):(l:List (aQ K))->List (Ob K)->Option (aQ.Ts l)
 |[],[]=>some ()
 |s::r,v::l=>match aQ.dec D s v,aQ.ek D r l with
  |some x,some y=>some (x,y)
  |_,_=>none
 |_,_=>none
theorem afz(hD:bT D){c:K.U}{v:AV K}{l:List (K.El c)}(h:elems [] c v=some l){u:Value}(hr:Rep D ρ S w v u):Rep D ρ S w (.ax c l) u:=by
 unfold elems at h;split at h
 ·simp only[aw]at h;subst h;cases hr;exact .fm _ _
 ·split at h
  ·rename_i he _;subst he;simp only[aw]at h;subst h;exact hr
  ·cases h
 ·simp at h
 ·cases h
mutual
theorem Sh.x5(hD:bT D):∀(s:Sh K)(v:AV K)(x:s.T),Sh.dec D s v=some x->∀u,Rep D ρ S w v u->Rep D ρ S w (Sh.enc D s x) u
 |.any,v,x,h,u,hr=>.any u
 |.int k,v,x,h,u,hr=>by rw[AV.KU h]at hr;exact hr
 |.bool,v,x,h,u,hr=>by rw[AV.KV h]at hr;exact hr
 |.str,v,x,h,u,hr=>by rw[AV.KW h]at hr;exact hr
 |.ax c,v,x,h,u,hr=>afz hD h hr
 |.el c,v,x,h,u,hr=>by
   unfold Sh.dec at h;split at h
   ·rename_i l hl;rw[AV.Q5 hl]at hr;cases hr with
    |agg hl hh=>
     have:=hD.dec c _ _ (Q7 h) ρ S w _ ⟨hl,hh⟩;exact .agg this.1 this.2
   ·cases h
 |.rp c o,v,x,h,u,hr=>by rw[AV.afr h]at hr;exact hr
 |.dD,v,x,h,u,hr=>by rw[AV.afs h]at hr;exact hr
 |.dt,v,x,h,u,hr=>by rw[AV.aft h]at hr;exact hr
 |.ptr a b,v,x,h,u,hr=>by rw[AV.afu h]at hr;exact hr
 |.own a,v,x,h,u,hr=>by rw[AV.afv h]at hr;exact hr
 |.np a,v,x,h,u,hr=>by rw[AV.Q6 h]at hr;exact hr
 |.ep a c o,v,x,h,u,hr=>by rw[AV.afo h]at hr;exact hr
 |.fn g l,v,x,h,u,hr=>by
   unfold Sh.dec at h;split at h
   ·rename_i l' hl;rw[AV.afq hl]at hr;cases hr with
    |fn hl hh=>
     have:=Sh.tB hD l _ x h _ ⟨hl,hh⟩;exact .fn this.1 this.2
   ·cases h
 |.agg l,v,x,h,u,hr=>by
   unfold Sh.dec at h;split at h
   ·rename_i l' hl;rw[AV.Q5 hl]at hr;cases hr with
    |agg hl hh=>
     have:=Sh.tB hD l _ x h _ ⟨hl,hh⟩;exact .agg this.1 this.2
   ·cases h
 |.bA l,v,x,h,u,hr=>by
   unfold Sh.dec at h;split at h
   ·rename_i l' hl;rw[AV.afp hl]at hr;cases hr with
    |bA hl hh=>
     have:=Sh.tB hD l _ x h _ ⟨hl,hh⟩;exact .bA this.1 this.2
   ·cases h
theorem Sh.tB(hD:bT D):∀(l:List (Sh K))(vs:List (AV K))(x:Sh.Ts l),Sh.ek D l vs=some x->∀us,bc D ρ S w vs us->bc D ρ S w (Sh.encs D l x) us
 |[],vs,x,h,us,hr=>by
   cases vs with
   |nil=>exact hr
   |cons v r=>unfold Sh.ek at h;cases h
 |s::r,vs,x,h,us,hr=>by
  cases vs with
  |nil=>unfold Sh.ek at h;cases h
  |cons v l=>
   unfold Sh.ek at h;split at h
   ·rename_i a b h1 h2;have h:=ie h;subst h;obtain⟨u,t,rfl,g1,g2⟩:=hr.gz;exact .cons (Sh.x5 hD s v a h1 u g1) (Sh.tB hD r l b h2 t g2)
   ·cases h
end
theorem afA{l:List (AV K)}(h:ij l=true):lp l=false:=by
 cases l with
 |nil=>rfl
 |cons v r=>
  simp only[ij,bu]at h;cases v<;>first|rfl|(simp[AV.closed]at h)
theorem afB{l:List (Sh K)}{cs:List (AV K)}{x:Sh.Ts l}(h:Sh.ek D l cs=some x)(hn:lp (Sh.encs D l x)=true):lp cs=true:=by
 cases l with
 |nil=>unfold Sh.encs at hn;cases hn
 |cons s r=>
  cases cs with
  |nil=>unfold Sh.ek at h;cases h
  |cons v vs=>
   unfold Sh.ek at h;split at h
   ·rename_i a b h1 h2;have h:=ie h;subst h;change lp (Sh.enc D s a::Sh.encs D r b)=true at hn;cases s
    all_goals first
     |exact absurd (show false=true from hn) (by simp)
     |(have h3:=AV.Q6 (v:=v) h1;rw[h3];rfl)
   ·cases h
theorem aQ.x5(hD:bT D)(s:aQ K)(o:Ob K)(x:s.T)(h:aQ.dec D s o=some x):((aQ.enc D s x).live=true->o.live=true/\∀w r b,cG D w (aQ.enc D s x) r b->cG D w o r b)/\∀r,gX D ρ S w o r->gX D ρ S w (aQ.enc D s x) r:=by
 cases s with
 |dead=>exact⟨fun h=>Bool.noConfusion h,fun _ _=>trivial⟩
 |box l=>
  change(match o.xZ with
   |some cs=>Sh.ek D l cs
   |none=>none)=some x at h
  split at h
  ·rename_i cs hcs;rw[Ob.Q8 hcs];refine⟨fun _=>⟨rfl,fun _ _ _ h=>h⟩,fun r hh=>?_⟩;obtain⟨b,vs,T,e,h1,h2,h3⟩:=hh;exact⟨b,vs,T,e,h1,Sh.tB hD l _ x h _ h2,fun hn=>h3 (afB h hn)⟩
  ·cases h
 |el c=>
  change(match o.xZ with
   |some cs=>sure (D.dec c cs)
   |none=>none)=some x at h
  split at h
  ·rename_i cs hcs;rw[Ob.Q8 hcs];refine⟨fun _=>⟨rfl,fun _ _ _ h=>h⟩,fun r hh=>?_⟩;obtain⟨b,vs,T,e,h1,h2,h3⟩:=hh;exact⟨b,vs,T,e,h1,hD.dec c _ _ (Q7 h) ρ S w _ h2,fun hn=>by rw[afA (hD.closed c x)]at hn;cases hn⟩
  ·cases h
 |arr c=>rw[Ob.afw h];exact⟨fun h=>⟨h,fun _ _ _ h=>h⟩,fun _ h=>h⟩
 |gW c=>rw[Ob.afx h];exact⟨fun h=>⟨h,fun _ _ _ h=>h⟩,fun _ h=>h⟩
 |tree c=>rw[Ob.afy h];exact⟨fun h=>⟨h,fun _ _ _ h=>h⟩,fun _ h=>h⟩
theorem aQ.EG:∀(l:List (aQ K))(os:List (Ob K))(x:aQ.Ts l),aQ.ek D l os=some x->(aQ.encs D l x).length=os.length/\∀(i:Nat) o',(aQ.encs D l x)[i]?=some o'->∃o,os[i]?=some o/\∃(s:aQ K)(y:s.T),aQ.dec D s o=some y/\o'=aQ.enc D s y
 |[],os,x,h=>by
   cases os with
   |nil=>exact⟨rfl,fun i o' h=>by simp[aQ.encs]at h⟩
   |cons v r=>simp[aQ.ek]at h
 |s::r,os,x,h=>by
  cases os with
  |nil=>simp[aQ.ek]at h
  |cons v l=>
   simp only[aQ.ek]at h;split at h
   ·rename_i a b h1 h2;have h:=ie h;subst h;obtain⟨g1,g2⟩:=aQ.EG r l b h2;refine⟨by simp only[aQ.encs,aE];rw[g1],fun i o' hi=>?_⟩;cases i with
    |zero=>simp[aQ.encs]at hi;exact⟨v,rfl,s,a,h1,hi.symm⟩
    |succ i=>simp[aQ.encs]at hi;obtain⟨o,q⟩:=g2 i o' hi;exact⟨o,by simpa using q.1,q.2⟩
   ·cases h
structure Wk (D:bC K) (vs:List (AV K)) (H:List (Ob K)) (vs':List (AV K)) (H':List (Ob K)):Prop where
 len:H'.length=H.length
 K0:∀ρ S w us,bc D ρ S w vs us->bc D ρ S w vs' us
 heap:∀ρ S w,aM D ρ S w H->aM D ρ S w H'
 own:∀w ρ b,Own D w ρ H' b->Own D w ρ H b
theorem Wk.step{vs vs':List (AV K)}{n0:Nat}(h:Wk D vs H vs' H'):Step D n0 ρ S H w ρ S H' w:=
 ⟨rfl,rfl,rfl,cq _,fun _ _ _=>rfl,fun b hb=>.inl (h.own _ _ b hb),fun _ h=>h,fun _ h=>.inl h,fun _ _=>rfl⟩
theorem aQ.Q9{l:List (aQ K)}{os:List (Ob K)}{x:aQ.Ts l}(hD:bT D)(h:aQ.ek D l os=some x)(w:World)(ρ:List Value)(b:Nat)(hb:Own D w ρ (aQ.encs D l x) b):Own D w ρ os b:=by
 obtain⟨i,o',r,h1,h2,h3,h4⟩:=hb;obtain⟨o,q1,s,y,q2,rfl⟩:=(aQ.EG l os x h).2 i o' h1;have q3:=(aQ.x5 (ρ:=ρ) (S:=fun _=>False) (w:=w) hD s o y q2).1 h2;exact⟨i,o,r,q1,q3.1,h3,q3.2 _ _ _ h4⟩
theorem aQ.tB{l:List (aQ K)}{os:List (Ob K)}{x:aQ.Ts l}(hD:bT D)(h:aQ.ek D l os=some x)(hs:aM D ρ S w os):aM D ρ S w (aQ.encs D l x):=by
 obtain⟨g1,g2⟩:=aQ.EG l os x h;refine⟨by rw[g1];exact hs.len,fun i o' r h1 h2=>?_,fun i j o o' r r' b h1 h2 h3 h4 c1 c2 c3 c4=>?_,fun b hb=>hs.lt b (aQ.Q9 hD h w ρ b hb),hs.slt,hs.base⟩
 ·obtain⟨o,q1,s,y,q2,rfl⟩:=g2 i o' h1;exact(aQ.x5 hD s o y q2).2 r (hs.ob i o r q1 h2)
 ·obtain⟨o1,q1,s,y,q2,rfl⟩:=g2 i o h1;obtain⟨o2,p1,s',y',p2,rfl⟩:=g2 j o' c1;have a1:=(aQ.x5 (ρ:=ρ) (S:=S) (w:=w) hD s o1 y q2).1 h2;have a2:=(aQ.x5 (ρ:=ρ) (S:=S) (w:=w) hD s' o2 y' p2).1 c2;exact hs.ff i j o1 o2 r r' b q1 a1.1 h3 (a1.2 _ _ _ h4) p1 a2.1 c3 (a2.2 _ _ _ c4)
structure aJ (K:di) where
 vs:List (Sh K)
 os:List (aQ K)
def aJ.T(c:aJ K):Type:=Sh.Ts c.vs×aQ.Ts c.os
def aJ.dec(D:bC K)(c:aJ K)(vs:List (AV K))(H:List (Ob K)):Option c.T:=
 match Sh.ek D c.vs vs,aQ.ek D c.os H with
 |some a,some b=>some (a,b)
 |_,_=>none
def aJ.lZ(D:bC K)(c:aJ K)(x:c.T):List (AV K):=Sh.encs D c.vs x.1
def aJ.mP(D:bC K)(c:aJ K)(x:c.T):List (Ob K):=aQ.encs D c.os x.2
theorem aJ.AK(hD:bT D){c:aJ K}{vs:List (AV K)}{x:c.T}(h:c.dec D vs H=some x):Wk D vs H (c.lZ D x) (c.mP D x):=by
 unfold aJ.dec at h;split at h
 ·rename_i a b h1 h2;have h:=ie h;subst h;exact⟨(aQ.EG c.os H b h2).1,fun ρ S w us hr=>Sh.tB hD c.vs vs a h1 us hr,fun ρ S w hs=>aQ.tB hD h2 hs,fun w ρ b' hb=>aQ.Q9 hD h2 w ρ b' hb⟩
 ·cases h
end Go.V
namespace Go.V
open Go
variable {K :di}{ρ ρ':List Value}{S S':Nat->Prop}{w w':World}{H H':List (Ob K)}
def oP(dp:K.U->Bool)(H:List (Ob K))(cs:List (List (Option K.U))):AV K->AV K×List (Ob K)
 |.bA l=>(.bA (fQ dp H cs l).1,(fQ dp H cs l).2)
 |v=>((fQ dp H cs [v]).1.headD v,(fQ dp H cs [v]).2)
def forgets:List Bool->List (AV K)->List (AV K)
 |[],vs=>vs
 |_::_,[]=>[]
 |true::r,_::vs=>.any::forgets r vs
 |false::r,v::vs=>v::forgets r vs
def EH:List Bool->AV K->AV K
 |[],v=>v
 |l,.bA vs=>.bA (forgets l vs)
 |true::_,_=>.any
 |false::_,v=>v
theorem K1{D:bC K}:∀(l:List Bool)(vs:List (AV K))(us:List Value),bc D ρ S w vs us->bc D ρ S w (forgets l vs) us
 |[],vs,us,h=>by simpa only[forgets]using h
 |_::_,[],us,h=>by simpa only[forgets]using h
 |b::r,v::vs,us,h=>by
  obtain⟨u,t,rfl,h1,h2⟩:=h.gz;cases b
  ·exact .cons h1 (K1 r vs t h2)
  ·exact .cons (.any u) (K1 r vs t h2)
theorem afC{D:bC K}(l:List Bool)(v:AV K)(u:Value)(h:Rep D ρ S w v u):Rep D ρ S w (EH l v) u:=by
 unfold EH;split
 ·exact h
 ·cases h with
  |bA hl hh=>
   have:=K1 l _ _ ⟨hl,hh⟩;exact .bA this.1 this.2
 ·exact .any _
 ·exact h
def K2(cx:Cx K)(fz:Bool)(fn:Func)(n0:Nat){R:Type}(fin:AV K->List (Ob K)->Option R)(e:Ex)(st:St K):Option R:=
 match e with
 |.exit _=>none
 |_=>match resV cx fn st with
  |some v0=>let v:=EH cx.OB v0
   cond st.ok (cond fz (match DT cx.mv n0 (eK (jq st.H (hands v)) v) (jq st.H (hands v))with
    |some (v',H')=>fin v' H'
    |none=>none) (match DT cx.mv n0 (oP cx.deep st.H cx.xk v).1 (oP cx.deep st.H cx.xk v).2 with
    |some (v',H')=>fin v' H'
    |none=>none)) none
  |none=>none
def EI(cx:Cx K)(fz:Bool)(fn:Func)(args:List (AV K))(H:List (Ob K)){R:Type}(fin:AV K->List (Ob K)->Option R):Option R:=
 match fn.body with
 |some c=>fZ cx c ⟨args++List.replicate (fn.ntmps-args.length) .any,H,true⟩ (K2 cx fz fn H.length fin)
 |none=>none
structure Rb (P:Program) (f:FuncId) (fn:Func):Prop where
 get:P.funcs[f]?=some fn
 name:(fn.name== "runtime.NumGoroutine")=false
theorem K3{D:bC K}(dp:K.U->Bool):∀(css:List (List (Option K.U)))(l:List (AV K))(H:List (Ob K))(ρ:List Value)(vs:List Value),aM D ρ S w H->bc D ρ S w l vs->xB D S w H ρ vs (fQ dp H css l)
 |[],l,H,ρ,vs,hs,hr=>⟨ρ,by simpa [fQ]using hs,by simpa [fQ]using hr,by simpa [fQ]using Step.refl,fun _ _ h=>h,by simp[fQ],fun _ _ h=>by simpa [fQ]using h⟩
 |cs::css,[],H,ρ,vs,hs,hr=>⟨ρ,by simpa [fQ]using hs,by simpa [fQ]using hr,by simpa [fQ]using Step.refl,fun _ _ h=>h,by simp[fQ],fun _ _ h=>by simpa [fQ]using h⟩
 |cs::css,v::r,H,ρ,vs,hs,hr=>by
  obtain⟨u,t,rfl,h1,h2⟩:=hr.gz;have fin:∀(v':AV K)(p:List (AV K)×List (Ob K))(us:List Value),(∀ρ',bc D ρ' S w p.1 us->Rep D ρ' S w v' u)->xB D S w H ρ us p->xB D S w H ρ (u::t) (v'::(fQ dp p.2 css r).1,(fQ dp p.2 css r).2):=fun v' p us hv hp=>by
   obtain⟨ρ1,g1,g2,g3,g4,g5,g6⟩:=hp;obtain⟨ρ2,k1,k2,k3,k4,k5,k6⟩:=K3 dp css r p.2 ρ1 t g1 (h2.mono (fun _ h=>h) (fun _ _=>rfl) g4);exact⟨ρ2,k1,.cons ((hv ρ1 g2).mono (fun _ h=>h) (fun _ _=>rfl) k4) k2,g3.trans (k3.weaken g5),fun h r hr=>k4 h r (g4 h r hr),lQ g5 k5,fun h o ho=>k6 h o (g6 h o ho)⟩
  have one:∀v,Rep D ρ S w v u->fQ dp H (cs::css) (v::r)=((thaw dp H cs [v]).1.headD v::(fQ dp (thaw dp H cs [v]).2 css r).1,(fQ dp (thaw dp H cs [v]).2 css r).2)->xB D S w H ρ (u::t) (fQ dp H (cs::css) (v::r)):=fun v h1 e=>by
   rw[e];refine fin _ _ [u] (fun ρ' hr'=>?_) (vu dp cs [v] H ρ [u] hs (.cons h1 .nil));generalize hq:(thaw dp H cs [v]).1=q at hr';cases q with
   |nil=>have:=hr'.1;simp at this
   |cons x y=>exact hr'.head
  cases v with
  |agg l=>
   cases h1 with
   |agg hl hh=>
    have e:fQ dp H (cs::css) (.agg l::r)=(.agg (thaw dp H cs l).1::(fQ dp (thaw dp H cs l).2 css r).1,(fQ dp (thaw dp H cs l).2 css r).2):=rfl;rw[e];exact fin _ _ _ (fun ρ' hr'=>.agg hr'.1 hr'.2) (vu dp cs l H ρ _ hs ⟨hl,hh⟩)
  |_=>exact one _ h1 rfl
theorem afD{D:bC K}(dp:K.U->Bool)(cs:List (List (Option K.U)))(v:AV K)(hs:aM D ρ S w H){u:Value}(hr:Rep D ρ S w v u):
 ∃ρ',aM D ρ' S w (oP dp H cs v).2/\Rep D ρ' S w (oP dp H cs v).1 u/\Step D H.length ρ S H w ρ' S (oP dp H cs v).2 w/\H.length<=(oP dp H cs v).2.length:=by
 have one:∀v,Rep D ρ S w v u->oP dp H cs v=((fQ dp H cs [v]).1.headD v,(fQ dp H cs [v]).2)->∃ρ',aM D ρ' S w (oP dp H cs v).2/\Rep D ρ' S w (oP dp H cs v).1 u/\Step D H.length ρ S H w ρ' S (oP dp H cs v).2 w/\H.length<=(oP dp H cs v).2.length:=fun v hr e=>by
  rw[e];obtain⟨ρ',g1,g2,g3,g4,g5,g6⟩:=K3 dp cs [v] H ρ [u] hs (.cons hr .nil);refine⟨ρ',g1,?_,g3,g5⟩;generalize hq:(fQ dp H cs [v]).1=q at g2;cases q with
  |nil=>have:=g2.1;simp at this
  |cons x y=>exact g2.head
 cases v with
 |bA l=>
  cases hr with
  |bA hl hh=>
   obtain⟨ρ',g1,g2,g3,g4,g5,g6⟩:=K3 dp cs l H ρ _ hs ⟨hl,hh⟩;exact⟨ρ',g1,.bA g2.1 g2.2,g3,g5⟩
 |_=>exact one _ hr rfl
theorem afE{cx:Cx K}(hD:bT cx.D){fz:Bool}{fn:Func}{n0:Nat}{R:Type}{fin:AV K->List (Ob K)->Option R}{e:Ex}{st:St K}{r:R}(h:K2 cx fz fn n0 fin e st=some r):
 st.ok=true/\(∀i,e≠.exit i)/\∃v v' H',resV cx fn st=some v/\fin v' H'=some r/\∀ρ S w,n0<=st.H.length->aM cx.D ρ S w st.H->∀u,Rep cx.D ρ S w v u->∃ρ' S',aM cx.D ρ' S' w H'/\Rep cx.D ρ' S' w v' u/\Step cx.D n0 ρ S st.H w ρ' S' H' w:=by
 have key:∀(v0:AV K)(H0:List (Ob K)) v' H',DT cx.mv n0 v0 H0=some (v',H')->∀ρ S w,n0<=H0.length->aM cx.D ρ S w H0->∀u,Rep cx.D ρ S w v0 u->∃ρ',aM cx.D ρ' S w H'/\Rep cx.D ρ' S w v' u/\Step cx.D n0 ρ S H0 w ρ' S H' w:=fun v0 H0 v' H' hp ρ S w hn hs u hr=>by
  unfold DT I4 at hp;split at hp
  ·rename_i hk;simp only[bu,bX]at hk;split at hp
   ·rename_i v'' H1 hv' hH';simp only[aw,aP]at hp;obtain⟨rfl,rfl⟩:=hp;obtain⟨s1,s2,s3,s4⟩:=Q0 hD hs hn hk.1 hk.2 hH';exact⟨_,s1,tp hD s3 _ _ u hv' hr,s2⟩
   ·cases hp
  ·cases hp
 unfold K2 at h;split at h
 ·cases h
 ·rename_i hne;split at h
  ·rename_i v0 hv0;dsimp only at h;generalize hv:EH cx.OB v0=v at h;have Re:∀{ρ S w}{u:Value},Rep cx.D ρ S w v0 u->Rep cx.D ρ S w v u:=fun hr=>by rw[<-hv];exact afC _ _ _ hr
   cases hok:st.ok with
   |false=>rw[hok]at h;cases h
   |true=>
    rw[hok]at h;simp only[ad]at h;refine⟨rfl,hne,?_⟩;cases fz with
    |false=>
     simp only[al]at h;split at h
     ·rename_i v' H' hp;exact⟨v0,v',H',hv0,h,fun ρ S w hn hs u hr0=>by
       have hr:=Re hr0;obtain⟨ρ1,t1,t2,t3,t4⟩:=afD cx.deep cx.xk v hs hr;obtain⟨ρ',a,b,c⟩:=key _ _ _ _ hp ρ1 S w (lQ hn t4) t1 u t2;exact⟨ρ',S,a,b,(t3.weaken hn).trans c⟩⟩
     ·cases h
    |true=>
     simp only[ad]at h;split at h
     ·rename_i v' H' hp;exact⟨v0,v',H',hv0,h,fun ρ S w hn hs u hr0=>by
       have hr:=Re hr0;obtain⟨S1,g1,g2,g3⟩:=DW (n0:=n0) (hands v) hs;obtain⟨ρ',a,b,c⟩:=key _ _ _ _ hp ρ S1 w (by omega) g1 u (pV g1 _ _ (hr.mono g2.s1 (fun _ _=>rfl) (fun _ _ h=>h)));exact⟨ρ',S1,a,b,g2.trans c⟩⟩
     ·cases h
  ·cases h
theorem afF{cx:Cx K}(hD:bT cx.D)(hc:aY cx)(hm:cx.P.follows .mixedOrders=true){fz:Bool}{f:FuncId}{fn:Func}(hf:Rb cx.P f fn)(hl:∀c,fn.body=some c->iD cx c)
 {args:List (AV K)} {R:Type} {fin:AV K->List (Ob K)->Option R} {r:R} (h:EI cx fz fn args H fin=some r):∃v H',fin v H'=some r/\RC cx.D cx.P f args H v H':=by
 unfold EI at h;split at h
 ·rename_i c hb;obtain⟨e,st,h1,-,h3⟩:=pW hD hc hm c (hl c hb) _ _ _ h;obtain⟨hok,hne,v,v',H',hv,hr,hfin⟩:=afE hD h1;refine⟨v',H',hr,⟨fn,hf.get,hf.name,by rw[hb];rfl⟩,fun ρ S w vals hs ha=>?_⟩;have h0:dG (args++List.replicate (fn.ntmps-args.length) (AV.any:AV K)):=fun t g b y e=>by
   rcases cU t args.length with hlt|hge
   ·rw[dX hlt]at e;obtain⟨x,-,hx⟩:=ha.get e;cases hx
   ·rw[eZ hge,mF]at e;split at e<;>cases e
  obtain⟨n1,htr⟩:=h3 hok h0;refine calls_of_wp hf.get hb ?_;have bH:Sat cx ρ S {tmps:=vals.toArray++Array.replicate (fn.ntmps-vals.toArray.size) undef,defers:=[]} w ⟨args++List.replicate (fn.ntmps-args.length) .any,H,true⟩:=⟨hs,⟨by simp[ha.1],fun t v x h1 h2=>.kH (by
   rcases cU t args.length with hlt|hge
   ·rw[dX hlt]at h1;rw[Array.getElem?_append_left (by simpa [<-ha.1]using hlt)]at h2;exact ha.2 t v x h1 (by simpa using h2)
   ·rw[eZ hge,mF]at h1;split at h1
    ·simp at h1;subst h1;exact .any x
    ·cases h1)⟩,rfl⟩
  refine wp_mono (htr H.length ρ S _ w (cq _) bH) ?_
  rintro e' a' w' ⟨rfl,hn,ρ1,S1,fK,hst1⟩
  obtain⟨u,hu,hr1⟩:=afh hD n1 fK hv;have Rf:∃u' ρ' S',Ending.returned u=.returned u'/\aM cx.D ρ' S' w' H'/\Rep cx.D ρ' S' w' v' u'/\Step cx.D H.length ρ S H w ρ' S' H' w':=by
   obtain⟨ρ2,S2,q1,q2,q3⟩:=hfin ρ1 S1 w' hn fK.heap u hr1;exact⟨u,ρ2,S2,rfl,q1,q2,hst1.trans q3⟩
  cases e with
  |exit i=>exact absurd rfl (hne i)
  |normal=>exact⟨fK.defers,u,hu,Rf⟩
  |ret=>exact⟨fK.defers,u,hu,Rf⟩
 ·cases h
structure aK (K:di) where
 f:FuncId
 sh:aJ K
 R:Type
 run:sh.T->Option R
 dflt:R
 out:R->AV K×List (Ob K)
def aK.Ok(D:bC K)(P:Program)(c:aK K):Prop:=∀x r,c.run x=some r->RC D P c.f (c.sh.lZ D x) (c.sh.mP D x) (c.out r).1 (c.out r).2
def callOf(D:bC K):List (aK K)->FuncId->List (AV K)->List (Ob K)->Option (AV K×List (Ob K)×Bool)
 |[],_,_,_=>none
 |c::l,f,args,H=>cond (Nat.beq c.f f) (match c.sh.dec D args H with
  |some x=>some ((c.out ((c.run x).getD c.dflt)).1,(c.out ((c.run x).getD c.dflt)).2,(c.run x).isSome)
  |none=>callOf D l f args H) (callOf D l f args H)
theorem RC.weak{D:bC K}{P:Program}{f:FuncId}{args args':List (AV K)}{r:AV K}{Ho:List (Ob K)}(hw:Wk D args H args' H')(h:RC D P f args' H' r Ho):RC D P f args H r Ho:=by
 refine⟨h.1,fun ρ S w vals hs ha=>(h.2 ρ S w vals (hw.heap _ _ _ hs) (hw.K0 _ _ _ _ ha)).mono ?_⟩
 rintro e w' ⟨u,ρ',S',rfl,h1,h2,h3⟩
 rw[hw.len]at h3;exact⟨u,ρ',S',rfl,h1,h2,hw.step.trans h3⟩
theorem Rh{D:bC K}(hD:bT D){P:Program}:∀(l:List (aK K)),(∀c∈l,c.Ok D P)->∀f args H r H',callOf D l f args H=some (r,H',true)->RC D P f args H r H'
 |[],_,f,args,H,r,H',h=>by simp[callOf]at h
 |c::l,hl,f,args,H,r,H',h=>by
  have ih:=Rh hD l (fun c hc=>hl c (by simp[hc])) f args H r H';unfold callOf at h;cases hb:Nat.beq c.f f with
  |false=>rw[hb]at h;exact ih h
  |true=>
   rw[hb]at h;have hf:c.f=f:=zN hb;simp only[ad]at h;split at h
   ·rename_i x hx;simp only[aw,aP]at h;obtain⟨h1,h2,h3⟩:=h;obtain⟨y,hy⟩:=Option.isSome_iff_exists.1 h3;rw[hy]at h1 h2;simp only[an]at h1 h2;have:=hl c (by simp) x y hy;rw[h1,h2,hf]at this;exact this.weak (aJ.AK hD hx)
   ·exact ih h
theorem bw{cx:Cx K}(hD:bT cx.D)(l:List (aK K))(hl:∀c∈l,c.Ok cx.D cx.P)(he:cx.call=callOf cx.D l:=by exact rfl)(ha:cx.alt=fun _ _ _ _=>none:=by exact rfl)(ho:(fun(R:Type)=>cx.zR (R:=R))=fun(R:Type)(a b:Option R)=>IJ a b:=by exact rfl):aY cx:=by
 refine⟨fun f args H r H' h=>?_,fun b f args H r H' h=>?_,fun R a b r h=>?_⟩
 ·rw[he]at h;exact Rh hD l hl f args H r H' h
 ·rw[ha]at h;cases h
 ·have:=congrFun ho R;rw[this]at h;exact adn h
def aK.frz(D:bC K)(c:aK K):aK K:={c with out:=fun r=>(jo D (c.out r).2 (c.out r).1,[])}
structure AL (K:di) (D:bC K) (R:Type) where
 sh:aJ K
 conv:sh.T->R
def AL.fin{D:bC K}{R:Type}(d:AL K D R)(v:AV K)(H:List (Ob K)):Option R:=match d.sh.dec D [v] H with
 |some x=>some (d.conv x)
 |none=>none
theorem gZ{cx:Cx K}(hD:bT cx.D)(hc:aY cx)(hm:cx.P.follows .mixedOrders=true){c:aK K}{fz:Bool}{fn:Func}(hf:Rb cx.P c.f fn)(hl:∀b,fn.body=some b->iD cx b)
 (d:AL K cx.D c.R) (ho:∀x,([(c.out (d.conv x)).1],(c.out (d.conv x)).2)=(d.sh.lZ cx.D x,d.sh.mP cx.D x)) (he:∀x,EI cx fz fn (c.sh.lZ cx.D x) (c.sh.mP cx.D x) d.fin=c.run x):c.Ok cx.D cx.P:=by
 intro x r hr;rw[<-he x]at hr;obtain⟨v,H',h1,h2⟩:=afF hD hc hm hf hl hr;unfold AL.fin at h1;split at h1
 ·rename_i y hy;simp only[aw]at h1;have hw:=aJ.AK hD hy;have:=ho y;simp only[aP]at this;rw[<-this.1,<-this.2]at hw;rw[h1]at hw;refine⟨h2.1,fun ρ S w vals hs ha=>(h2.2 ρ S w vals hs ha).mono ?_⟩
  rintro e w' ⟨u,ρ',S',rfl,g1,g2,g3⟩
  have:=(hw.K0 _ _ _ [u] (.cons g2 .nil)).head;exact⟨u,ρ',S',rfl,hw.heap _ _ _ g1,this,g3.trans hw.step⟩
 ·cases h1
instance : Coe Bool Nat:=⟨fun b=>cond b 1 0⟩
def stays(kp i:Nat):Bool:=Nat.beq kp 1||Nat.blt (i+2) kp
def K4(kp:Nat):Nat->List (Ob K)->List (Option Nat)×List (Option Nat)
 |_,[]=>([],[])
 |i,o::r=>match K4 kp (i+1) r with
  |(a,b)=>match o with
   |.arr ..=>cond (stays kp i) (some i::a,b) (none::a,some i::b)
   |.tree ..=>cond (stays kp i) (some i::a,b) (none::a,some i::b)
   |_=>(some i::a,b)
def Ri(kp:Nat)(n n0:Nat)(ins:List Nat)(vals:List (AV K))(Hi:List (Ob K)):Option (St K):=
 match rl n0 ((K4 kp 0 Hi).1++(K4 kp 0 Hi).2) ins ⟨eH (List.replicate n .any) ins vals,Hi,true⟩with
 |some st=>vo n0 ins st
 |none=>none
def nw(st:St K)(ts:List Nat):List (AV K):=ts.map fun t=>st.tm.getD t .any
def bS(D:bC K)(kp:Nat)(n n0:Nat)(ins outs:List Nat)(sh:aJ K){Y:Type}(run:sh.T->Option Y)(out:Y->{R:Type}->(Ex->List (AV K)->List (Ob K)->R)->R):bM K:={
 n:=n
 ins:=ins
 outs:=outs
 run vals Hi k:=cond (Nat.beq Hi.length n0) (match Ri kp n n0 ins vals Hi with
  |some st=>match sh.dec D (nw st ins) st.H with
   |some x=>match run x with
    |some y=>out y k
    |none=>none
   |none=>none
  |none=>none) none}
def K5(cx:Cx K)(n n0:Nat)(ins outs:List Nat)(sh:aJ K){Y:Type}(next:sh.T->Option Y)(fin:Ex->List (AV K)->List (Ob K)->Option Y)(e:Ex)(s:St K):Option Y:=
 cond s.ok (cond (Nat.beq s.tm.length n) (match e with
  |.normal=>match sZ cx s with
    |some (b,s1)=>cond b (match vo n0 ins s1 with
     |some s'=>match sh.dec cx.D (nw s' ins) s'.H with
      |some x=>next x
      |none=>none
     |none=>none) none
    |none=>none
  |e=>match sZ cx s with
   |some (b,s1)=>cond b (match vo n0 outs s1 with
    |some s'=>fin e (nw s' outs) s'.H
    |none=>none) none
   |none=>none) none) none
def vG(D:bC K)(n:Nat)(ins:List Nat)(sh:aJ K)(x:sh.T):St K:=⟨eH (List.replicate n .any) ins (sh.lZ D x),sh.mP D x,true⟩
structure cu (K:di) (Y:Type) where
 e:Ex
 sh:aJ K
 conv:sh.T->Y
def Ex.same:Ex->Ex->Bool
 |.normal,.normal=>true
 |.exit a,.exit b=>Nat.beq a b
 |.ret,.ret=>true
 |_,_=>false
theorem Ex.same_eq{a b:Ex}(h:Ex.same a b=true):a=b:=by
 cases a<;>cases b<;>simp only[Ex.same]at h<;>first|rfl|cases h|(rw[zN h])
def x6(D:bC K){Y:Type}:List (cu K Y)->Ex->List (AV K)->List (Ob K)->Option Y
 |[],_,_,_=>none
 |d::l,e,vs,H=>cond (Ex.same d.e e) (match d.sh.dec D vs H with
  |some x=>some (d.conv x)
  |none=>none) (x6 D l e vs H)
theorem Rj{D:bC K}:∀(l:List (Sh K))(vs:List (AV K))(x:Sh.Ts l),Sh.ek D l vs=some x->vs.length=l.length
 |[],vs,x,h=>by
   cases vs with
   |nil=>rfl
   |cons v r=>unfold Sh.ek at h;cases h
 |s::r,vs,x,h=>by
  cases vs with
  |nil=>unfold Sh.ek at h;cases h
  |cons v l=>
   unfold Sh.ek at h;split at h
   ·rename_i a b h1 h2;simp only[aE];rw[Rj r l b h2]
   ·cases h
theorem K6{D:bC K}:∀(l:List (Sh K))(x:Sh.Ts l),(Sh.encs D l x).length=l.length
 |[],x=>rfl
 |s::r,x=>by simp only[Sh.encs,aE];rw[K6 r]
theorem pD{D:bC K}{sh:aJ K}{vs:List (AV K)}{x:sh.T}(h:sh.dec D vs H=some x):(sh.lZ D x).length=vs.length:=by
 unfold aJ.dec at h;split at h
 ·rename_i a b h1 h2;unfold aJ.lZ;rw[K6,Rj _ _ _ h1]
 ·cases h
theorem K7{D:bC K}(hD:bT D){Y:Type}{out:Y->{R:Type}->(Ex->List (AV K)->List (Ob K)->R)->R}:∀(l:List (cu K Y)),(∀d∈l,d.e≠.normal/\∀x (R:Type) (k:Ex->List (AV K)->List (Ob K)->R),out (d.conv x) k=k d.e (d.sh.lZ D x) (d.sh.mP D x))->
 ∀e vs H y,x6 D l e vs H=some y->e≠.normal/\∃vs' H',(∀(R:Type)(k:Ex->List (AV K)->List (Ob K)->R),out y k=k e vs' H')/\Wk D vs H vs' H'/\vs'.length=vs.length
 |[],_,e,vs,H,y,h=>by simp[x6]at h
 |d::l,hl,e,vs,H,y,h=>by
  unfold x6 at h;cases hs:Ex.same d.e e with
  |false=>rw[hs]at h;exact K7 hD l (fun d hd=>hl d (by simp[hd])) e vs H y h
  |true=>
   rw[hs]at h;have he:=Ex.same_eq hs;simp only[ad]at h;split at h
   ·rename_i x hx;simp only[aw]at h;subst h;obtain⟨h1,h2⟩:=hl d (by simp);rw[he]at h1 h2;exact⟨h1,_,_,fun R k=>h2 x R k,aJ.AK hD hx,pD hx⟩
   ·cases h
theorem retag{cx:Cx K}{n0:Nat}{st:St K}{ts:List Nat}{n:Nat}(hn:st.tm.length=n)(h0:dG st.tm){vs':List (AV K)}(hw:Wk cx.D (nw st ts) st.H vs' H')(hlen:vs'.length=ts.length):
 Goes cx n0 st ⟨eH (List.replicate n .any) ts vs',H',st.ok⟩:=by
 intro ρ S a w hn0 bH;refine⟨by show n0<=H'.length;rw[hw.len];exact hn0,ρ,S,⟨hw.heap _ _ _ bH.heap,?_,bH.defers⟩,hw.step⟩;have hsz:a.tmps.size=n:=by rw[<-hn];exact bH.slots.len.symm
 have hrep:∀t,Rep cx.D ρ S w (st.tm.getD t .any) (a.tmps.getD t undef):=fun t=>by
  rw[gp,ou];cases hg:st.tm[t]? with
  |none=>exact .any _
  |some v=>
   obtain⟨x,hx,-⟩:=bH.slots.get hg;rw[hx];exact bH.slots.rep h0 hg hx
 have hus:bc cx.D ρ S w (nw st ts) (ts.map fun t=>a.tmps.getD t undef):=⟨by simp[nw],fun i v x h1 h2=>by
  simp only[nw,jG,fA]at h1 h2;obtain⟨t,e1,rfl⟩:=h1;obtain⟨t',e2,rfl⟩:=h2;rw[e1]at e2;simp at e2;subst e2;exact hrep t⟩
 have afG:=hw.K0 _ _ _ _ hus;refine KB hsz fun i t v x h1 h2 h3=>afG.2 i v x h2 ?_
 simp only[jG,h1,iP];rw[ou,h3];rfl
theorem Rk{D:bC K}:∀(l:List (Sh K))(x:Sh.Ts l)(i:Nat)(v:AV K),(Sh.encs D l x)[i]?=some v->v.jH=false
 |[],x,i,v,h=>by simp[Sh.encs]at h
 |s::r,x,i,v,h=>by
  cases i with
  |zero=>
   simp only[Sh.encs,List.getElem?_cons_zero,aw]at h;subst h;cases s<;>simp only[Sh.enc]<;>rfl
  |succ i=>exact Rk r x.2 i v (by simpa [Sh.encs]using h)
theorem afH{n:Nat}{ds:List Nat}{l:List (AV K)}(h:∀(i:Nat) v,l[i]?=some v->v.jH=false):dG (eH (List.replicate n .any) ds l):=fun t g b v e=>by
 rcases xY ds l _ t _ e with h1|⟨i,-,h2⟩
 ·rw[mF]at h1;split at h1<;>cases h1
 ·have:=h i _ h2;simp[AV.jH]at this
theorem K8{n0:Nat}{src:List (Option Nat)}{keep:List Nat}{st st':St K}(h:rl n0 src keep st=some st'):st'.tm.length=st.tm.length:=by
 unfold rl at h;split at h
 ·split at h
  ·simp only[aw]at h;subst h;simp[vE]
  ·cases h
 ·cases h
theorem Tr.goes{cx:Cx K}{n0:Nat}{c:Code}{st st1 st2:St K}{e:Ex}(h:Tr cx n0 c st e st1)(g:Goes cx n0 st1 st2):Tr cx n0 c st e st2:=fun ρ S a w hn bH=>by
 refine wp_mono (h ρ S a w hn bH) ?_
 rintro e' a' w' ⟨he,hn1,ρ1,S1,fK,hst1⟩
 obtain⟨hn2,ρ2,S2,AI,hst2⟩:=g ρ1 S1 a' w' hn1 fK;exact⟨he,hn2,ρ2,S2,AI,hst1.trans hst2⟩
section
variable {cx :Cx K}(hD:bT cx.D)(hc:aY cx)(hm:cx.P.follows .mixedOrders=true){c:Code}(hl:iD cx c){n n0:Nat}{ins outs:List Nat}{sh:aJ K}{Y:Type}{run:Nat->sh.T->Option Y}
 {bR:List (cu K Y)} {out:Y->{R:Type}->(Ex->List (AV K)->List (Ob K)->R)->R}
 (h0:∀x,run 0 x=none) (hs:∀m x,fZ cx c (vG cx.D n ins sh x) (K5 cx n n0 ins outs sh (run m) (x6 cx.D bR))=run (m+1) x)
 (hx:∀d∈bR,d.e≠.normal/\∀x (R:Type) (k:Ex->List (AV K)->List (Ob K)->R),out (d.conv x) k=k d.e (d.sh.lZ cx.D x) (d.sh.mP cx.D x))
include hD hc hm hl h0 hs hx
theorem Rl{y:Y}:∀(m:Nat)(x:sh.T),run m x=some y->∃e vs Ho,(∀(R:Type)(k:Ex->List (AV K)->List (Ob K)->R),out y k=k e vs Ho)/\
 ∀(ρ0:List Value)(S0:Nat->Prop)(H0:List (Ob K))(w0:World)(ρ:List Value)(S:Nat->Prop)(a:Act)(w:World),n0<=(vG cx.D n ins sh x).H.length->Sat cx ρ S a w (vG cx.D n ins sh x)->Step cx.D n0 ρ0 S0 H0 w0 ρ S (vG cx.D n ins sh x).H w->
  Code.rounds cx.P c (fun e' a' w'=>e'=e.ox/\n0<=Ho.length/\∃ρ' S',Sat cx ρ' S' a' w' ⟨eH (List.replicate n .any) outs vs,Ho,true⟩/\Step cx.D n0 ρ0 S0 H0 w0 ρ' S' Ho w') m a w
 |0,x,h=>by rw[h0]at h;cases h
 |m+1,x,h=>by
  rw[<-hs m x]at h;obtain⟨e,s,h1,h2,h3⟩:=pW hD hc hm c hl _ _ _ h;unfold K5 at h1;have hno:dG (vG cx.D n ins sh x).tm:=afH (Rk _ _);cases hok:s.ok with
  |false=>rw[hok]at h1;cases h1
  |true=>
   rw[hok]at h1;simp only[ad]at h1;obtain⟨n1,htr⟩:=h3 hok hno;cases hlen:Nat.beq s.tm.length n with
   |false=>rw[hlen]at h1;cases h1
   |true=>
   rw[hlen]at h1;simp only[ad]at h1;have hsn:s.tm.length=n:=zN hlen;have key:∀keep s1 s' vs' pT,sZ cx s=some (true,s1)->vo n0 keep s1=some s'->Wk cx.D (nw s' keep) s'.H vs' pT->vs'.length=keep.length->Tr cx n0 c (vG cx.D n ins sh x) e ⟨eH (List.replicate n .any) keep vs',pT,true⟩:=fun keep s1 s' vs' pT hcl hn hw hvl=>by
    have hr:rl n0 ((reach s1.H 64 (List.range n0++cz (keep.map fun t=>s1.tm.getD t .any)) []).map some) keep s1=some s':=hn;obtain⟨hk1,g1,g2⟩:=EE (cx:=cx) hD hr;obtain⟨c1,c2,c3,c4⟩:=Q2 hD hcl;have gc:Goes cx n0 s s1:=fun ρ S a w hn bH=>by
     obtain⟨q1,q2⟩:=c4 n0 ρ S a w bH;exact⟨by rw[c3];exact hn,ρ,S,q1,q2⟩
    have hl2:s1.tm.length=n:=by rw[c1];exact hsn
    have hn2:dG s1.tm:=by rw[c1];exact n1
    have:=(htr n0).goes (gc.trans ((g2 hn2).trans (retag ((K8 hr).trans hl2) g1 hw hvl)));rw[hk1,c2,hok]at this;exact this
   cases e with
   |normal=>
    dsimp only at h1;split at h1
    ·rename_i b s1 hcl;cases b with
     |false=>cases h1
     |true=>
     simp only[ad]at h1;split at h1
     ·rename_i s' hn;split at h1
      ·rename_i x' hx';obtain⟨e2,vs,Ho,q1,q2⟩:=Rl m x' h1;refine⟨e2,vs,Ho,q1,fun ρ0 S0 H0 w0 ρ S a w hn0 bH hst=>?_⟩;rw[rounds_succ];refine wp_mono (key ins s1 s' _ _ hcl hn (aJ.AK hD hx') (by rw[pD hx'];simp[nw]) ρ S a w hn0 bH) ?_
       rintro e' a' w' ⟨rfl,hn1,ρ1,S1,fK,hst1⟩
       exact q2 ρ0 S0 H0 w0 ρ1 S1 a' w' hn1 fK (hst.trans hst1)
      ·cases h1
     ·cases h1
    ·cases h1
   |exit id=>
    dsimp only at h1;split at h1
    ·rename_i b s1 hcl;cases b with
     |false=>cases h1
     |true=>
     simp only[ad]at h1;split at h1
     ·rename_i s' hn;obtain⟨g1,vs',pT,g2,g3,g4⟩:=K7 hD bR hx _ _ _ _ h1;refine⟨.exit id,vs',pT,g2,fun ρ0 S0 H0 w0 ρ S a w hn0 bH hst=>?_⟩;rw[rounds_succ];refine wp_mono (key outs s1 s' _ _ hcl hn g3 (by rw[g4];simp[nw]) ρ S a w hn0 bH) ?_
      rintro e' a' w' ⟨rfl,hn1,ρ1,S1,fK,hst1⟩
      exact⟨rfl,hn1,ρ1,S1,fK,hst.trans hst1⟩
     ·cases h1
    ·cases h1
   |ret=>
    dsimp only at h1;split at h1
    ·rename_i b s1 hcl;cases b with
     |false=>cases h1
     |true=>
     simp only[ad]at h1;split at h1
     ·rename_i s' hn;obtain⟨g1,vs',pT,g2,g3,g4⟩:=K7 hD bR hx _ _ _ _ h1;refine⟨.ret,vs',pT,g2,fun ρ0 S0 H0 w0 ρ S a w hn0 bH hst=>?_⟩;rw[rounds_succ];refine wp_mono (key outs s1 s' _ _ hcl hn g3 (by rw[g4];simp[nw]) ρ S a w hn0 bH) ?_
      rintro e' a' w' ⟨rfl,hn1,ρ1,S1,fK,hst1⟩
      exact⟨rfl,hn1,ρ1,S1,fK,hst.trans hst1⟩
     ·cases h1
    ·cases h1
theorem ny(kp:Nat)(N:Nat):bP cx c (bS cx.D kp n n0 ins outs sh (run N) out):=by
 intro vals Hi R k r h;simp only[bS]at h;cases hb:Nat.beq Hi.length n0 with
 |false=>rw[hb]at h;cases h
 |true=>
  rw[hb]at h;have hlen:Hi.length=n0:=zN hb;simp only[ad]at h;split at h
  ·rename_i st hst;split at h
   ·rename_i x hx1;split at h
    ·rename_i y hy;obtain⟨e,vs,Ho,q1,q2⟩:=Rl hD hc hm hl h0 hs hx N x hy;rw[q1]at h;refine⟨e,vs,Ho,h,?_⟩;unfold Ri at hst;split at hst
     ·rename_i st1 hst1;have hst':rl n0 ((reach st1.H 64 (List.range n0++cz (ins.map fun t=>st1.tm.getD t .any)) []).map some) ins st1=some st:=hst;obtain⟨k1,g1,g2⟩:=EE (cx:=cx) hD hst1;obtain⟨k2,g3,g4⟩:=EE (cx:=cx) hD hst';intro ρ S a w hn0 bH;have hno:dG (eH (List.replicate n (AV.any:AV K)) ins vals):=fun t g b v e=>by
       rcases xY ins vals _ t _ e with h1|⟨i,h1,-⟩
       ·rw[mF]at h1;split at h1<;>cases h1
       ·unfold rl at hst1;split at hst1
        ·split at hst1
         ·rename_i ws H1 hv hm1;obtain⟨gl,gg⟩:=vF _ _ hv;have hi:i<ws.length:=by rw[gl];simp;exact(cF.1 h1).1
          obtain⟨v0,q1,q2⟩:=gg i _ (cJ hi);simp only[jG,h1,iP,aw]at q1;rw[gp,e]at q1;simp only[an]at q1;subst q1;simp[fJ]at q2
         ·cases hst1
        ·cases hst1
      have hlen1:st1.tm.length=n:=by rw[K8 hst1];simp[vE]
      have hlen2:st.tm.length=n:=by rw[K8 hst'];exact hlen1
      have hw:=aJ.AK hD hx1;have hr:=retag (cx:=cx) (n0:=n0) hlen2 g3 hw (by rw[pD hx1];simp[nw]);have hok:st.ok=true:=by rw[k2,k1]
      rw[hok]at hr;rw[hlen];obtain⟨hn1,ρ1,S1,fK,hst2⟩:=((g2 hno).trans ((g4 g1).trans hr)) ρ S a w (by show n0<=Hi.length;omega) bH;exact wp_loop_rounds N (q2 ρ S Hi w ρ1 S1 a w hn1 fK hst2)
     ·cases hst
    ·cases h
   ·cases h
  ·cases h
end
def jO:Code->List Code
 |.loop c=>[c]
 |.seq a b=>jO a++jO b
 |.cond _ a b=>jO a++jO b
 |.block _ c=>jO c
 |_=>[]
def bB(c:Code)(i:Nat):Code:=(jO c).getD i .skip
theorem x7{cx:Cx K}:∀(c:Code),(∀b∈jO c,∀L,cx.loop (keyOf b)=some L->bP cx b L)->iD cx c
 |.loop c,h=>fun L hL=>h c (by simp[jO]) L hL
 |.seq a b,h=>⟨x7 a fun x hx=>h x (by simp[jO,hx]),x7 b fun x hx=>h x (by simp[jO,hx])⟩
 |.cond _ a b,h=>⟨x7 a fun x hx=>h x (by simp[jO,hx]),x7 b fun x hx=>h x (by simp[jO,hx])⟩
 |.block _ c,h=>x7 c h
 |.skip,_|.exit _,_|.ret,_|.region ..,_|.scope ..,_|.rangeFunc ..,_|.goto ..,_|.label ..,_|.refuse ..,_=>trivial
def K9(cx:Cx K)(c:Code):Prop:=∃L,cx.loop (keyOf c)=some L/\bP cx c L
theorem K9.mk{cx:Cx K}{c:Code}{L:bM K}(h:cx.loop (keyOf c)=some L)(ho:bP cx c L):K9 cx c:=⟨L,h,ho⟩
theorem iE{cx:Cx K}{c:Code}(n:Nat)(hn:(jO c).length=n)(h:∀i,i<n->K9 cx (bB c i)):iD cx c:=
 x7 c fun b hb L hL=>by
  obtain⟨i,hi,rfl⟩:=qT hb;obtain⟨L',h1,h2⟩:=h i (by omega);have e:bB c i=(jO c)[i]:=by simp[bB,gp,cJ hi]
  rw[e]at h1 h2;rw[h1]at hL;simp only[aw]at hL;subst hL;exact h2
theorem oQ{cx:Cx K}{c:Code}(hn:(jO c).length=0):iD cx c:=iE 0 hn fun i hi=>absurd hi (xf i)
theorem iU{p:Nat->Prop}(h:p 0):∀i,i<1->p i:=fun i hi=>by
 have:i=0:=by omega
 subst this;exact h
theorem lt_succ{p:Nat->Prop}{n:Nat}(h:∀i,i<n->p i)(hn:p n):∀i,i<n+1->p i:=fun i hi=>by
 by_cases he:i=n
 ·subst he;exact hn
 ·exact h i (by omega)
def bK(fn:Func):Code:=match fn.body with
 |some c=>c
 |none=>.skip
theorem EJ{cx:Cx K}{fn:Func}(h:iD cx (bK fn)):∀c,fn.body=some c->iD cx c:=fun c hc=>by
 have:bK fn=c:=by unfold bK;rw[hc]
 rw[<-this];exact h
theorem aB{α:Type _}{p:α->Prop}:∀c∈([]:List α),p c:=fun c h=>by simp at h
theorem af{α:Type _}{p:α->Prop}{a:α}{l:List α}(h:p a)(t:∀c∈l,p c):∀c∈a::l,p c:=fun c hc=>by
 rcases fe.1 hc with rfl|hc
 ·exact h
 ·exact t c hc
theorem bW{i:Nat}:Ex.exit i≠.normal:=fun h=>by cases h
theorem dK:Ex.ret≠.normal:=fun h=>by cases h
theorem pY{D:bC K}{P:Program}{c:aK K}(h:∀x,c.run x=none):c.Ok D P:=fun x r hr=>by rw[h]at hr;cases hr
theorem Rm:∃n:Nat,2^63<=n:=⟨2^63,cq _⟩
noncomputable def ae:Nat:=Classical.choose Rm
theorem aZ:2^63<=ae:=Classical.choose_spec Rm
end Go.V
namespace Go.V
open Go
variable {K :di}{D:bC K}{ρ ρ':List Value}{S S':Nat->Prop}{w w':World}
def Sh.flat:Sh K->Bool
 |.int _|.bool|.str|.ax _=>true
 |_=>false
def kL:List (Sh K)->Bool
 |[]=>true
 |s::r=>s.flat&&kL r
def D0(K:di):bC K:={cells:=fun _ _=>[],dec:=fun _ _=>none,byte:=fun _=>none,find:=fun _=>none}
def Rn(cs:K.U->List (Sh K)):List K.U->List (AV K)->Option K.U
 |[],_=>none
 |c::r,l=>match Sh.ek (D0 K) (cs c) l with
  |some _=>some c
  |none=>Rn cs r l
def La(cs:K.U->List (Sh K))(mk:(c:K.U)->Sh.Ts (cs c)->K.El c×Bool)(un:(c:K.U)->K.El c->Sh.Ts (cs c))(byte:(c:K.U)->Option ((K.El c->UInt8)×(UInt8->K.El c)))(codes:List K.U)(base:Base:=Base.OA)(qW:Option TypeId:=none)(pL:K.U->Option TypeId:=fun _=>none):bC K:={
 base:=base
 qW:=qW
 pL:=pL
 cells c x:=Sh.encs (D0 K) (cs c) (un c x)
 dec c l:=match Sh.ek (D0 K) (cs c) l with
  |some y=>some (mk c y)
  |none=>none
 byte:=byte
 find l:=Rn cs codes l}
theorem afI{c:K.U}{v:AV K}{l:List (K.El c)}(h:elems [] c v=some l){u:Value}(hr:Rep D ρ S w v u):Rep D ρ S w (.ax c l) u:=by
 unfold elems at h;split at h
 ·simp only[aw]at h;subst h;cases hr;exact .fm _ _
 ·split at h
  ·rename_i he _;subst he;simp only[aw]at h;subst h;exact hr
  ·cases h
 ·simp at h
 ·cases h
theorem Ro:∀(l:List (Sh K))(vs:List (AV K))(x:Sh.Ts l),kL l=true->Sh.ek (D0 K) l vs=some x->∀us,bc D ρ S w vs us->bc D ρ S w (Sh.encs (D0 K) l x) us
 |[],vs,x,hf,h,us,hr=>by
   cases vs with
   |nil=>exact hr
   |cons v r=>unfold Sh.ek at h;cases h
 |s::r,vs,x,hf,h,us,hr=>by
  simp only[kL,bu]at hf;cases vs with
  |nil=>unfold Sh.ek at h;cases h
  |cons v l=>
   unfold Sh.ek at h;split at h
   ·rename_i a b h1 h2;have h:=ie h;subst h;obtain⟨u,t,rfl,g1,g2⟩:=hr.gz;refine .cons ?_ (Ro r l b hf.2 h2 t g2);cases s<;>simp only[Sh.flat]at hf<;>first|(exact absurd hf.1 uY)|skip
    ·rw[AV.KU h1]at g1;exact g1
    ·rw[AV.KV h1]at g1;exact g1
    ·rw[AV.KW h1]at g1;exact g1
    ·exact afI h1 g1
   ·cases h
theorem Lc:∀(l:List (Sh K))(x:Sh.Ts l),kL l=true->ij (Sh.encs (D0 K) l x)=true/\(Sh.encs (D0 K) l x).all AV.one=true
 |[],x,hf=>⟨rfl,rfl⟩
 |s::r,x,hf=>by
  simp only[kL,bu]at hf;obtain⟨h1,h2⟩:=Lc r x.2 hf.2;simp only[Sh.encs,ij,sU,bu];refine⟨⟨?_,h1⟩,?_,h2⟩<;>(cases s<;>simp only[Sh.flat]at hf<;>first|(exact absurd hf.1 uY)|rfl)
theorem Rq:∀(l:List (Sh K))(x y:Sh.Ts l),kL l=true->jJ (Sh.encs (D0 K) l x)=jJ (Sh.encs (D0 K) l y)
 |[],x,y,hf=>rfl
 |s::r,x,y,hf=>by
  simp only[kL,bu]at hf;simp only[Sh.encs,jJ];rw[Rq r x.2 y.2 hf.2];congr 1;cases s<;>simp only[Sh.flat]at hf<;>first|(exact absurd hf.1 uY)|rfl
theorem Rr:∀(l:List (Sh K))(x:Sh.Ts l),kL l=true->∀(j:Nat) v,(Sh.encs (D0 K) l x)[j]?=some v->v≠.dt/\(v.pR=false->jc v=false)
 |[],x,hf,j,v,h=>by simp[Sh.encs]at h
 |s::r,x,hf,j,v,h=>by
  simp only[kL,bu]at hf;cases j with
  |zero=>
   simp[Sh.encs]at h;subst h;cases s<;>simp only[Sh.flat]at hf<;>first|(exact absurd hf.1 uY)|exact⟨fun e=>(by cases e),fun _=>rfl⟩|exact⟨fun e=>(by cases e),fun e=>by cases e⟩
  |succ j=>exact Rr r x.2 hf.2 j v (by simpa [Sh.encs]using h)
theorem afJ{c:K.U}{v:AV K}{l:List (K.El c)}(h:elems [] c v=some l):v=.ax c l\/(v=.dt/\l=[]):=by
 unfold elems at h;split at h
 ·simp only[aw]at h;exact .inr ⟨rfl,h.symm⟩
 ·split at h
  ·rename_i he _;subst he;simp only[aw]at h;subst h;exact .inl rfl
  ·cases h
 ·simp at h
 ·cases h
theorem Rt:∀(l:List (Sh K))(vs:List (AV K))(x:Sh.Ts l),kL l=true->Sh.ek (D0 K) l vs=some x->vs.length=l.length/\∀(j:Nat) v v',vs[j]?=some v->(Sh.encs (D0 K) l x)[j]?=some v'->v'=v\/(v=.dt/\∃c',v'=.ax c' [])
 |[],vs,x,hf,h=>by
   cases vs with
   |nil=>exact⟨rfl,fun j v v' h=>by simp at h⟩
   |cons v r=>unfold Sh.ek at h;cases h
 |s::r,vs,x,hf,h=>by
  simp only[kL,bu]at hf;cases vs with
  |nil=>unfold Sh.ek at h;cases h
  |cons v l=>
   unfold Sh.ek at h;split at h
   ·rename_i a b h1 h2;have h:=ie h;subst h;obtain⟨g1,g2⟩:=Rt r l b hf.2 h2;refine⟨by simp[g1],fun j u u' hu hu'=>?_⟩;cases j with
    |zero=>
     simp[Sh.encs]at hu hu';subst hu;subst hu';cases s<;>simp only[Sh.flat]at hf<;>first|(exact absurd hf.1 uY)|skip
     ·exact .inl (AV.KU h1).symm
     ·exact .inl (AV.KV h1).symm
     ·exact .inl (AV.KW h1).symm
     ·rcases afJ h1 with h|⟨h,e⟩
      ·exact .inl h.symm
      ·exact .inr ⟨h,_,by rw[e];rfl⟩
    |succ j=>exact g2 j u u' (by simpa using hu) (by simpa [Sh.encs]using hu')
   ·cases h
theorem afK{codes:List K.U}{base:Base}{qW:Option TypeId}{pL:K.U->Option TypeId}{cs:K.U->List (Sh K)}{mk:(c:K.U)->Sh.Ts (cs c)->K.El c×Bool}{un:(c:K.U)->K.El c->Sh.Ts (cs c)}{byte:(c:K.U)->Option ((K.El c->UInt8)×(UInt8->K.El c))}
 (hf:∀c,kL (cs c)=true) (hl:∀c,(cs c).length=K.sz c) (hu:∀c y x,mk c y=(x,true)->un c x=y) (hb:∀c f g,byte c=some (f,g)->(∀x,Sh.encs (D0 K) (cs c) (un c x)=[.int .u8 ((f x).toNat:Int)])/\∀b,f (g b)=b):bT (La cs mk un byte codes base qW pL):={
 len c x:=by show(Sh.encs (D0 K) (cs c) (un c x)).length=_;rw[K6,hl]
 closed c x:=(Lc _ _ (hf c)).1
 one c x:=(Lc _ _ (hf c)).2
 dec c l x h:=fun ρ S w vs hr=>by
  change(match Sh.ek (D0 K) (cs c) l with
   |some y=>some (mk c y)
   |none=>none)=some (x,true)at h
  split at h
  ·rename_i y hy
   show bc _ ρ S w (Sh.encs (D0 K) (cs c) (un c x)) vs
   rw[hu c y x (ie h)];exact Ro _ _ _ (hf c) hy _ hr
  ·cases h
 byte:=hb
 flat c x:=Rq _ _ _ (hf c)
 kinds c x:=Rr _ _ (hf c)
 DU c l x h:=by
  change(match Sh.ek (D0 K) (cs c) l with
   |some y=>some (mk c y)
   |none=>none)=some (x,true)at h
  split at h
  ·rename_i y hy;obtain⟨g1,g2⟩:=Rt _ _ _ (hf c) hy;refine⟨by rw[g1,hl],fun j v v' h1 h2=>g2 j v v' h1 ?_⟩;change(Sh.encs (D0 K) (cs c) (un c x))[j]?=some v' at h2;rw[hu c y x (ie h)]at h2;exact h2
  ·cases h}
def pZ(n:Int):Bool:=decide (0<=n)&&decide (n<256)
def qa(n:Int):UInt8:=UInt8.ofNat n.toNat
theorem Ru{n:Int×Unit}{x:UInt8}(h:(qa n.1,pZ n.1)=(x,true)):((x.toNat:Int),())=n:=by
 simp only[aP,pZ,bu,bX]at h;obtain⟨rfl,h0,h3⟩:=h;obtain⟨a,b⟩:=n;dsimp only at h0 h3⊢;have h1:a.toNat<256:=by omega
 have h2:((qa a).toNat:Int)=a:=by
  unfold qa;rw[UInt8.toNat_ofNat'];simp only[Nat.reducePow];rw[Nat.mod_eq_of_lt h1];omega
 rw[h2]
def gG{α:Type _}:List (Nat×α)->Nat->Option α
 |[],_=>none
 |p::r,n=>cond (Nat.beq p.1 n) (some p.2) (gG r n)
def iF{α:Type _}(d:α):List (Nat×α)->Nat->α
 |[],_=>d
 |p::r,n=>cond (Nat.beq p.1 n) p.2 (iF d r n)
end Go.V
namespace Go.V
open Go
def afL(gM gT gS gR:Nat):Base:={
 inv S w:=(S gM/\S gT/\S gS/\S gR)/\(∃m,w.cell? ⟨gM,0,none⟩=some (.int .i64 m))/\(∃T fr,w.heap[gT]?=some (.cells (Lib.pow10Tab.map fun z=>Value.int .u64 z).toArray T fr))/\(∃t p,w.cell? ⟨gS,0,none⟩=some (.iface t p))/\∃t p,w.cell? ⟨gR,0,none⟩=some (.iface t p)
 mono:=fun{S S' w w'} hS hw h=>by
  obtain⟨⟨h1,h2,h3,h4⟩,⟨m,hm⟩,⟨T,fr,hT⟩,⟨t,p,hs⟩,⟨t2,p2,hr⟩⟩:=h;refine⟨⟨hS _ h1,hS _ h2,hS _ h3,hS _ h4⟩,⟨m,?_⟩,⟨T,fr,by rw[hw _ h2];exact hT⟩,⟨t,p,?_⟩,⟨t2,p2,?_⟩⟩
  ·rw[cell?_of_heap (w:=w) (a:=⟨gM,0,none⟩) (hw _ h1)];exact hm
  ·rw[cell?_of_heap (w:=w) (a:=⟨gS,0,none⟩) (hw _ h3)];exact hs
  ·rw[cell?_of_heap (w:=w) (a:=⟨gR,0,none⟩) (hw _ h4)];exact hr}
end Go.V
namespace Go.V
end Go.V
