/-
  A LOOP: its rounds as a tree, and what comes of them.
-/
import Derived.Test.YtiacpoahkccfaaaGreatDoorXWrun
set_option linter.unusedVariables false
namespace Go.V
open Go
variable {K :dh}{ρ ρ':List Value}{S S':Nat->Prop}{w w':World}{H H':List (Ob K)}
inductive oN (X Y:Type):Type 1 where
 |nx (x:X)
 |out (y:Y)
 |bad
 |br (b:Bool) (l r:oN X Y)
 |sum {A B:Type} (s:A⊕B) (f:A->oN X Y) (g:B->oN X Y)
noncomputable def oN.elim{X Y R:Type}(t:oN X Y)(nx:X->R)(out:Y->R)(bad:R):R:=
 oN.rec (motive:=fun _=>R) nx out bad (fun b _ _ l r=>cond b l r) (fun s _ _ f g=>Sum.rec (motive:=fun _=>R) f g s) t
theorem oN.cases{X Y:Type}(t:oN X Y):(∃x,∀(R:Type) nx out bad,t.elim (R:=R) nx out bad=nx x)\/(∃y,∀(R:Type) nx out bad,t.elim (R:=R) nx out bad=out y)\/∀(R:Type) nx out bad,t.elim (R:=R) nx out bad=bad:=by
 induction t with
 |nx x=>exact .inl ⟨x,fun _ _ _ _=>rfl⟩
 |out y=>exact .inr (.inl ⟨y,fun _ _ _ _=>rfl⟩)
 |bad=>exact .inr (.inr fun _ _ _ _=>rfl)
 |br b l r ihl ihr=>cases b;exact ihr;exact ihl
 |sum s f g ihf ihg=>
  cases s with
  |inl a=>exact ihf a
  |inr b=>exact ihg b
noncomputable def iter{X Y:Type}(step:X->oN X Y):Nat->X->Option Y
 |0,_=>none
 |n+1,x=>(step x).elim (iter step n) some none
structure mc (K:dh) (X Y:Type) where
 n:Nat
 n0:Nat
 ins:List Nat
 outs:List Nat
 start:List (AV K)->List (Ob K)->Option X
 vals:X->List (AV K)
 aeH:X->List (Ob K)
 step:X->oN X Y
 chk:X->Bool
 fin:X->Y
 out:Y->{R:Type}->(Ex->List (AV K)->List (Ob K)->R)->R
variable {X Y:Type}
def mc.st(M:mc K X Y)(x:X):St K:=⟨eG (List.replicate M.n .any) M.ins (M.vals x),M.aeH x,true⟩
def mc.fst(M:mc K X Y)(y:Y):Ex×St K:=M.out y fun e vs Ho=>(e,⟨eG (List.replicate M.n .any) M.outs vs,Ho,true⟩)
def mc.P0(M:mc K X Y):bG K:={
 n:=M.n
 ins:=M.ins
 outs:=M.outs
 run vs H k:=match M.start vs H with
  |some x=>cond (M.chk x) (M.out (M.fin x) k) none
  |none=>none}
noncomputable def mc.tree(M:mc K X Y)(x:X):Option (St K⊕Ex×St K):=(M.step x).elim (fun x'=>some (.inl (M.st x'))) (fun y=>some (.inr (M.fst y))) none
theorem PY{cx:Cx K}(hD:bQ cx.D){s s1:St K}(h:rW cx s=some (true,s1)):s1.tm=s.tm/\s1.ok=s.ok/\s1.H.length=s.H.length/\∀(n0:Nat)(ρ:List Value)(S:Nat->Prop)(a:Act)(w:World),Sat cx ρ S a w s->Sat cx ρ S a w s1/\Step cx.D n0 ρ S s.H w ρ S s1.H w:=by
 unfold rW at h;split at h
 ·simp only[ay,aR,true_and]at h;subst h;exact⟨rfl,rfl,rfl,fun n0 ρ S a w hs=>⟨hs,Step.refl⟩⟩
 ·split at h
  ·rename_i H' b t hsh;simp only[ay,aR]at h;obtain⟨rfl,rfl⟩:=h;have hl:H'.length=s.H.length:=by
    unfold shut at hsh;split at hsh
    ·simp only[ay,aR]at hsh;rw[<-hsh.1]
    ·cases hsh
   refine⟨rfl,rfl,hl,fun n0 ρ S a w hs=>?_⟩;obtain⟨g1,g2,-⟩:=Ov (n0:=n0) hD hs.heap hsh;exact⟨⟨g1,hs.slots,hs.defers⟩,g2⟩
  ·cases h
theorem P1{cx:Cx K}(hD:bQ cx.D)(hc:aV cx)(hm:cx.P.follows .mixedOrders=true){c:Code}(hl:jx cx c){n0:Nat}{keep outs:List Nat}{st:St K}{r:St K⊕Ex×St K}(h:DW cx n0 keep outs c st=some r)(h0:dG st.tm):
 st.ok=true/\match r with
   |.inl st'=>dG st'.tm/\Tr cx n0 c st .normal st'
   |.inr (e,st')=>e≠.normal/\Tr cx n0 c st e st':=by
 unfold DW at h;obtain⟨e,s,h1,h2,h3⟩:=oL hD hc hm c hl _ _ _ h;cases hok:s.ok with
 |false=>rw[hok]at h1;cases h1
 |true=>
  rw[hok]at h1;simp only[ae]at h1;obtain⟨n1,htr⟩:=h3 hok h0;refine⟨h2 hok,?_⟩;have key:∀keep' s1 s',rW cx s=some (true,s1)->uQ n0 keep' s1=some s'->dG s'.tm/\Tr cx n0 c st e s':=fun keep' s1 s' hcl hn=>by
   obtain⟨g1,g2⟩:dG s'.tm/\(dG s1.tm->Goes cx n0 s1 s'):=(Eb (cx:=cx) hD hn).2;obtain⟨c1,c2,c3,c4⟩:=PY hD hcl;refine⟨g1,fun ρ S a w hn0 bI=>wp_mono (htr n0 ρ S a w hn0 bI) ?_⟩
   rintro e' a' w' ⟨he,hn1,ρ1,S1,fH,hst1⟩
   obtain⟨aeI,aeJ⟩:=c4 n0 ρ1 S1 a' w' fH;obtain⟨hn2,ρ2,S2,zF,hst2⟩:=g2 (by rw[c1];exact n1) ρ1 S1 a' w' (by rw[c3];exact hn1) aeI;exact⟨he,hn2,ρ2,S2,zF,(hst1.trans aeJ).trans hst2⟩
  cases e with
  |normal=>
   dsimp only at h1;split at h1
   ·rename_i b s1 hcl;cases b with
    |false=>cases h1
    |true=>
    simp only[ae]at h1;split at h1
    ·rename_i s' hn;simp only[ay]at h1;subst h1;exact key _ _ _ hcl hn
    ·cases h1
   ·cases h1
  |exit id=>
   dsimp only at h1;split at h1
   ·rename_i b s1 hcl;cases b with
    |false=>cases h1
    |true=>
    simp only[ae]at h1;split at h1
    ·rename_i s' hn;simp only[ay]at h1;subst h1;exact⟨by simp,(key _ _ _ hcl hn).2⟩
    ·cases h1
   ·cases h1
  |ret=>
   dsimp only at h1;split at h1
   ·rename_i b s1 hcl;cases b with
    |false=>cases h1
    |true=>
    simp only[ae]at h1;split at h1
    ·rename_i s' hn;simp only[ay]at h1;subst h1;exact⟨by simp,(key _ _ _ hcl hn).2⟩
    ·cases h1
   ·cases h1
theorem P2{cx:Cx K}(hD:bQ cx.D)(hc:aV cx)(hm:cx.P.follows .mixedOrders=true){c:Code}(hl:jx cx c){M:mc K X Y}(hr:∀x,DW cx M.n0 M.ins M.outs c (M.st x)=M.tree x){ρ0:List Value}{S0:Nat->Prop}{H0:List (Ob K)}{w0:World}{y:Y}:
 ∀(n:Nat)(x:X),iter M.step n x=some y->dG (M.st x).tm->∀(ρ:List Value)(S:Nat->Prop)(a:Act)(w:World),M.n0<=(M.st x).H.length->Sat cx ρ S a w (M.st x)->Step cx.D M.n0 ρ0 S0 H0 w0 ρ S (M.st x).H w->
  Code.rounds cx.P c (fun e' a' w'=>e'=(M.fst y).1.nw/\M.n0<=(M.fst y).2.H.length/\∃ρ' S',Sat cx ρ' S' a' w' (M.fst y).2/\Step cx.D M.n0 ρ0 S0 H0 w0 ρ' S' (M.fst y).2.H w') n a w
 |0,x,h,_,_,_,_,_,_,_,_=>by simp[iter]at h
 |n+1,x,h,h0,ρ,S,a,w,hn,bI,hst=>by
  have hrx:=hr x;rw[rounds_succ];simp only[iter]at h;unfold mc.tree at hrx;rcases(M.step x).cases with⟨x',hx⟩|⟨y',hy⟩|hb
  ·rw[hx]at h hrx;obtain⟨-,n1,htr⟩:=P1 hD hc hm hl hrx h0;refine wp_mono (htr ρ S a w hn bI) ?_
   rintro e' a' w' ⟨rfl,hn1,ρ1,S1,fH,hst1⟩
   exact P2 hD hc hm hl hr n x' h n1 ρ1 S1 a' w' hn1 fH (hst.trans hst1)
  ·rw[hy]at h hrx;simp only[ay]at h;subst h;obtain⟨-,hne,htr⟩:=P1 hD hc hm hl hrx h0;refine wp_mono (htr ρ S a w hn bI) ?_
   rintro e' a' w' ⟨rfl,hn1,ρ1,S1,fH,hst1⟩
   have:∀(e:Ex),e≠.normal->∀(N:Act->World->Prop)(Q:Exit->Act->World->Prop),Q e.nw a' w'->Exit.then N Q e.nw a' w':=fun e he N Q hq=>by
    cases e with
    |normal=>exact absurd rfl he
    |exit id=>exact hq
    |ret=>exact hq
   exact this _ hne _ _ ⟨rfl,hn1,ρ1,S1,fH,hst.trans hst1⟩
  ·rw[hb]at h;cases h
theorem mc.ok{cx:Cx K}(hD:bQ cx.D)(hc:aV cx)(hm:cx.P.follows .mixedOrders=true){c:Code}(hl:jx cx c)(M:mc K X Y)(hr:∀x,DW cx M.n0 M.ins M.outs c (M.st x)=M.tree x)
 (hs:∀vs Hi x,M.start vs Hi=some x->Hi.length=M.n0/\Goes cx M.n0 ⟨eG (List.replicate M.n .any) M.ins vs,Hi,true⟩ (M.st x)) (hno:∀x,(M.vals x).all (fun v=> !v.jt)=true)
 (hf:∀x,M.chk x=true->∃n,iter M.step n x=some (M.fin x)) (ho:∀y,∃e vs Ho,∀(R:Type)(k:Ex->List (AV K)->List (Ob K)->R),M.out y k=k e vs Ho):bH cx c M.P0:=by
 intro vals Hi R k r h;simp only[mc.P0]at h;split at h
 ·rename_i x hx;cases JY:M.chk x with
  |false=>rw[JY]at h;cases h
  |true=>
   rw[JY]at h;simp only[ae]at h;obtain⟨n,hn⟩:=hf x JY;obtain⟨e,vs,Ho,hout⟩:=ho (M.fin x);rw[hout]at h;refine⟨e,vs,Ho,h,?_⟩;obtain⟨hlen,hgo⟩:=hs vals Hi x hx;have aeK:M.fst (M.fin x)=(e,⟨eG (List.replicate M.n .any) M.outs vs,Ho,true⟩):=hout _ _;have h0:dG (M.st x).tm:=fun t g b v e=>by
    rcases xf M.ins (M.vals x) _ t _ e with h1|⟨i,-,h2⟩
    ·rw[acN]at h1;split at h1<;>cases h1
    ·have:=fb.1 (hno x) _ (fZ h2);simp[AV.jt]at this
   intro ρ S a w hn0 bI;rw[hlen]at hn0⊢;obtain⟨hn1,ρ1,S1,fH,hst1⟩:=hgo ρ S a w (by show M.n0<=Hi.length;omega) bI;have:=P2 hD hc hm hl hr n x hn h0 ρ1 S1 a w hn1 fH hst1;rw[aeK]at this;exact wp_loop_rounds n this
 ·cases h
end Go.V
