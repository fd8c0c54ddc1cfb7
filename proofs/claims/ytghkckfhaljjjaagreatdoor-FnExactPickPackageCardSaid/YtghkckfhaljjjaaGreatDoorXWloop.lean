/-
  A LOOP: its rounds as a tree, and what comes of them.
-/
import Derived.Test.YtghkckfhaljjjaaGreatDoorXWrun
set_option linter.unusedVariables false
namespace Go.V
open Go
variable {K :dh}{ρ ρ':List Value}{S S':Nat->Prop}{w w':World}{H H':List (Ob K)}
inductive oD (X Y:Type):Type 1 where
 |nx (x:X)
 |out (y:Y)
 |bad
 |br (b:Bool) (l r:oD X Y)
 |sum {A B:Type} (s:A⊕B) (f:A->oD X Y) (g:B->oD X Y)
noncomputable def oD.elim{X Y R:Type}(t:oD X Y)(nx:X->R)(out:Y->R)(bad:R):R:=
 oD.rec (motive:=fun _=>R) nx out bad (fun b _ _ l r=>cond b l r) (fun s _ _ f g=>Sum.rec (motive:=fun _=>R) f g s) t
theorem oD.cases{X Y:Type}(t:oD X Y):(∃x,∀(R:Type) nx out bad,t.elim (R:=R) nx out bad=nx x)\/(∃y,∀(R:Type) nx out bad,t.elim (R:=R) nx out bad=out y)\/∀(R:Type) nx out bad,t.elim (R:=R) nx out bad=bad:=by
 induction t with
 |nx x=>exact .inl ⟨x,fun _ _ _ _=>rfl⟩
 |out y=>exact .inr (.inl ⟨y,fun _ _ _ _=>rfl⟩)
 |bad=>exact .inr (.inr fun _ _ _ _=>rfl)
 |br b l r ihl ihr=>cases b;exact ihr;exact ihl
 |sum s f g ihf ihg=>
  cases s with
  |inl a=>exact ihf a
  |inr b=>exact ihg b
noncomputable def iter{X Y:Type}(step:X->oD X Y):Nat->X->Option Y
 |0,_=>none
 |n+1,x=>(step x).elim (iter step n) some none
structure lY (K:dh) (X Y:Type) where
 n:Nat
 n0:Nat
 ins:List Nat
 outs:List Nat
 start:List (AV K)->List (Ob K)->Option X
 vals:X->List (AV K)
 afi:X->List (Ob K)
 step:X->oD X Y
 chk:X->Bool
 fin:X->Y
 out:Y->{R:Type}->(Ex->List (AV K)->List (Ob K)->R)->R
variable {X Y:Type}
def lY.st(M:lY K X Y)(x:X):St K:=⟨ek (List.replicate M.n .any) M.ins (M.vals x),M.afi x,true⟩
def lY.fst(M:lY K X Y)(y:Y):Ex×St K:=M.out y fun e vs Ho=>(e,⟨ek (List.replicate M.n .any) M.outs vs,Ho,true⟩)
def lY.Qe(M:lY K X Y):bE K:={
 n:=M.n
 ins:=M.ins
 outs:=M.outs
 run vs H k:=match M.start vs H with
  |some x=>cond (M.chk x) (M.out (M.fin x) k) none
  |none=>none}
noncomputable def lY.tree(M:lY K X Y)(x:X):Option (St K⊕Ex×St K):=(M.step x).elim (fun x'=>some (.inl (M.st x'))) (fun y=>some (.inr (M.fst y))) none
theorem Qc{cx:Cx K}(hD:bR cx.D){s s1:St K}(h:rM cx s=some (true,s1)):s1.tm=s.tm/\s1.ok=s.ok/\s1.H.length=s.H.length/\∀(n0:Nat)(ρ:List Value)(S:Nat->Prop)(a:Act)(w:World),Sat cx ρ S a w s->Sat cx ρ S a w s1/\Step cx.D n0 ρ S s.H w ρ S s1.H w:=by
 unfold rM at h;split at h
 ·simp only[av,aZ,true_and]at h;subst h;exact⟨rfl,rfl,rfl,fun n0 ρ S a w hs=>⟨hs,Step.refl⟩⟩
 ·split at h
  ·rename_i H' b t hsh;simp only[av,aZ]at h;obtain⟨rfl,rfl⟩:=h;have hl:H'.length=s.H.length:=by
    unfold shut at hsh;split at hsh
    ·simp only[av,aZ]at hsh;rw[<-hsh.1]
    ·cases hsh
   refine⟨rfl,rfl,hl,fun n0 ρ S a w hs=>?_⟩;obtain⟨g1,g2,-⟩:=OM (n0:=n0) hD hs.heap hsh;exact⟨⟨g1,hs.slots,hs.defers⟩,g2⟩
  ·cases h
theorem Qf{cx:Cx K}(hD:bR cx.D)(hc:aP cx)(hm:cx.P.follows .mixedOrders=true){c:Code}(hl:ju cx c){n0:Nat}{keep outs:List Nat}{st:St K}{r:St K⊕Ex×St K}(h:DJ cx n0 keep outs c st=some r)(h0:dC st.tm):
 st.ok=true/\match r with
   |.inl st'=>dC st'.tm/\Tr cx n0 c st .normal st'
   |.inr (e,st')=>e≠.normal/\Tr cx n0 c st e st':=by
 unfold DJ at h;obtain⟨e,s,h1,h2,h3⟩:=oy hD hc hm c hl _ _ _ h;cases hok:s.ok with
 |false=>rw[hok]at h1;cases h1
 |true=>
  rw[hok]at h1;simp only[ae]at h1;obtain⟨n1,htr⟩:=h3 hok h0;refine⟨h2 hok,?_⟩;have key:∀keep' s1 s',rM cx s=some (true,s1)->uw n0 keep' s1=some s'->dC s'.tm/\Tr cx n0 c st e s':=fun keep' s1 s' hcl hn=>by
   obtain⟨g1,g2⟩:dC s'.tm/\(dC s1.tm->Goes cx n0 s1 s'):=(D3 (cx:=cx) hD hn).2;obtain⟨c1,c2,c3,c4⟩:=Qc hD hcl;refine⟨g1,fun ρ S a w hn0 bM=>wp_mono (htr n0 ρ S a w hn0 bM) ?_⟩
   rintro e' a' w' ⟨he,hn1,ρ1,S1,fC,hst1⟩
   obtain⟨afj,afk⟩:=c4 n0 ρ1 S1 a' w' fC;obtain⟨hn2,ρ2,S2,zf,hst2⟩:=g2 (by rw[c1];exact n1) ρ1 S1 a' w' (by rw[c3];exact hn1) afj;exact⟨he,hn2,ρ2,S2,zf,(hst1.trans afk).trans hst2⟩
  cases e with
  |normal=>
   dsimp only at h1;split at h1
   ·rename_i b s1 hcl;cases b with
    |false=>cases h1
    |true=>
    simp only[ae]at h1;split at h1
    ·rename_i s' hn;simp only[av]at h1;subst h1;exact key _ _ _ hcl hn
    ·cases h1
   ·cases h1
  |exit id=>
   dsimp only at h1;split at h1
   ·rename_i b s1 hcl;cases b with
    |false=>cases h1
    |true=>
    simp only[ae]at h1;split at h1
    ·rename_i s' hn;simp only[av]at h1;subst h1;exact⟨by simp,(key _ _ _ hcl hn).2⟩
    ·cases h1
   ·cases h1
  |ret=>
   dsimp only at h1;split at h1
   ·rename_i b s1 hcl;cases b with
    |false=>cases h1
    |true=>
    simp only[ae]at h1;split at h1
    ·rename_i s' hn;simp only[av]at h1;subst h1;exact⟨by simp,(key _ _ _ hcl hn).2⟩
    ·cases h1
   ·cases h1
theorem Qg{cx:Cx K}(hD:bR cx.D)(hc:aP cx)(hm:cx.P.follows .mixedOrders=true){c:Code}(hl:ju cx c){M:lY K X Y}(hr:∀x,DJ cx M.n0 M.ins M.outs c (M.st x)=M.tree x){ρ0:List Value}{S0:Nat->Prop}{H0:List (Ob K)}{w0:World}{y:Y}:
 ∀(n:Nat)(x:X),iter M.step n x=some y->dC (M.st x).tm->∀(ρ:List Value)(S:Nat->Prop)(a:Act)(w:World),M.n0<=(M.st x).H.length->Sat cx ρ S a w (M.st x)->Step cx.D M.n0 ρ0 S0 H0 w0 ρ S (M.st x).H w->
  Code.rounds cx.P c (fun e' a' w'=>e'=(M.fst y).1.ng/\M.n0<=(M.fst y).2.H.length/\∃ρ' S',Sat cx ρ' S' a' w' (M.fst y).2/\Step cx.D M.n0 ρ0 S0 H0 w0 ρ' S' (M.fst y).2.H w') n a w
 |0,x,h,_,_,_,_,_,_,_,_=>by simp[iter]at h
 |n+1,x,h,h0,ρ,S,a,w,hn,bM,hst=>by
  have hrx:=hr x;rw[rounds_succ];simp only[iter]at h;unfold lY.tree at hrx;rcases(M.step x).cases with⟨x',hx⟩|⟨y',hy⟩|hb
  ·rw[hx]at h hrx;obtain⟨-,n1,htr⟩:=Qf hD hc hm hl hrx h0;refine wp_mono (htr ρ S a w hn bM) ?_
   rintro e' a' w' ⟨rfl,hn1,ρ1,S1,fC,hst1⟩
   exact Qg hD hc hm hl hr n x' h n1 ρ1 S1 a' w' hn1 fC (hst.trans hst1)
  ·rw[hy]at h hrx;simp only[av]at h;subst h;obtain⟨-,hne,htr⟩:=Qf hD hc hm hl hrx h0;refine wp_mono (htr ρ S a w hn bM) ?_
   rintro e' a' w' ⟨rfl,hn1,ρ1,S1,fC,hst1⟩
   have:∀(e:Ex),e≠.normal->∀(N:Act->World->Prop)(Q:Exit->Act->World->Prop),Q e.ng a' w'->Exit.then N Q e.ng a' w':=fun e he N Q hq=>by
    cases e with
    |normal=>exact absurd rfl he
    |exit id=>exact hq
    |ret=>exact hq
   exact this _ hne _ _ ⟨rfl,hn1,ρ1,S1,fC,hst.trans hst1⟩
  ·rw[hb]at h;cases h
theorem lY.ok{cx:Cx K}(hD:bR cx.D)(hc:aP cx)(hm:cx.P.follows .mixedOrders=true){c:Code}(hl:ju cx c)(M:lY K X Y)(hr:∀x,DJ cx M.n0 M.ins M.outs c (M.st x)=M.tree x)
 (hs:∀vs Hi x,M.start vs Hi=some x->Hi.length=M.n0/\Goes cx M.n0 ⟨ek (List.replicate M.n .any) M.ins vs,Hi,true⟩ (M.st x)) (hno:∀x,(M.vals x).all (fun v=> !v.jr)=true)
 (hf:∀x,M.chk x=true->∃n,iter M.step n x=some (M.fin x)) (ho:∀y,∃e vs Ho,∀(R:Type)(k:Ex->List (AV K)->List (Ob K)->R),M.out y k=k e vs Ho):bF cx c M.Qe:=by
 intro vals Hi R k r h;simp only[lY.Qe]at h;split at h
 ·rename_i x hx;cases J5:M.chk x with
  |false=>rw[J5]at h;cases h
  |true=>
   rw[J5]at h;simp only[ae]at h;obtain⟨n,hn⟩:=hf x J5;obtain⟨e,vs,Ho,hout⟩:=ho (M.fin x);rw[hout]at h;refine⟨e,vs,Ho,h,?_⟩;obtain⟨hlen,hgo⟩:=hs vals Hi x hx;have afl:M.fst (M.fin x)=(e,⟨ek (List.replicate M.n .any) M.outs vs,Ho,true⟩):=hout _ _;have h0:dC (M.st x).tm:=fun t g b v e=>by
    rcases wI M.ins (M.vals x) _ t _ e with h1|⟨i,-,h2⟩
    ·rw[m8]at h1;split at h1<;>cases h1
    ·have:=fN.1 (hno x) _ (eN h2);simp[AV.jr]at this
   intro ρ S a w hn0 bM;rw[hlen]at hn0⊢;obtain⟨hn1,ρ1,S1,fC,hst1⟩:=hgo ρ S a w (by show M.n0<=Hi.length;omega) bM;have:=Qg hD hc hm hl hr n x hn h0 ρ1 S1 a w hn1 fC hst1;rw[afl]at this;exact wp_loop_rounds n this
 ·cases h
end Go.V
