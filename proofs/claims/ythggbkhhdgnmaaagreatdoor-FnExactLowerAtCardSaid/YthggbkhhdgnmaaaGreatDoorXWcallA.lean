/-
  TEMPORARIES AND CALLS: what the value-level reading of an operand says of its value; a function's contract; a call by its contract.
-/
import Derived.Test.YthggbkhhdgnmaaaGreatDoorXWpureA
import Derived.Test.YthggbkhhdgnmaaaGreatDoorXWobj4
set_option linter.unusedVariables false
namespace Go.V
open Go
variable{K :dt}{D:bN K}{ρ ρ':List Value}{S S':Nat->Prop}{w w':World}{H H':List (Ob K)}
def eR(D:bN K)(ρ:List Value)(S:Nat->Prop)(w:World)(tmps:Array Value):AV K->Value->Prop
 |.opt g want v,x=>(tmps[g]?=some (.bool want)/\Rep D ρ S w v x)\/(tmps[g]?≠some (.bool want)/\x=undef)
 |v,x=>Rep D ρ S w v x
structure fe (D:bN K) (ρ:List Value) (S:Nat->Prop) (w:World) (tm:List (AV K)) (tmps:Array Value):Prop where
 len:tm.length=tmps.size
 ok:∀(t:Nat) v x,tm[t]?=some v->tmps[t]?=some x->eR D ρ S w tmps v x
theorem eR.mono{tmps:Array Value}(hS:∀b,S b->S' b)(hw:∀b,S b->w'.heap[b]?=w.heap[b]?)(hρ:∀(h:Nat) r,ρ[h]?=some r->ρ'[h]?=some r){v:AV K}{x:Value}(h:eR D ρ S w tmps v x):eR D ρ' S' w' tmps v x:=by
 cases v<;>simp only[eR]at h⊢<;>first|exact h.mono hS hw hρ|(rcases h with⟨a,b⟩|h;exact .inl ⟨a,b.mono hS hw hρ⟩;exact .inr h)
theorem fe.mono{tm:List (AV K)}{tmps:Array Value}(hS:∀b,S b->S' b)(hw:∀b,S b->w'.heap[b]?=w.heap[b]?)(hρ:∀(h:Nat) r,ρ[h]?=some r->ρ'[h]?=some r)(h:fe D ρ S w tm tmps):fe D ρ' S' w' tm tmps:=
 ⟨h.len,fun t v x hv hx=>(h.ok t v x hv hx).mono hS hw hρ⟩
theorem eR.jS{tmps:Array Value}{v:AV K}{x:Value}(h:Rep D ρ S w v x):eR D ρ S w tmps v x:=by
 cases v<;>first|exact h|(cases h)
theorem fe.get{tm:List (AV K)}{tmps:Array Value}(h:fe D ρ S w tm tmps){t:Nat}{v:AV K}(hv:tm[t]?=some v):∃x,tmps[t]?=some x/\eR D ρ S w tmps v x:=by
 have ht:t<tmps.size:=by rw[<-h.len];exact(cy.1 hv).1
 exact⟨tmps[t],zj ht,h.ok t v _ hv (zj ht)⟩
theorem ajp{tm:List (AV K)}{tmps:Array Value}(h:fe D ρ S w tm tmps):∀(n:Nat)(g t:Nat×Bool),covers tm n g t=true->tmps[g.1]?=some (.bool g.2)->tmps[t.1]?=some (.bool t.2)
 |0,g,t,hc,hg=>by simp[covers]at hc;rw[<-hc.1,<-hc.2];exact hg
 |n+1,g,t,hc,hg=>by
  simp only[covers,eM]at hc;rcases hc with hc|hc
  ·simp at hc;rw[<-hc.1,<-hc.2];exact hg
  ·split at hc
   ·rename_i g1 w1 v hv;obtain⟨x,hx,ho⟩:=h.get hv;rw[hg]at hx;simp at hx;subst hx;rcases ho with⟨a,-⟩|⟨-,b⟩
    ·exact ajp h n (g1,w1) t hc a
    ·simp[undef]at b
   ·cases hc
theorem ajq{tm:List (AV K)}{tmps:Array Value}(h:fe D ρ S w tm tmps):∀(n g:Nat)(want e:Bool),zk tm n (g,want)=some e->(e=true↔tmps[g]?=some (.bool want))
 |0,g,want,e,hc=>by simp[zk]at hc
 |n+1,g,want,e,hc=>by
  simp only[zk]at hc;split at hc
  ·rename_i b hv;obtain⟨x,hx,ho⟩:=h.get hv;simp only[eR]at ho;rw[kt ho]at hx;simp only[aA]at hc;subst hc;rw[hx];simp
  ·rename_i g1 w1 b hv;obtain⟨x,hx,ho⟩:=h.get hv;simp only[fi]at hc;obtain⟨e1,he1,rfl⟩:=hc;have ih:=ajq h n g1 w1 e1 he1;rcases ho with⟨a,ho⟩|⟨a,ho⟩
   ·rw[kt ho]at hx;rw[ih.2 a,hx];simp
   ·have:e1=false:=by cases e1;rfl;exact absurd (ih.1 rfl) a
    rw[this,hx,ho];simp[undef]
  ·cases hc
theorem ajr{a:Act}{t:Nat}{x:Value}(h:a.tmps[t]?=some x):a.eval (.tmp t)=x:=by simp[Act.eval,nD,h]
theorem KB{tm:List (AV K)}{a:Act}(h:fe D ρ S w tm a.tmps){gs:List (Nat×Bool)}(hg:∀p∈gs,a.tmps[p.1]?=some (.bool p.2))(x:Operand):Rep D ρ S w (dM tm gs x) (a.eval x):=by
 cases x with
 |tmp t=>
  simp only[dM];split
  ·rename_i g w1 v hv;split
   ·rename_i hc;obtain⟨y,hy,ho⟩:=h.get hv;rw[ajr hy];obtain⟨p,hp,hcov⟩:=List.any_eq_true.1 hc;have:=ajp h 6 p (g,w1) hcov (hg p hp);rcases ho with⟨-,ho⟩|⟨n,-⟩
    ·exact ho
    ·exact absurd this n
   ·exact .any _
  ·rename_i v hne hv;obtain⟨y,hy,ho⟩:=h.get hv;rw[ajr hy];cases v<;>first|exact ho|exact absurd rfl (hne _ _ _)
  ·exact .any _
 |const v=>
  simp only[dM,Act.eval];cases hv:(lU v:Option (AV K))with
  |none=>exact .any _
  |some y=>exact zl v y hv
 |global g=>exact .any _
 |func f=>exact .fn (caps:=[]) (vs:=[]) rfl (fun i v x h=>by simp at h)
mutual
theorem ajs:∀(x y:AV K)(v:Value),Rep D ρ S w x v->Rep D ρ S w (merge true x y) v
 |.int k m,y,v,h=>by cases y<;>first|exact .any _|(simp only[merge];split<;>first|exact h|exact .any _)
 |.bool m,y,v,h=>by cases y<;>first|exact .any _|exact h
 |.str m,y,v,h=>by cases y<;>first|exact .any _|exact h
 |.ah c l,y,v,h=>by
   cases y<;>first|exact .any _|skip
   rename_i c' l';simp only[merge];cases hd:K.jP c c' with
   |isTrue he=>subst he;exact h
   |isFalse hn=>exact .any _
 |.agg l,y,v,h=>by
   cases y<;>first|exact .any _|skip
   rename_i l';simp only[merge];split
   ·rename_i he;cases h with
    |agg hl hr=>
     have:=ajt l l' he _ ⟨hl,hr⟩;exact .agg this.1 this.2
   ·exact .any _
 |.dk,y,v,h=>by cases y<;>first|exact .any _|exact h
 |.dJ,y,v,h=>by cases y<;>first|exact .any _|exact h
 |.any,y,v,h|.fn _ _,y,v,h|.ptr _ _,y,v,h|.sl _,y,v,h|.ep _ _ _ _,y,v,h|.rp _ _ _,y,v,h|.bT _,y,v,h|.np _,y,v,h|.vw _ _ _ _,y,v,h|.opt _ _ _,y,v,h=>by simp only[merge];exact .any _
theorem ajt:∀(l l':List (AV K)),l.length=l'.length->∀(vs:List Value),bG D ρ S w l vs->bG D ρ S w (merges true l l') vs
 |[],l',hl,vs,h=>by cases l'<;>simp[merges]<;>exact h
 |x::r,[],hl,vs,h=>by simp at hl
 |x::r,y::s,hl,vs,h=>by
  obtain⟨u,t,rfl,h1,h2⟩:=h.ij;simp only[merges];exact .cons (ajs x y u h1) (ajt r s (by simpa using hl) t h2)
end
mutual
theorem aju:∀(x y:AV K)(v:Value),Rep D ρ S w y v->Rep D ρ S w (merge false x y) v
 |.int k m,y,v,h=>by cases y<;>first|exact .any _|(simp only[merge];split<;>first|(rename_i he;subst he;exact h)|exact .any _)
 |.bool m,y,v,h=>by cases y<;>first|exact .any _|exact h
 |.str m,y,v,h=>by cases y<;>first|exact .any _|exact h
 |.ah c l,y,v,h=>by
   cases y<;>first|exact .any _|skip
   rename_i c' l';simp only[merge];cases hd:K.jP c c' with
   |isTrue he=>subst he;exact h
   |isFalse hn=>exact .any _
 |.agg l,y,v,h=>by
   cases y<;>first|exact .any _|skip
   rename_i l';simp only[merge];split
   ·rename_i he;cases h with
    |agg hl hr=>
     have:=ajv l l' he _ ⟨hl,hr⟩;exact .agg this.1 this.2
   ·exact .any _
 |.dk,y,v,h=>by cases y<;>first|exact .any _|exact h
 |.dJ,y,v,h=>by cases y<;>first|exact .any _|exact h
 |.any,y,v,h|.fn _ _,y,v,h|.ptr _ _,y,v,h|.sl _,y,v,h|.ep _ _ _ _,y,v,h|.rp _ _ _,y,v,h|.bT _,y,v,h|.np _,y,v,h|.vw _ _ _ _,y,v,h|.opt _ _ _,y,v,h=>by simp only[merge];exact .any _
theorem ajv:∀(l l':List (AV K)),l.length=l'.length->∀(vs:List Value),bG D ρ S w l' vs->bG D ρ S w (merges false l l') vs
 |[],l',hl,vs,h=>by cases l'<;>simp[merges]at hl⊢<;>exact h
 |x::r,[],hl,vs,h=>by simp at hl
 |x::r,y::s,hl,vs,h=>by
  obtain⟨u,t,rfl,h1,h2⟩:=h.ij;simp only[merges];exact .cons (aju x y u h1) (ajv r s (by simpa using hl) t h2)
end
theorem ajw{b:Bool}{x y:AV K}{v:Value}(h1:b=true->Rep D ρ S w x v)(h2:b=false->Rep D ρ S w y v):Rep D ρ S w (merge b x y) v:=by
 cases b
 ·exact aju x y v (h2 rfl)
 ·exact ajs x y v (h1 rfl)
end Go.V
namespace Go.V
open Go
variable{K :dt}{D:bN K}{ρ ρ':List Value}{S S':Nat->Prop}{w w':World}{H H':List (Ob K)}
def tp(P:Program)(f:FuncId):Prop:=∃fn,P.funcs[f]?=some fn/\(fn.name== "runtime.NumGoroutine")=false/\fn.body.isNone=false
def RC(D:bN K)(P:Program)(f:FuncId)(args:List (AV K))(H:List (Ob K))(r:AV K)(H':List (Ob K)):Prop:=
 tp P f/\∀(ρ:List Value)(S:Nat->Prop)(w:World)(vals:List Value),aY D ρ S w H->bG D ρ S w args vals->
  Calls P f vals.toArray w fun e w'=>∃u ρ' S',e=.returned u/\aY D ρ' S' w' H'/\Rep D ρ' S' w' r u/\Step D H.length ρ S H w ρ' S' H' w'
theorem PL(hs:aY D ρ S w H)(x:AV K)(v:Value)(hx:Rep D ρ S w x v):Rep D ρ (fun b=>S b\/Own D w ρ H b) w (wW H x) v:=by
 cases x with
 |sl h=>
  obtain⟨hp,a,n,c,rfl⟩:=kx hx;simp only[wW];split
  ·rename_i cc l hob;rcases wX hs hob hp with⟨e,rfl⟩|⟨b,o,cap,vs,T,fr,e,hblk,⟨hcap,eQ⟩,hsz,hfr,hall⟩
   ·rw[e];exact .fw _ _
   ·rw[e]at hp⊢;refine .ah (fun i=>cG vs (o+i*K.sz cc) (K.sz cc)) (.inr ⟨h,_,_,hob,rfl,hp,rfl⟩) hcap (fun i x hx=>(hall i x hx).1.symm) (fun i _=>tJ hblk _ _) (fun i x hx j v y hv hy=>?_);exact((hall i x hx).2 j v y hv hy).mono (fun _ h=>.inl h) (fun _ _=>rfl) (fun _ _ h=>h)
  ·rename_i cc l hob;have:=hs.ob _ _ _ hob hp;exact Rep.mono (fun _ h=>.inl h) (fun _ _=>rfl) (fun _ _ h=>h) this
  ·rename_i cc l hob;exact Tree.rep (hs.ob _ _ _ hob hp) fun k hk=>.inr ⟨h,_,_,hob,rfl,hp,hk⟩
  ·exact .any _
 |_=>exact hx.mono (fun _ h=>.inl h) (fun _ _=>rfl) (fun _ _ h=>h)
theorem aAL(hs:aY D ρ S w H)(l:List (AV K))(vs:List Value)(hx:bG D ρ S w l vs):bG D ρ (fun b=>S b\/Own D w ρ H b) w (l.map (wW H)) vs:=
 ⟨by simp[hx.1],fun i v x hv hy=>by
   rw[gn,fi]at hv;obtain⟨u,hu,rfl⟩:=hv;exact PL hs u x (hx.2 i u x hu hy)⟩
mutual
theorem ajx(hD:bY D)(hs:aY D ρ S w H):∀(x:AV K)(v:Value),Rep D ρ S w x v->Rep D ρ (fun b=>S b\/Own D w ρ H b) w (iG D H x) v
 |.sl h,v,hx=>by
   obtain⟨hp,a,n,c,rfl⟩:=kx hx;simp only[iG];split
   ·rename_i cc l hob;rcases wX hs hob hp with⟨e,rfl⟩|⟨b,o,cap,vs,T,fr,e,hblk,⟨hcap,eQ⟩,hsz,hfr,hall⟩
    ·rw[e];exact .fw _ _
    ·rw[e]at hp⊢;refine .ah (fun i=>cG vs (o+i*K.sz cc) (K.sz cc)) (.inr ⟨h,_,_,hob,rfl,hp,rfl⟩) hcap (fun i x hx=>(hall i x hx).1.symm) (fun i _=>tJ hblk _ _) (fun i x hx j v y hv hy=>?_);exact((hall i x hx).2 j v y hv hy).mono (fun _ h=>.inl h) (fun _ _=>rfl) (fun _ _ h=>h)
   ·rename_i cc l hob;have:=hs.ob _ _ _ hob hp;exact Rep.mono (fun _ h=>.inl h) (fun _ _=>rfl) (fun _ _ h=>h) this
   ·rename_i cc l hob;exact Tree.rep (hs.ob _ _ _ hob hp) fun k hk=>.inr ⟨h,_,_,hob,rfl,hp,hk⟩
   ·exact .any _
 |.vw h st lo hi,v,hx=>by
   cases hx with
   |vw hp h1 h2 ha=>
    simp only[iG];split
    ·rename_i cc l hob;split
     ·rename_i hst;subst hst;have:=PL (D:=D) hs (.sl h) _ (.sl hp);simp only[wW,hob]at this;exact ajy this h1 h2 ha
     ·exact .any _
    ·rename_i cc l hob;split
     ·rename_i hst;subst hst;have:=PL (D:=D) hs (.sl h) _ (.sl hp);simp only[wW,hob]at this;exact ajy this h1 h2 ha
     ·exact .any _
    ·exact .any _
 |.ptr h off,v,hx=>by
   obtain⟨b,rfl,hp⟩:=zm hx;simp only[iG];split
   ·rename_i cs hob;split
    ·rename_i c hf;split
     ·rename_i y hdec;obtain⟨b',vs,T,e,hblk,hr,-⟩:=hs.ob _ _ _ hob hp;simp only[Value.pointer.injEq,aA,Addr.mk.injEq]at e;obtain⟨rfl,-,-⟩:=e;have hc:=hD.dec c _ _ hdec ρ (fun b=>S b\/Own D w ρ H b) w _ (aAL hs _ _ hr);have:=Rep.rp (D:=D) (ρ:=ρ) (S:=fun b=>S b\/Own D w ρ H b) (w:=w) (c:=c) (x:=y) (b:=b) (o:=0) (off:=off) vs.toList (.inr ⟨h,_,_,hob,rfl,hp,rfl⟩) hc.1.symm
       (fun j v hv=>by simp[World.cell?,hblk];simpa using hv) (fun j v y' h1 h2=>hc.2 j v y' h1 h2)
      rw[dN]at this;exact this
     ·exact .any _
    ·exact .any _
   ·exact .any _
 |.fn g l,v,hx=>by
   cases hx with
   |fn hl hr=>
    have:=zh hD hs l _ ⟨hl,hr⟩;exact .fn this.1 this.2
 |.agg l,v,hx=>by
   cases hx with
   |agg hl hr=>
    have:=zh hD hs l _ ⟨hl,hr⟩;exact .agg this.1 this.2
 |.bT l,v,hx=>by
   cases hx with
   |bT hl hr=>
    have:=zh hD hs l _ ⟨hl,hr⟩;exact .bT this.1 this.2
 |.any,v,hx|.int _ _,v,hx|.bool _,v,hx|.str _,v,hx|.dJ,v,hx|.dk,v,hx|.ep _ _ _ _,v,hx|.ah _ _,v,hx|.rp _ _ _,v,hx|.np _,v,hx|.opt _ _ _,v,hx=>by
   simp only[iG];exact hx.mono (fun _ h=>.inl h) (fun _ _=>rfl) (fun _ _ h=>h)
theorem zh(hD:bY D)(hs:aY D ρ S w H):∀(l:List (AV K))(vs:List Value),bG D ρ S w l vs->bG D ρ (fun b=>S b\/Own D w ρ H b) w (lV D H l) vs
 |[],vs,h=>by rw[h.pv];exact .nil
 |x::r,vs,h=>by
  obtain⟨u,t,rfl,h1,h2⟩:=h.ij;exact .cons (ajx hD hs x u h1) (zh hD hs r t h2)
end
mutual
theorem aAM:∀(x:AV K),qI x=false->iG D H x=x
 |.sl h,hx=>by simp[qI]at hx
 |.ptr h o,hx=>by simp[qI]at hx
 |.np h,hx=>by simp[qI]at hx
 |.vw _ _ _ _,hx=>by simp[qI]at hx
 |.fn g l,hx=>by simp only[iG];rw[zi l (by simpa [qI]using hx)]
 |.agg l,hx=>by simp only[iG];rw[zi l (by simpa [qI]using hx)]
 |.bT l,hx=>by simp only[iG];rw[zi l (by simpa [qI]using hx)]
 |.any,hx|.int _ _,hx|.bool _,hx|.str _,hx|.dJ,hx|.dk,hx|.ep _ _ _ _,hx|.ah _ _,hx|.rp _ _ _,hx|.opt _ _ _,hx=>rfl
theorem zi:∀(l:List (AV K)),wT l=false->lV D H l=l
 |[],_=>rfl
 |x::r,h=>by
  simp only[wT,yI]at h;simp only[lV];rw[aAM x h.1,zi r h.2]
end
mutual
theorem PG:∀(x:AV K)(v:Value),x.closed=true->iF x=false->Rep D ρ S w x v->Rep D ρ' S' w' x v
 |.any,v,_,_,h=>.any _
 |.int _ _,v,_,_,h=>by rw[fB h];exact .int _ _
 |.bool _,v,_,_,h=>by rw[kt h];exact .bool _
 |.str _,v,_,_,h=>by rw[iz h];exact .str _
 |.dJ,v,_,_,h=>by cases h;exact .dJ
 |.dk,v,_,_,h=>by cases h;exact .dk
 |.fn f l,v,hc,hr,h=>by
   cases h with
   |fn hl hh=>
    have:=KC l _ (by simpa [AV.closed]using hc) (by simpa [iF]using hr) ⟨hl,hh⟩;exact .fn this.1 this.2
 |.agg l,v,hc,hr,h=>by
   cases h with
   |agg hl hh=>
    have:=KC l _ (by simpa [AV.closed]using hc) (by simpa [iF]using hr) ⟨hl,hh⟩;exact .agg this.1 this.2
 |.bT l,v,hc,hr,h=>by
   cases h with
   |bT hl hh=>
    have:=KC l _ (by simpa [AV.closed]using hc) (by simpa [iF]using hr) ⟨hl,hh⟩;exact .bT this.1 this.2
 |.np _,v,hc,_,_|.vw _ _ _ _,v,hc,_,_|.ptr _ _,v,hc,_,_|.sl _,v,hc,_,_|.ep _ _ _ _,v,hc,_,_|.opt _ _ _,v,hc,_,_=>by simp[AV.closed]at hc
 |.ah _ _,v,_,hr,_|.rp _ _ _,v,_,hr,_=>by simp[iF]at hr
theorem KC:∀(l:List (AV K))(vs:List Value),gY l=true->cQ l=false->bG D ρ S w l vs->bG D ρ' S' w' l vs
 |[],vs,_,_,h=>by rw[h.pv];exact .nil
 |x::r,vs,hc,hr,h=>by
  simp only[gY,bJ]at hc;simp only[cQ,yI]at hr;obtain⟨u,t,rfl,h1,h2⟩:=h.ij;exact .cons (PG x u hc.1 hr.1 h1) (KC r t hc.2 hr.2 h2)
end
def Ren(f:Nat->Option Nat)(ρ ρ':List Value):Prop:=∀(i j:Nat)(r:Value),f i=some j->ρ[i]?=some r->ρ'[j]?=some r
mutual
theorem tI(hD:bY D){f:Nat->Option Nat}(hm:Ren f ρ ρ'):∀(x x':AV K)(v:Value),fx f x=some x'->Rep D ρ S w x v->Rep D ρ' S w x' v
 |.ptr h o,x',v,hb,hx=>by
   simp only[fx,fi]at hb;obtain⟨j,hj,rfl⟩:=hb;obtain⟨b,rfl,hp⟩:=zm hx;exact .ptr (hm _ _ _ hj hp)
 |.vw h st lo hi,x',v,hb,hx=>by
   simp only[fx,fi]at hb;obtain⟨j,hj,rfl⟩:=hb;cases hx with
   |vw hp h1 h2 ha=>exact .vw (hm _ _ _ hj hp) h1 h2 ha
 |.np h,x',v,hb,hx=>by
   simp only[fx,fi]at hb;obtain⟨j,hj,rfl⟩:=hb;cases hx with
   |lg=>exact .lg
   |np hp=>exact .np (hm _ _ _ hj hp)
 |.sl h,x',v,hb,hx=>by
   simp only[fx,fi]at hb;obtain⟨j,hj,rfl⟩:=hb;obtain⟨hp,a,n,c,rfl⟩:=kx hx;exact .sl (hm _ _ _ hj hp)
 |.ep h s i o,x',v,hb,hx=>by
   simp only[fx,fi]at hb;obtain⟨j,hj,rfl⟩:=hb;obtain⟨b,o',n,c,rfl,hp,hi⟩:=pB hx;exact .ep (hm _ _ _ hj hp) hi
 |.fn g l,x',v,hb,hx=>by
   simp only[fx,fi]at hb;obtain⟨l',hl',rfl⟩:=hb;cases hx with
   |fn hl hh=>
    have:=ze hD hm l l' _ hl' ⟨hl,hh⟩;exact .fn this.1 this.2
 |.agg l,x',v,hb,hx=>by
   simp only[fx,fi]at hb;obtain⟨l',hl',rfl⟩:=hb;cases hx with
   |agg hl hh=>
    have:=ze hD hm l l' _ hl' ⟨hl,hh⟩;exact .agg this.1 this.2
 |.bT l,x',v,hb,hx=>by
   simp only[fx,fi]at hb;obtain⟨l',hl',rfl⟩:=hb;cases hx with
   |bT hl hh=>
    have:=ze hD hm l l' _ hl' ⟨hl,hh⟩;exact .bT this.1 this.2
 |.opt _ _ _,x',v,hb,hx=>by simp[fx]at hb
 |.any,x',v,hb,hx=>by simp only[fx,aA]at hb;subst hb;exact .any _
 |.int _ _,x',v,hb,hx=>by simp only[fx,aA]at hb;subst hb;rw[fB hx];exact .int _ _
 |.bool _,x',v,hb,hx=>by simp only[fx,aA]at hb;subst hb;rw[kt hx];exact .bool _
 |.str _,x',v,hb,hx=>by simp only[fx,aA]at hb;subst hb;rw[iz hx];exact .str _
 |.dJ,x',v,hb,hx=>by simp only[fx,aA]at hb;subst hb;cases hx;exact .dJ
 |.dk,x',v,hb,hx=>by simp only[fx,aA]at hb;subst hb;cases hx;exact .dk
 |.ah c l,x',v,hb,hx=>by simp only[fx,aA]at hb;subst hb;exact hx.closed hD rfl
 |.rp c y o,x',v,hb,hx=>by simp only[fx,aA]at hb;subst hb;exact hx.closed hD rfl
theorem ze(hD:bY D){f:Nat->Option Nat}(hm:Ren f ρ ρ'):∀(l l':List (AV K))(vs:List Value),jh f l=some l'->bG D ρ S w l vs->bG D ρ' S w l' vs
 |[],l',vs,hb,h=>by simp only[jh,aA]at hb;subst hb;rw[h.pv];exact .nil
 |x::r,l',vs,hb,h=>by
  simp only[jh]at hb;split at hb
  ·rename_i x1 r1 hx1 hr1;simp only[aA]at hb;subst hb;obtain⟨u,t,rfl,h1,h2⟩:=h.ij;exact .cons (tI hD hm x x1 u hx1 h1) (ze hD hm r r1 t hr1 h2)
  ·cases hb
end
end Go.V
