/-
  TEMPORARIES AND CALLS: what the value-level reading of an operand says of its value; a function's contract; a call by its contract.
-/
import Derived.Test.YtghkckfhaljjjaaGreatDoorXWpureA
import Derived.Test.YtghkckfhaljjjaaGreatDoorXWobj4
set_option linter.unusedVariables false
namespace Go.V
open Go
variable {K :dh}{D:bH K}{ρ ρ':List Value}{S S':Nat->Prop}{w w':World}{H H':List (Ob K)}
def eM(D:bH K)(ρ:List Value)(S:Nat->Prop)(w:World)(tmps:Array Value):AV K->Value->Prop
 |.opt g want v,x=>(tmps[g]?=some (.bool want)/\Rep D ρ S w v x)\/(tmps[g]?≠some (.bool want)/\x=undef)
 |v,x=>Rep D ρ S w v x
structure fb (D:bH K) (ρ:List Value) (S:Nat->Prop) (w:World) (tm:List (AV K)) (tmps:Array Value):Prop where
 len:tm.length=tmps.size
 ok:∀(t:Nat) v x,tm[t]?=some v->tmps[t]?=some x->eM D ρ S w tmps v x
theorem eM.mono{tmps:Array Value}(hS:∀b,S b->S' b)(hw:∀b,S b->w'.heap[b]?=w.heap[b]?)(hρ:∀(h:Nat) r,ρ[h]?=some r->ρ'[h]?=some r){v:AV K}{x:Value}(h:eM D ρ S w tmps v x):eM D ρ' S' w' tmps v x:=by
 cases v<;>simp only[eM]at h⊢<;>first|exact h.mono hS hw hρ|(rcases h with⟨a,b⟩|h;exact .inl ⟨a,b.mono hS hw hρ⟩;exact .inr h)
theorem fb.mono{tm:List (AV K)}{tmps:Array Value}(hS:∀b,S b->S' b)(hw:∀b,S b->w'.heap[b]?=w.heap[b]?)(hρ:∀(h:Nat) r,ρ[h]?=some r->ρ'[h]?=some r)(h:fb D ρ S w tm tmps):fb D ρ' S' w' tm tmps:=
 ⟨h.len,fun t v x hv hx=>(h.ok t v x hv hx).mono hS hw hρ⟩
theorem eM.jR{tmps:Array Value}{v:AV K}{x:Value}(h:Rep D ρ S w v x):eM D ρ S w tmps v x:=by
 cases v<;>first|exact h|(cases h)
theorem fb.get{tm:List (AV K)}{tmps:Array Value}(h:fb D ρ S w tm tmps){t:Nat}{v:AV K}(hv:tm[t]?=some v):∃x,tmps[t]?=some x/\eM D ρ S w tmps v x:=by
 have ht:t<tmps.size:=by rw[<-h.len];exact(bD.1 hv).1
 exact⟨tmps[t],wm ht,h.ok t v _ hv (wm ht)⟩
theorem N4{tm:List (AV K)}{tmps:Array Value}(h:fb D ρ S w tm tmps):∀(n:Nat)(g t:Nat×Bool),covers tm n g t=true->tmps[g.1]?=some (.bool g.2)->tmps[t.1]?=some (.bool t.2)
 |0,g,t,hc,hg=>by simp[covers]at hc;rw[<-hc.1,<-hc.2];exact hg
 |n+1,g,t,hc,hg=>by
  simp only[covers,ej]at hc;rcases hc with hc|hc
  ·simp at hc;rw[<-hc.1,<-hc.2];exact hg
  ·split at hc
   ·rename_i g1 w1 v hv;obtain⟨x,hx,ho⟩:=h.get hv;rw[hg]at hx;simp at hx;subst hx;rcases ho with⟨a,-⟩|⟨-,b⟩
    ·exact N4 h n (g1,w1) t hc a
    ·simp[undef]at b
   ·cases hc
theorem N5{tm:List (AV K)}{tmps:Array Value}(h:fb D ρ S w tm tmps):∀(n g:Nat)(want e:Bool),vZ tm n (g,want)=some e->(e=true↔tmps[g]?=some (.bool want))
 |0,g,want,e,hc=>by simp[vZ]at hc
 |n+1,g,want,e,hc=>by
  simp only[vZ]at hc;split at hc
  ·rename_i b hv;obtain⟨x,hx,ho⟩:=h.get hv;simp only[eM]at ho;rw[ky ho]at hx;simp only[av]at hc;subst hc;rw[hx];simp
  ·rename_i g1 w1 b hv;obtain⟨x,hx,ho⟩:=h.get hv;simp only[dy]at hc;obtain⟨e1,he1,rfl⟩:=hc;have ih:=N5 h n g1 w1 e1 he1;rcases ho with⟨a,ho⟩|⟨a,ho⟩
   ·rw[ky ho]at hx;rw[ih.2 a,hx];simp
   ·have:e1=false:=by cases e1;rfl;exact absurd (ih.1 rfl) a
    rw[this,hx,ho];simp[undef]
  ·cases hc
theorem N6{a:Act}{t:Nat}{x:Value}(h:a.tmps[t]?=some x):a.eval (.tmp t)=x:=by simp[Act.eval,gu,h]
theorem CZ{tm:List (AV K)}{a:Act}(h:fb D ρ S w tm a.tmps){gs:List (Nat×Bool)}(hg:∀p∈gs,a.tmps[p.1]?=some (.bool p.2))(x:Operand):Rep D ρ S w (dP tm gs x) (a.eval x):=by
 cases x with
 |tmp t=>
  simp only[dP];split
  ·rename_i g w1 v hv;split
   ·rename_i hc;obtain⟨y,hy,ho⟩:=h.get hv;rw[N6 hy];obtain⟨p,hp,hcov⟩:=List.any_eq_true.1 hc;have:=N4 h 6 p (g,w1) hcov (hg p hp);rcases ho with⟨-,ho⟩|⟨n,-⟩
    ·exact ho
    ·exact absurd this n
   ·exact .any _
  ·rename_i v hne hv;obtain⟨y,hy,ho⟩:=h.get hv;rw[N6 hy];cases v<;>first|exact ho|exact absurd rfl (hne _ _ _)
  ·exact .any _
 |const v=>
  simp only[dP,Act.eval];cases hv:(lN v:Option (AV K))with
  |none=>exact .any _
  |some y=>exact v7 v y hv
 |global g=>exact .any _
 |func f=>exact .fn (caps:=[]) (vs:=[]) rfl (fun i v x h=>by simp at h)
mutual
theorem N7:∀(x y:AV K)(v:Value),Rep D ρ S w x v->Rep D ρ S w (merge true x y) v
 |.int k m,y,v,h=>by cases y<;>first|exact .any _|(simp only[merge];split<;>first|exact h|exact .any _)
 |.bool m,y,v,h=>by cases y<;>first|exact .any _|exact h
 |.str m,y,v,h=>by cases y<;>first|exact .any _|exact h
 |.an c l,y,v,h=>by
   cases y<;>first|exact .any _|skip
   rename_i c' l';simp only[merge];cases hd:K.jS c c' with
   |isTrue he=>subst he;exact h
   |isFalse hn=>exact .any _
 |.agg l,y,v,h=>by
   cases y<;>first|exact .any _|skip
   rename_i l';simp only[merge];split
   ·rename_i he;cases h with
    |agg hl hr=>
     have:=N8 l l' he _ ⟨hl,hr⟩;exact .agg this.1 this.2
   ·exact .any _
 |.dn,y,v,h=>by cases y<;>first|exact .any _|exact h
 |.dx,y,v,h=>by cases y<;>first|exact .any _|exact h
 |.any,y,v,h|.fn _ _,y,v,h|.ptr _ _,y,v,h|.sl _,y,v,h|.ep _ _ _ _,y,v,h|.rp _ _ _,y,v,h|.bC _,y,v,h|.np _,y,v,h|.vw _ _ _ _,y,v,h|.opt _ _ _,y,v,h=>by simp only[merge];exact .any _
theorem N8:∀(l l':List (AV K)),l.length=l'.length->∀(vs:List Value),bh D ρ S w l vs->bh D ρ S w (merges true l l') vs
 |[],l',hl,vs,h=>by cases l'<;>simp[merges]<;>exact h
 |x::r,[],hl,vs,h=>by simp at hl
 |x::r,y::s,hl,vs,h=>by
  obtain⟨u,t,rfl,h1,h2⟩:=h.gp;simp only[merges];exact .cons (N7 x y u h1) (N8 r s (by simpa using hl) t h2)
end
mutual
theorem N9:∀(x y:AV K)(v:Value),Rep D ρ S w y v->Rep D ρ S w (merge false x y) v
 |.int k m,y,v,h=>by cases y<;>first|exact .any _|(simp only[merge];split<;>first|(rename_i he;subst he;exact h)|exact .any _)
 |.bool m,y,v,h=>by cases y<;>first|exact .any _|exact h
 |.str m,y,v,h=>by cases y<;>first|exact .any _|exact h
 |.an c l,y,v,h=>by
   cases y<;>first|exact .any _|skip
   rename_i c' l';simp only[merge];cases hd:K.jS c c' with
   |isTrue he=>subst he;exact h
   |isFalse hn=>exact .any _
 |.agg l,y,v,h=>by
   cases y<;>first|exact .any _|skip
   rename_i l';simp only[merge];split
   ·rename_i he;cases h with
    |agg hl hr=>
     have:=Oa l l' he _ ⟨hl,hr⟩;exact .agg this.1 this.2
   ·exact .any _
 |.dn,y,v,h=>by cases y<;>first|exact .any _|exact h
 |.dx,y,v,h=>by cases y<;>first|exact .any _|exact h
 |.any,y,v,h|.fn _ _,y,v,h|.ptr _ _,y,v,h|.sl _,y,v,h|.ep _ _ _ _,y,v,h|.rp _ _ _,y,v,h|.bC _,y,v,h|.np _,y,v,h|.vw _ _ _ _,y,v,h|.opt _ _ _,y,v,h=>by simp only[merge];exact .any _
theorem Oa:∀(l l':List (AV K)),l.length=l'.length->∀(vs:List Value),bh D ρ S w l' vs->bh D ρ S w (merges false l l') vs
 |[],l',hl,vs,h=>by cases l'<;>simp[merges]at hl⊢<;>exact h
 |x::r,[],hl,vs,h=>by simp at hl
 |x::r,y::s,hl,vs,h=>by
  obtain⟨u,t,rfl,h1,h2⟩:=h.gp;simp only[merges];exact .cons (N9 x y u h1) (Oa r s (by simpa using hl) t h2)
end
theorem Oc{b:Bool}{x y:AV K}{v:Value}(h1:b=true->Rep D ρ S w x v)(h2:b=false->Rep D ρ S w y v):Rep D ρ S w (merge b x y) v:=by
 cases b
 ·exact N9 x y v (h2 rfl)
 ·exact N7 x y v (h1 rfl)
end Go.V
namespace Go.V
open Go
variable {K :dh}{D:bH K}{ρ ρ':List Value}{S S':Nat->Prop}{w w':World}{H H':List (Ob K)}
def tO(P:Program)(f:FuncId):Prop:=∃fn,P.funcs[f]?=some fn/\(fn.name== "runtime.NumGoroutine")=false/\fn.body.isNone=false
def RC(D:bH K)(P:Program)(f:FuncId)(args:List (AV K))(H:List (Ob K))(r:AV K)(H':List (Ob K)):Prop:=
 tO P f/\∀(ρ:List Value)(S:Nat->Prop)(w:World)(vals:List Value),aS D ρ S w H->bh D ρ S w args vals->
  Calls P f vals.toArray w fun e w'=>∃u ρ' S',e=.returned u/\aS D ρ' S' w' H'/\Rep D ρ' S' w' r u/\Step D H.length ρ S H w ρ' S' H' w'
theorem IC(hs:aS D ρ S w H)(x:AV K)(v:Value)(hx:Rep D ρ S w x v):Rep D ρ (fun b=>S b\/Own D w ρ H b) w (tV H x) v:=by
 cases x with
 |sl h=>
  obtain⟨hp,a,n,c,rfl⟩:=lO hx;simp only[tV];split
  ·rename_i cc l hob;rcases C0 hs hob hp with⟨e,rfl⟩|⟨b,o,cap,vs,T,fr,e,hblk,⟨hcap,fU⟩,hsz,hfr,hall⟩
   ·rw[e];exact .fc _ _
   ·rw[e]at hp⊢;refine .an (fun i=>db vs (o+i*K.sz cc) (K.sz cc)) (.inr ⟨h,_,_,hob,rfl,hp,rfl⟩) hcap (fun i x hx=>(hall i x hx).1.symm) (fun i _=>v8 hblk _ _) (fun i x hx j v y hv hy=>?_);exact((hall i x hx).2 j v y hv hy).mono (fun _ h=>.inl h) (fun _ _=>rfl) (fun _ _ h=>h)
  ·rename_i cc l hob;have:=hs.ob _ _ _ hob hp;exact Rep.mono (fun _ h=>.inl h) (fun _ _=>rfl) (fun _ _ h=>h) this
  ·rename_i cc l hob;exact Tree.rep (hs.ob _ _ _ hob hp) fun k hk=>.inr ⟨h,_,_,hob,rfl,hp,hk⟩
  ·exact .any _
 |_=>exact hx.mono (fun _ h=>.inl h) (fun _ _=>rfl) (fun _ _ h=>h)
theorem ad7(hs:aS D ρ S w H)(l:List (AV K))(vs:List Value)(hx:bh D ρ S w l vs):bh D ρ (fun b=>S b\/Own D w ρ H b) w (l.map (tV H)) vs:=
 ⟨by simp[hx.1],fun i v x hv hy=>by
   rw[ik,dy]at hv;obtain⟨u,hu,rfl⟩:=hv;exact IC hs u x (hx.2 i u x hu hy)⟩
mutual
theorem ad8(hD:bR D)(hs:aS D ρ S w H):∀(x:AV K)(v:Value),Rep D ρ S w x v->Rep D ρ (fun b=>S b\/Own D w ρ H b) w (jo D H x) v
 |.sl h,v,hx=>by
   obtain⟨hp,a,n,c,rfl⟩:=lO hx;simp only[jo];split
   ·rename_i cc l hob;rcases C0 hs hob hp with⟨e,rfl⟩|⟨b,o,cap,vs,T,fr,e,hblk,⟨hcap,fU⟩,hsz,hfr,hall⟩
    ·rw[e];exact .fc _ _
    ·rw[e]at hp⊢;refine .an (fun i=>db vs (o+i*K.sz cc) (K.sz cc)) (.inr ⟨h,_,_,hob,rfl,hp,rfl⟩) hcap (fun i x hx=>(hall i x hx).1.symm) (fun i _=>v8 hblk _ _) (fun i x hx j v y hv hy=>?_);exact((hall i x hx).2 j v y hv hy).mono (fun _ h=>.inl h) (fun _ _=>rfl) (fun _ _ h=>h)
   ·rename_i cc l hob;have:=hs.ob _ _ _ hob hp;exact Rep.mono (fun _ h=>.inl h) (fun _ _=>rfl) (fun _ _ h=>h) this
   ·rename_i cc l hob;exact Tree.rep (hs.ob _ _ _ hob hp) fun k hk=>.inr ⟨h,_,_,hob,rfl,hp,hk⟩
   ·exact .any _
 |.vw h st lo hi,v,hx=>by
   cases hx with
   |vw hp h1 h2 ha=>
    simp only[jo];split
    ·rename_i cc l hob;split
     ·rename_i hst;subst hst;have:=IC (D:=D) hs (.sl h) _ (.sl hp);simp only[tV,hob]at this;exact Oe this h1 h2 ha
     ·exact .any _
    ·rename_i cc l hob;split
     ·rename_i hst;subst hst;have:=IC (D:=D) hs (.sl h) _ (.sl hp);simp only[tV,hob]at this;exact Oe this h1 h2 ha
     ·exact .any _
    ·exact .any _
 |.ptr h off,v,hx=>by
   obtain⟨b,rfl,hp⟩:=rm hx;simp only[jo];split
   ·rename_i cs hob;split
    ·rename_i c hf;split
     ·rename_i y hdec;obtain⟨b',vs,T,e,hblk,hr,-⟩:=hs.ob _ _ _ hob hp;simp only[Value.pointer.injEq,av,Addr.mk.injEq]at e;obtain⟨rfl,-,-⟩:=e;have hc:=hD.dec c _ _ hdec ρ (fun b=>S b\/Own D w ρ H b) w _ (ad7 hs _ _ hr);have:=Rep.rp (D:=D) (ρ:=ρ) (S:=fun b=>S b\/Own D w ρ H b) (w:=w) (c:=c) (x:=y) (b:=b) (o:=0) (off:=off) vs.toList (.inr ⟨h,_,_,hob,rfl,hp,rfl⟩) hc.1.symm
       (fun j v hv=>by simp[World.cell?,hblk];simpa using hv) (fun j v y' h1 h2=>hc.2 j v y' h1 h2)
      rw[jq]at this;exact this
     ·exact .any _
    ·exact .any _
   ·exact .any _
 |.fn g l,v,hx=>by
   cases hx with
   |fn hl hr=>
    have:=vW hD hs l _ ⟨hl,hr⟩;exact .fn this.1 this.2
 |.agg l,v,hx=>by
   cases hx with
   |agg hl hr=>
    have:=vW hD hs l _ ⟨hl,hr⟩;exact .agg this.1 this.2
 |.bC l,v,hx=>by
   cases hx with
   |bC hl hr=>
    have:=vW hD hs l _ ⟨hl,hr⟩;exact .bC this.1 this.2
 |.any,v,hx|.int _ _,v,hx|.bool _,v,hx|.str _,v,hx|.dx,v,hx|.dn,v,hx|.ep _ _ _ _,v,hx|.an _ _,v,hx|.rp _ _ _,v,hx|.np _,v,hx|.opt _ _ _,v,hx=>by
   simp only[jo];exact hx.mono (fun _ h=>.inl h) (fun _ _=>rfl) (fun _ _ h=>h)
theorem vW(hD:bR D)(hs:aS D ρ S w H):∀(l:List (AV K))(vs:List Value),bh D ρ S w l vs->bh D ρ (fun b=>S b\/Own D w ρ H b) w (lP D H l) vs
 |[],vs,h=>by rw[h.m9];exact .nil
 |x::r,vs,h=>by
  obtain⟨u,t,rfl,h1,h2⟩:=h.gp;exact .cons (ad8 hD hs x u h1) (vW hD hs r t h2)
end
mutual
theorem ad9:∀(x:AV K),pO x=false->jo D H x=x
 |.sl h,hx=>by simp[pO]at hx
 |.ptr h o,hx=>by simp[pO]at hx
 |.np h,hx=>by simp[pO]at hx
 |.vw _ _ _ _,hx=>by simp[pO]at hx
 |.fn g l,hx=>by simp only[jo];rw[vX l (by simpa [pO]using hx)]
 |.agg l,hx=>by simp only[jo];rw[vX l (by simpa [pO]using hx)]
 |.bC l,hx=>by simp only[jo];rw[vX l (by simpa [pO]using hx)]
 |.any,hx|.int _ _,hx|.bool _,hx|.str _,hx|.dx,hx|.dn,hx|.ep _ _ _ _,hx|.an _ _,hx|.rp _ _ _,hx|.opt _ _ _,hx=>rfl
theorem vX:∀(l:List (AV K)),tP l=false->lP D H l=l
 |[],_=>rfl
 |x::r,h=>by
  simp only[tP,jU]at h;simp only[lP];rw[ad9 x h.1,vX r h.2]
end
mutual
theorem Iy:∀(x:AV K)(v:Value),x.closed=true->iL x=false->Rep D ρ S w x v->Rep D ρ' S' w' x v
 |.any,v,_,_,h=>.any _
 |.int _ _,v,_,_,h=>by rw[gQ h];exact .int _ _
 |.bool _,v,_,_,h=>by rw[ky h];exact .bool _
 |.str _,v,_,_,h=>by rw[iD h];exact .str _
 |.dx,v,_,_,h=>by cases h;exact .dx
 |.dn,v,_,_,h=>by cases h;exact .dn
 |.fn f l,v,hc,hr,h=>by
   cases h with
   |fn hl hh=>
    have:=C2 l _ (by simpa [AV.closed]using hc) (by simpa [iL]using hr) ⟨hl,hh⟩;exact .fn this.1 this.2
 |.agg l,v,hc,hr,h=>by
   cases h with
   |agg hl hh=>
    have:=C2 l _ (by simpa [AV.closed]using hc) (by simpa [iL]using hr) ⟨hl,hh⟩;exact .agg this.1 this.2
 |.bC l,v,hc,hr,h=>by
   cases h with
   |bC hl hh=>
    have:=C2 l _ (by simpa [AV.closed]using hc) (by simpa [iL]using hr) ⟨hl,hh⟩;exact .bC this.1 this.2
 |.np _,v,hc,_,_|.vw _ _ _ _,v,hc,_,_|.ptr _ _,v,hc,_,_|.sl _,v,hc,_,_|.ep _ _ _ _,v,hc,_,_|.opt _ _ _,v,hc,_,_=>by simp[AV.closed]at hc
 |.an _ _,v,_,hr,_|.rp _ _ _,v,_,hr,_=>by simp[iL]at hr
theorem C2:∀(l:List (AV K))(vs:List Value),g9 l=true->eI l=false->bh D ρ S w l vs->bh D ρ' S' w' l vs
 |[],vs,_,_,h=>by rw[h.m9];exact .nil
 |x::r,vs,hc,hr,h=>by
  simp only[g9,cG]at hc;simp only[eI,jU]at hr;obtain⟨u,t,rfl,h1,h2⟩:=h.gp;exact .cons (Iy x u hc.1 hr.1 h1) (C2 r t hc.2 hr.2 h2)
end
def Ren(f:Nat->Option Nat)(ρ ρ':List Value):Prop:=∀(i j:Nat)(r:Value),f i=some j->ρ[i]?=some r->ρ'[j]?=some r
mutual
theorem rl(hD:bR D){f:Nat->Option Nat}(hm:Ren f ρ ρ'):∀(x x':AV K)(v:Value),fH f x=some x'->Rep D ρ S w x v->Rep D ρ' S w x' v
 |.ptr h o,x',v,hb,hx=>by
   simp only[fH,dy]at hb;obtain⟨j,hj,rfl⟩:=hb;obtain⟨b,rfl,hp⟩:=rm hx;exact .ptr (hm _ _ _ hj hp)
 |.vw h st lo hi,x',v,hb,hx=>by
   simp only[fH,dy]at hb;obtain⟨j,hj,rfl⟩:=hb;cases hx with
   |vw hp h1 h2 ha=>exact .vw (hm _ _ _ hj hp) h1 h2 ha
 |.np h,x',v,hb,hx=>by
   simp only[fH,dy]at hb;obtain⟨j,hj,rfl⟩:=hb;cases hx with
   |kz=>exact .kz
   |np hp=>exact .np (hm _ _ _ hj hp)
 |.sl h,x',v,hb,hx=>by
   simp only[fH,dy]at hb;obtain⟨j,hj,rfl⟩:=hb;obtain⟨hp,a,n,c,rfl⟩:=lO hx;exact .sl (hm _ _ _ hj hp)
 |.ep h s i o,x',v,hb,hx=>by
   simp only[fH,dy]at hb;obtain⟨j,hj,rfl⟩:=hb;obtain⟨b,o',n,c,rfl,hp,hi⟩:=tX hx;exact .ep (hm _ _ _ hj hp) hi
 |.fn g l,x',v,hb,hx=>by
   simp only[fH,dy]at hb;obtain⟨l',hl',rfl⟩:=hb;cases hx with
   |fn hl hh=>
    have:=vT hD hm l l' _ hl' ⟨hl,hh⟩;exact .fn this.1 this.2
 |.agg l,x',v,hb,hx=>by
   simp only[fH,dy]at hb;obtain⟨l',hl',rfl⟩:=hb;cases hx with
   |agg hl hh=>
    have:=vT hD hm l l' _ hl' ⟨hl,hh⟩;exact .agg this.1 this.2
 |.bC l,x',v,hb,hx=>by
   simp only[fH,dy]at hb;obtain⟨l',hl',rfl⟩:=hb;cases hx with
   |bC hl hh=>
    have:=vT hD hm l l' _ hl' ⟨hl,hh⟩;exact .bC this.1 this.2
 |.opt _ _ _,x',v,hb,hx=>by simp[fH]at hb
 |.any,x',v,hb,hx=>by simp only[fH,av]at hb;subst hb;exact .any _
 |.int _ _,x',v,hb,hx=>by simp only[fH,av]at hb;subst hb;rw[gQ hx];exact .int _ _
 |.bool _,x',v,hb,hx=>by simp only[fH,av]at hb;subst hb;rw[ky hx];exact .bool _
 |.str _,x',v,hb,hx=>by simp only[fH,av]at hb;subst hb;rw[iD hx];exact .str _
 |.dx,x',v,hb,hx=>by simp only[fH,av]at hb;subst hb;cases hx;exact .dx
 |.dn,x',v,hb,hx=>by simp only[fH,av]at hb;subst hb;cases hx;exact .dn
 |.an c l,x',v,hb,hx=>by simp only[fH,av]at hb;subst hb;exact hx.closed hD rfl
 |.rp c y o,x',v,hb,hx=>by simp only[fH,av]at hb;subst hb;exact hx.closed hD rfl
theorem vT(hD:bR D){f:Nat->Option Nat}(hm:Ren f ρ ρ'):∀(l l':List (AV K))(vs:List Value),jk f l=some l'->bh D ρ S w l vs->bh D ρ' S w l' vs
 |[],l',vs,hb,h=>by simp only[jk,av]at hb;subst hb;rw[h.m9];exact .nil
 |x::r,l',vs,hb,h=>by
  simp only[jk]at hb;split at hb
  ·rename_i x1 r1 hx1 hr1;simp only[av]at hb;subst hb;obtain⟨u,t,rfl,h1,h2⟩:=h.gp;exact .cons (rl hD hm x x1 u hx1 h1) (vT hD hm r r1 t hr1 h2)
  ·cases hb
end
end Go.V
