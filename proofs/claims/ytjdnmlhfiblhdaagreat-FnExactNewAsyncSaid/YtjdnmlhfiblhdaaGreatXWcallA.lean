/-
  TEMPORARIES AND CALLS: what the value-level reading of an operand says of its value; a function's contract; a call by its contract.
-/
import Derived.Test.YtjdnmlhfiblhdaaGreatXWpure2
import Derived.Test.YtjdnmlhfiblhdaaGreatXWobj4
set_option linter.unusedVariables false
namespace Go.V
open Go
variable {K :yG} {D:iV K} {ρ ρ':List Value} {S S':Nat->Prop} {w w':World} {H H':List (Ob K)}
def fU (D:iV K) (ρ:List Value) (S:Nat->Prop) (w:World) (tmps:Array Value):AV K->Value->Prop
 | .opt g want v,x=>(tmps[g]? =some (.bool want) /\ Rep D ρ S w v x) \/ (tmps[g]?≠some (.bool want) /\ x=undef)
 |v,x=>Rep D ρ S w v x
structure ku (D:iV K) (ρ:List Value) (S:Nat->Prop) (w:World) (tm:List (AV K)) (tmps:Array Value):Prop where
 len:tm.length=tmps.size
 ok:∀(t:Nat) v x,tm[t]? =some v->tmps[t]? =some x->fU D ρ S w tmps v x
theorem fU.mono {tmps:Array Value} (hS:∀b,S b->S' b) (hw:∀b,S b->w'.heap[b]? =w.heap[b]?) (hρ:∀(h:Nat) r,ρ[h]? =some r->ρ'[h]? =some r) {v:AV K} {x:Value} (h:fU D ρ S w tmps v x):fU D ρ' S' w' tmps v x:=by
 cases v<;>simp only[fU] at h ⊢<;>first |exact h.mono hS hw hρ |(rcases h with ⟨a,b⟩ |h;exact .inl ⟨a,b.mono hS hw hρ⟩;exact .inr h)
theorem ku.mono {tm:List (AV K)} {tmps:Array Value} (hS:∀b,S b->S' b) (hw:∀b,S b->w'.heap[b]? =w.heap[b]?) (hρ:∀(h:Nat) r,ρ[h]? =some r->ρ'[h]? =some r) (h:ku D ρ S w tm tmps):ku D ρ' S' w' tm tmps:=
 ⟨h.len,fun t v x hv hx=>(h.ok t v x hv hx).mono hS hw hρ⟩
theorem fU.rY {tmps:Array Value} {v:AV K} {x:Value} (h:Rep D ρ S w v x):fU D ρ S w tmps v x:=by
 cases v<;>first |exact h |(cases h)
theorem ku.get {tm:List (AV K)} {tmps:Array Value} (h:ku D ρ S w tm tmps) {t:Nat} {v:AV K} (hv:tm[t]? =some v):∃x,tmps[t]? =some x /\ fU D ρ S w tmps v x:=by
 have ht:t<tmps.size:=by rw[<-h.len];exact (List.getElem?_eq_some_iff.1 hv).1
 exact ⟨tmps[t],Array.getElem?_eq_getElem ht,h.ok t v _ hv (Array.getElem?_eq_getElem ht)⟩
theorem Qg {tm:List (AV K)} {tmps:Array Value} (h:ku D ρ S w tm tmps):∀(n:Nat) (g t:Nat×Bool),covers tm n g t=true->tmps[g.1]? =some (.bool g.2)->tmps[t.1]? =some (.bool t.2)
 |0,g,t,hc,hg=>by simp[covers] at hc;rw[<-hc.1,<-hc.2];exact hg
 |n+1,g,t,hc,hg=>by
  simp only[covers,Bool.or_eq_true] at hc
  rcases hc with hc |hc
  ·simp at hc;rw[<-hc.1,<-hc.2];exact hg
  ·split at hc
   ·rename_i g1 w1 v hv
    obtain ⟨x,hx,ho⟩:=h.get hv;rw[hg] at hx;simp at hx;subst hx
    rcases ho with ⟨a, -⟩ |⟨-,b⟩
    ·exact Qg h n (g1,w1) t hc a
    ·simp[undef] at b
   ·cases hc
theorem VZ {tm:List (AV K)} {tmps:Array Value} (h:ku D ρ S w tm tmps):∀(n g:Nat) (want e:Bool),adt tm n (g,want)=some e->(e=true↔tmps[g]? =some (.bool want))
 |0,g,want,e,hc=>by simp[adt] at hc
 |n+1,g,want,e,hc=>by
  simp only[adt] at hc;split at hc
  ·rename_i b hv
   obtain ⟨x,hx,ho⟩:=h.get hv;simp only[fU] at ho;rw[kY ho] at hx;simp only[Option.some.injEq] at hc;subst hc;rw[hx];simp
  ·rename_i g1 w1 b hv
   obtain ⟨x,hx,ho⟩:=h.get hv;simp only[Option.map_eq_some_iff] at hc;obtain ⟨e1,he1,rfl⟩:=hc;have ih:=VZ h n g1 w1 e1 he1
   rcases ho with ⟨a,ho⟩ |⟨a,ho⟩
   ·rw[kY ho] at hx
    rw[ih.2 a,hx];simp
   ·have:e1=false:=by cases e1;rfl;exact absurd (ih.1 rfl) a
    rw[this,hx,ho];simp[undef]
  ·cases hc
theorem aaA {a:Act} {t:Nat} {x:Value} (h:a.tmps[t]? =some x):a.eval (.tmp t)=x:=by simp[Act.eval,Array.getD_eq_getD_getElem?,h]
theorem LD {tm:List (AV K)} {a:Act} (h:ku D ρ S w tm a.tmps) {gs:List (Nat×Bool)} (hg:∀p∈gs,a.tmps[p.1]? =some (.bool p.2)) (x:Operand):Rep D ρ S w (LG tm gs x) (a.eval x):=by
 cases x with
 |tmp t=>
  simp only[LG];split
  ·rename_i g w1 v hv
   split
   ·rename_i hc
    obtain ⟨y,hy,ho⟩:=h.get hv;rw[aaA hy];obtain ⟨p,hp,hcov⟩:=List.any_eq_true.1 hc;have:=Qg h 6 p (g,w1) hcov (hg p hp)
    rcases ho with ⟨-,ho⟩ |⟨n, -⟩
    ·exact ho
    ·exact absurd this n
   ·exact .any _
  ·rename_i v hne hv
   obtain ⟨y,hy,ho⟩:=h.get hv;rw[aaA hy]
   cases v<;>first |exact ho |exact absurd rfl (hne _ _ _)
  ·exact .any _
 |const v=>
  simp only[LG,Act.eval]
  cases hv:(Gs v:Option (AV K)) with
  |none=>exact .any _
  |some y=>exact Bf v y hv
 |global g=>exact .any _
 |func f=>exact .fn (caps:=[]) (vs:=[]) rfl (fun i v x h=>by simp at h)
mutual
theorem V3 : ∀(x y:AV K) (v:Value),Rep D ρ S w x v->Rep D ρ S w (merge true x y) v
 | .int k m,y,v,h=>by cases y<;>first |exact .any _ |(simp only[merge];split<;>first |exact h |exact .any _)
 | .bool m,y,v,h=>by cases y<;>first |exact .any _ |exact h
 | .str m,y,v,h=>by cases y<;>first |exact .any _ |exact h
 | .bD c l,y,v,h=>by
   cases y<;>first |exact .any _ |skip
   rename_i c' l';simp only[merge]
   cases hd:K.deq c c' with
   |isTrue he=>subst he;exact h
   |isFalse hn=>exact .any _
 | .agg l,y,v,h=>by
   cases y<;>first |exact .any _ |skip
   rename_i l';simp only[merge];split
   ·rename_i he
    cases h with
    |agg hl hr=>
     have:=TE l l' he _ ⟨hl,hr⟩;exact .agg this.1 this.2
   ·exact .any _
 | .eY,y,v,h=>by cases y<;>first |exact .any _ |exact h
 | .mW,y,v,h=>by cases y<;>first |exact .any _ |exact h
 | .any,y,v,h | .fn _ _,y,v,h | .ptr _ _,y,v,h | .sl _,y,v,h | .ep _ _ _ _,y,v,h | .rp _ _ _,y,v,h | .pR _,y,v,h | .np _,y,v,h | .vw _ _ _ _,y,v,h | .opt _ _ _,y,v,h=>by simp only[merge];exact .any _
theorem TE : ∀(l l':List (AV K)),l.length=l'.length->∀(vs:List Value),bK D ρ S w l vs->bK D ρ S w (merges true l l') vs
 | [],l',hl,vs,h=>by cases l'<;>simp[merges]<;>exact h
 |x::r,[],hl,vs,h=>by simp at hl
 |x::r,y::s,hl,vs,h=>by
  obtain ⟨u,t,rfl,h1,h2⟩:=h.jK;simp only[merges];exact .cons (V3 x y u h1) (TE r s (by simpa using hl) t h2)
end
mutual
theorem TF : ∀(x y:AV K) (v:Value),Rep D ρ S w y v->Rep D ρ S w (merge false x y) v
 | .int k m,y,v,h=>by cases y<;>first |exact .any _ |(simp only[merge];split<;>first |(rename_i he;subst he;exact h) |exact .any _)
 | .bool m,y,v,h=>by cases y<;>first |exact .any _ |exact h
 | .str m,y,v,h=>by cases y<;>first |exact .any _ |exact h
 | .bD c l,y,v,h=>by
   cases y<;>first |exact .any _ |skip
   rename_i c' l';simp only[merge]
   cases hd:K.deq c c' with
   |isTrue he=>subst he;exact h
   |isFalse hn=>exact .any _
 | .agg l,y,v,h=>by
   cases y<;>first |exact .any _ |skip
   rename_i l';simp only[merge];split
   ·rename_i he
    cases h with
    |agg hl hr=>
     have:=Qh l l' he _ ⟨hl,hr⟩;exact .agg this.1 this.2
   ·exact .any _
 | .eY,y,v,h=>by cases y<;>first |exact .any _ |exact h
 | .mW,y,v,h=>by cases y<;>first |exact .any _ |exact h
 | .any,y,v,h | .fn _ _,y,v,h | .ptr _ _,y,v,h | .sl _,y,v,h | .ep _ _ _ _,y,v,h | .rp _ _ _,y,v,h | .pR _,y,v,h | .np _,y,v,h | .vw _ _ _ _,y,v,h | .opt _ _ _,y,v,h=>by simp only[merge];exact .any _
theorem Qh : ∀(l l':List (AV K)),l.length=l'.length->∀(vs:List Value),bK D ρ S w l' vs->bK D ρ S w (merges false l l') vs
 | [],l',hl,vs,h=>by cases l'<;>simp[merges] at hl ⊢<;>exact h
 |x::r,[],hl,vs,h=>by simp at hl
 |x::r,y::s,hl,vs,h=>by
  obtain ⟨u,t,rfl,h1,h2⟩:=h.jK;simp only[merges];exact .cons (TF x y u h1) (Qh r s (by simpa using hl) t h2)
end
theorem TG {b:Bool} {x y:AV K} {v:Value} (h1:b=true->Rep D ρ S w x v) (h2:b=false->Rep D ρ S w y v):Rep D ρ S w (merge b x y) v:=by
 cases b
 ·exact TF x y v (h2 rfl)
 ·exact V3 x y v (h1 rfl)
end Go.V
namespace Go.V
open Go
variable {K :yG} {D:iV K} {ρ ρ':List Value} {S S':Nat->Prop} {w w':World} {H H':List (Ob K)}
def ZI (P:Program) (f:FuncId):Prop:=∃fn,P.funcs[f]? =some fn /\ (fn.name== "runtime.NumGoroutine")=false /\ fn.body.isNone=false
def RC (D:iV K) (P:Program) (f:FuncId) (args:List (AV K)) (H:List (Ob K)) (r:AV K) (H':List (Ob K)):Prop:=
 ZI P f /\ ∀(ρ:List Value) (S:Nat->Prop) (w:World) (vals:List Value),ax D ρ S w H->bK D ρ S w args vals->
  Calls P f vals.toArray w fun e w'=>∃u ρ' S',e= .returned u /\ ax D ρ' S' w' H' /\ Rep D ρ' S' w' r u /\ Step D H.length ρ S H w ρ' S' H' w'
theorem Ky (hs:ax D ρ S w H) (x:AV K) (v:Value) (hx:Rep D ρ S w x v):Rep D ρ (fun b=>S b \/ Own D w ρ H b) w (V4 H x) v:=by
 cases x with
 |sl h=>
  obtain ⟨hp,a,n,c,rfl⟩:=uh hx;simp only[V4];split
  ·rename_i cc l hob
   rcases Hz hs hob hp with ⟨e,rfl⟩ |⟨b,o,cap,vs,T,fr,e,hblk,⟨hcap,Le⟩,hsz,hfr,hall⟩
   ·rw[e];exact .vg _ _
   ·rw[e] at hp ⊢
    refine .bD (fun i=>qi vs (o+i*K.sz cc) (K.sz cc)) (.inr ⟨h,_,_,hob,rfl,hp,rfl⟩) hcap (fun i x hx=>(hall i x hx).1.symm) (fun i _=>mX hblk _ _) (fun i x hx j v y hv hy=> ?_)
    exact ((hall i x hx).2 j v y hv hy).mono (fun _ h=> .inl h) (fun _ _=>rfl) (fun _ _ h=>h)
  ·rename_i cc l hob
   have:=hs.ob _ _ _ hob hp;exact Rep.mono (fun _ h=> .inl h) (fun _ _=>rfl) (fun _ _ h=>h) this
  ·rename_i cc l hob
   exact Tree.rep (hs.ob _ _ _ hob hp) fun k hk=> .inr ⟨h,_,_,hob,rfl,hp,hk⟩
  ·exact .any _
 |_=>exact hx.mono (fun _ h=> .inl h) (fun _ _=>rfl) (fun _ _ h=>h)
theorem Zc (hs:ax D ρ S w H) (l:List (AV K)) (vs:List Value) (hx:bK D ρ S w l vs):bK D ρ (fun b=>S b \/ Own D w ρ H b) w (l.map (V4 H)) vs:=
 ⟨by simp[hx.1],fun i v x hv hy=>by
   rw[List.getElem?_map,Option.map_eq_some_iff] at hv;obtain ⟨u,hu,rfl⟩:=hv;exact Ky hs u x (hx.2 i u x hu hy)⟩
mutual
theorem abK (hD:bQ D) (hs:ax D ρ S w H):∀(x:AV K) (v:Value),Rep D ρ S w x v->Rep D ρ (fun b=>S b \/ Own D w ρ H b) w (Jj D H x) v
 | .sl h,v,hx=>by
   obtain ⟨hp,a,n,c,rfl⟩:=uh hx;simp only[Jj];split
   ·rename_i cc l hob
    rcases Hz hs hob hp with ⟨e,rfl⟩ |⟨b,o,cap,vs,T,fr,e,hblk,⟨hcap,Le⟩,hsz,hfr,hall⟩
    ·rw[e];exact .vg _ _
    ·rw[e] at hp ⊢
     refine .bD (fun i=>qi vs (o+i*K.sz cc) (K.sz cc)) (.inr ⟨h,_,_,hob,rfl,hp,rfl⟩) hcap (fun i x hx=>(hall i x hx).1.symm) (fun i _=>mX hblk _ _) (fun i x hx j v y hv hy=> ?_)
     exact ((hall i x hx).2 j v y hv hy).mono (fun _ h=> .inl h) (fun _ _=>rfl) (fun _ _ h=>h)
   ·rename_i cc l hob
    have:=hs.ob _ _ _ hob hp;exact Rep.mono (fun _ h=> .inl h) (fun _ _=>rfl) (fun _ _ h=>h) this
   ·rename_i cc l hob
    exact Tree.rep (hs.ob _ _ _ hob hp) fun k hk=> .inr ⟨h,_,_,hob,rfl,hp,hk⟩
   ·exact .any _
 | .vw h st lo hi,v,hx=>by
   cases hx with
   |vw hp h1 h2 ha=>
    simp only[Jj];split
    ·rename_i cc l hob
     split
     ·rename_i hst;subst hst
      have:=Ky (D:=D) hs (.sl h) _ (.sl hp);simp only[V4,hob] at this;exact acM this h1 h2 ha
     ·exact .any _
    ·rename_i cc l hob
     split
     ·rename_i hst;subst hst
      have:=Ky (D:=D) hs (.sl h) _ (.sl hp);simp only[V4,hob] at this;exact acM this h1 h2 ha
     ·exact .any _
    ·exact .any _
 | .ptr h off,v,hx=>by
   obtain ⟨b,rfl,hp⟩:=LH hx;simp only[Jj];split
   ·rename_i cs hob
    split
    ·rename_i c hf
     split
     ·rename_i y hdec
      obtain ⟨b',vs,T,e,hblk,hr, -⟩:=hs.ob _ _ _ hob hp;simp only[Value.pointer.injEq,Option.some.injEq,Addr.mk.injEq] at e;obtain ⟨rfl, -, -⟩:=e;have hc:=hD.dec c _ _ hdec ρ (fun b=>S b \/ Own D w ρ H b) w _ (Zc hs _ _ hr)
      have:=Rep.rp (D:=D) (ρ:=ρ) (S:=fun b=>S b \/ Own D w ρ H b) (w:=w) (c:=c) (x:=y) (b:=b) (o:=0) (off:=off) vs.toList (.inr ⟨h,_,_,hob,rfl,hp,rfl⟩) hc.1.symm
       (fun j v hv=>by simp[World.cell?,hblk];simpa using hv) (fun j v y' h1 h2=>hc.2 j v y' h1 h2)
      rw[Nat.zero_add] at this;exact this
     ·exact .any _
    ·exact .any _
   ·exact .any _
 | .fn g l,v,hx=>by
   cases hx with
   |fn hl hr=>
    have:=uU hD hs l _ ⟨hl,hr⟩;exact .fn this.1 this.2
 | .agg l,v,hx=>by
   cases hx with
   |agg hl hr=>
    have:=uU hD hs l _ ⟨hl,hr⟩;exact .agg this.1 this.2
 | .pR l,v,hx=>by
   cases hx with
   |pR hl hr=>
    have:=uU hD hs l _ ⟨hl,hr⟩;exact .pR this.1 this.2
 | .any,v,hx | .int _ _,v,hx | .bool _,v,hx | .str _,v,hx | .mW,v,hx | .eY,v,hx | .ep _ _ _ _,v,hx | .bD _ _,v,hx | .rp _ _ _,v,hx | .np _,v,hx | .opt _ _ _,v,hx=>by
   simp only[Jj];exact hx.mono (fun _ h=> .inl h) (fun _ _=>rfl) (fun _ _ h=>h)
theorem uU (hD:bQ D) (hs:ax D ρ S w H):∀(l:List (AV K)) (vs:List Value),bK D ρ S w l vs->bK D ρ (fun b=>S b \/ Own D w ρ H b) w (Gt D H l) vs
 | [],vs,h=>by rw[h.x9];exact .nil
 |x::r,vs,h=>by
  obtain ⟨u,t,rfl,h1,h2⟩:=h.jK;exact .cons (abK hD hs x u h1) (uU hD hs r t h2)
end
mutual
theorem adu : ∀(x:AV K),Qi x=false->Jj D H x=x
 | .sl h,hx=>by simp[Qi] at hx
 | .ptr h o,hx=>by simp[Qi] at hx
 | .np h,hx=>by simp[Qi] at hx
 | .vw _ _ _ _,hx=>by simp[Qi] at hx
 | .fn g l,hx=>by simp only[Jj];rw[xU l (by simpa [Qi] using hx)]
 | .agg l,hx=>by simp only[Jj];rw[xU l (by simpa [Qi] using hx)]
 | .pR l,hx=>by simp only[Jj];rw[xU l (by simpa [Qi] using hx)]
 | .any,hx | .int _ _,hx | .bool _,hx | .str _,hx | .mW,hx | .eY,hx | .ep _ _ _ _,hx | .bD _ _,hx | .rp _ _ _,hx | .opt _ _ _,hx=>rfl
theorem xU : ∀(l:List (AV K)),Oz l=false->Gt D H l=l
 | [],_=>rfl
 |x::r,h=>by
  simp only[Oz,Bool.or_eq_false_iff] at h;simp only[Gt];rw[adu x h.1,xU r h.2]
end
mutual
theorem Hw : ∀(x:AV K) (v:Value),x.closed=true->jC x=false->Rep D ρ S w x v->Rep D ρ' S' w' x v
 | .any,v,_,_,h=> .any _
 | .int _ _,v,_,_,h=>by rw[eF h];exact .int _ _
 | .bool _,v,_,_,h=>by rw[kY h];exact .bool _
 | .str _,v,_,_,h=>by rw[nG h];exact .str _
 | .mW,v,_,_,h=>by cases h;exact .mW
 | .eY,v,_,_,h=>by cases h;exact .eY
 | .fn f l,v,hc,hr,h=>by
   cases h with
   |fn hl hh=>
    have:=yI l _ (by simpa [AV.closed] using hc) (by simpa [jC] using hr) ⟨hl,hh⟩
    exact .fn this.1 this.2
 | .agg l,v,hc,hr,h=>by
   cases h with
   |agg hl hh=>
    have:=yI l _ (by simpa [AV.closed] using hc) (by simpa [jC] using hr) ⟨hl,hh⟩
    exact .agg this.1 this.2
 | .pR l,v,hc,hr,h=>by
   cases h with
   |pR hl hh=>
    have:=yI l _ (by simpa [AV.closed] using hc) (by simpa [jC] using hr) ⟨hl,hh⟩
    exact .pR this.1 this.2
 | .np _,v,hc,_,_ | .vw _ _ _ _,v,hc,_,_ | .ptr _ _,v,hc,_,_ | .sl _,v,hc,_,_ | .ep _ _ _ _,v,hc,_,_ | .opt _ _ _,v,hc,_,_=>by simp[AV.closed] at hc
 | .bD _ _,v,_,hr,_ | .rp _ _ _,v,_,hr,_=>by simp[jC] at hr
theorem yI : ∀(l:List (AV K)) (vs:List Value),iU l=true->bP l=false->bK D ρ S w l vs->bK D ρ' S' w' l vs
 | [],vs,_,_,h=>by rw[h.x9];exact .nil
 |x::r,vs,hc,hr,h=>by
  simp only[iU,Bool.and_eq_true] at hc;simp only[bP,Bool.or_eq_false_iff] at hr;obtain ⟨u,t,rfl,h1,h2⟩:=h.jK;exact .cons (Hw x u hc.1 hr.1 h1) (yI r t hc.2 hr.2 h2)
end
def Ren (f:Nat->Option Nat) (ρ ρ':List Value):Prop:=∀(i j:Nat) (r:Value),f i=some j->ρ[i]? =some r->ρ'[j]? =some r
mutual
theorem uV (hD:bQ D) {f:Nat->Option Nat} (hm:Ren f ρ ρ'):∀(x x':AV K) (v:Value),Qd f x=some x'->Rep D ρ S w x v->Rep D ρ' S w x' v
 | .ptr h o,x',v,hb,hx=>by
   simp only[Qd,Option.map_eq_some_iff] at hb;obtain ⟨j,hj,rfl⟩:=hb;obtain ⟨b,rfl,hp⟩:=LH hx;exact .ptr (hm _ _ _ hj hp)
 | .vw h st lo hi,x',v,hb,hx=>by
   simp only[Qd,Option.map_eq_some_iff] at hb;obtain ⟨j,hj,rfl⟩:=hb
   cases hx with
   |vw hp h1 h2 ha=>exact .vw (hm _ _ _ hj hp) h1 h2 ha
 | .np h,x',v,hb,hx=>by
   simp only[Qd,Option.map_eq_some_iff] at hb;obtain ⟨j,hj,rfl⟩:=hb
   cases hx with
   |np0=>exact .np0
   |np hp=>exact .np (hm _ _ _ hj hp)
 | .sl h,x',v,hb,hx=>by
   simp only[Qd,Option.map_eq_some_iff] at hb;obtain ⟨j,hj,rfl⟩:=hb;obtain ⟨hp,a,n,c,rfl⟩:=uh hx;exact .sl (hm _ _ _ hj hp)
 | .ep h s i o,x',v,hb,hx=>by
   simp only[Qd,Option.map_eq_some_iff] at hb;obtain ⟨j,hj,rfl⟩:=hb;obtain ⟨b,o',n,c,rfl,hp,hi⟩:=Kz hx;exact .ep (hm _ _ _ hj hp) hi
 | .fn g l,x',v,hb,hx=>by
   simp only[Qd,Option.map_eq_some_iff] at hb;obtain ⟨l',hl',rfl⟩:=hb
   cases hx with
   |fn hl hh=>
    have:=xQ hD hm l l' _ hl' ⟨hl,hh⟩;exact .fn this.1 this.2
 | .agg l,x',v,hb,hx=>by
   simp only[Qd,Option.map_eq_some_iff] at hb;obtain ⟨l',hl',rfl⟩:=hb
   cases hx with
   |agg hl hh=>
    have:=xQ hD hm l l' _ hl' ⟨hl,hh⟩;exact .agg this.1 this.2
 | .pR l,x',v,hb,hx=>by
   simp only[Qd,Option.map_eq_some_iff] at hb;obtain ⟨l',hl',rfl⟩:=hb
   cases hx with
   |pR hl hh=>
    have:=xQ hD hm l l' _ hl' ⟨hl,hh⟩;exact .pR this.1 this.2
 | .opt _ _ _,x',v,hb,hx=>by simp[Qd] at hb
 | .any,x',v,hb,hx=>by simp only[Qd,Option.some.injEq] at hb;subst hb;exact .any _
 | .int _ _,x',v,hb,hx=>by simp only[Qd,Option.some.injEq] at hb;subst hb;rw[eF hx];exact .int _ _
 | .bool _,x',v,hb,hx=>by simp only[Qd,Option.some.injEq] at hb;subst hb;rw[kY hx];exact .bool _
 | .str _,x',v,hb,hx=>by simp only[Qd,Option.some.injEq] at hb;subst hb;rw[nG hx];exact .str _
 | .mW,x',v,hb,hx=>by simp only[Qd,Option.some.injEq] at hb;subst hb;cases hx;exact .mW
 | .eY,x',v,hb,hx=>by simp only[Qd,Option.some.injEq] at hb;subst hb;cases hx;exact .eY
 | .bD c l,x',v,hb,hx=>by simp only[Qd,Option.some.injEq] at hb;subst hb;exact hx.closed hD rfl
 | .rp c y o,x',v,hb,hx=>by simp only[Qd,Option.some.injEq] at hb;subst hb;exact hx.closed hD rfl
theorem xQ (hD:bQ D) {f:Nat->Option Nat} (hm:Ren f ρ ρ'):∀(l l':List (AV K)) (vs:List Value),Ji f l=some l'->bK D ρ S w l vs->bK D ρ' S w l' vs
 | [],l',vs,hb,h=>by simp only[Ji,Option.some.injEq] at hb;subst hb;rw[h.x9];exact .nil
 |x::r,l',vs,hb,h=>by
  simp only[Ji] at hb;split at hb
  ·rename_i x1 r1 hx1 hr1
   simp only[Option.some.injEq] at hb;subst hb;obtain ⟨u,t,rfl,h1,h2⟩:=h.jK;exact .cons (uV hD hm x x1 u hx1 h1) (xQ hD hm r r1 t hr1 h2)
  ·cases hb
end
end Go.V
