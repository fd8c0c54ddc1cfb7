/-
  TEMPORARIES AND CALLS: what the value-level reading of an operand says of its value; a function's contract; a call by its contract.
-/
import Derived.Test.YtbeijibjinbgcaaGreatDoorXWpureA
import Derived.Test.YtbeijibjinbgcaaGreatDoorXWobj4
set_option linter.unusedVariables false
namespace Go.V
open Go
variable {K :cA}{D:bj K}{ρ ρ':List Value}{S S':Nat->Prop}{w w':World}{H H':List (Ob K)}
def dB(D:bj K)(ρ:List Value)(S:Nat->Prop)(w:World)(tmps:Array Value):AV K->Value->Prop
 |.opt g want v,x=>(tmps[g]?=some (.bool want)/\Rep D ρ S w v x)\/(tmps[g]?≠some (.bool want)/\x=undef)
 |v,x=>Rep D ρ S w v x
structure dL (D:bj K) (ρ:List Value) (S:Nat->Prop) (w:World) (tm:List (AV K)) (tmps:Array Value):Prop where
 len:tm.length=tmps.size
 ok:∀(t:Nat) v x,tm[t]?=some v->tmps[t]?=some x->dB D ρ S w tmps v x
theorem dB.mono{tmps:Array Value}(hS:∀b,S b->S' b)(hw:∀b,S b->w'.heap[b]?=w.heap[b]?)(hρ:∀(h:Nat) r,ρ[h]?=some r->ρ'[h]?=some r){v:AV K}{x:Value}(h:dB D ρ S w tmps v x):dB D ρ' S' w' tmps v x:=by
 cases v<;>simp only[dB]at h⊢<;>first|exact h.mono hS hw hρ|(rcases h with⟨a,b⟩|h;exact .inl ⟨a,b.mono hS hw hρ⟩;exact .inr h)
theorem dL.mono{tm:List (AV K)}{tmps:Array Value}(hS:∀b,S b->S' b)(hw:∀b,S b->w'.heap[b]?=w.heap[b]?)(hρ:∀(h:Nat) r,ρ[h]?=some r->ρ'[h]?=some r)(h:dL D ρ S w tm tmps):dL D ρ' S' w' tm tmps:=
 ⟨h.len,fun t v x hv hx=>(h.ok t v x hv hx).mono hS hw hρ⟩
theorem dB.iH{tmps:Array Value}{v:AV K}{x:Value}(h:Rep D ρ S w v x):dB D ρ S w tmps v x:=by
 cases v<;>first|exact h|(cases h)
theorem dL.get{tm:List (AV K)}{tmps:Array Value}(h:dL D ρ S w tm tmps){t:Nat}{v:AV K}(hv:tm[t]?=some v):∃x,tmps[t]?=some x/\dB D ρ S w tmps v x:=by
 have ht:t<tmps.size:=by rw[<-h.len];exact(bB.1 hv).1
 exact⟨tmps[t],vR ht,h.ok t v _ hv (vR ht)⟩
theorem U4{tm:List (AV K)}{tmps:Array Value}(h:dL D ρ S w tm tmps):∀(n:Nat)(g t:Nat×Bool),covers tm n g t=true->tmps[g.1]?=some (.bool g.2)->tmps[t.1]?=some (.bool t.2)
 |0,g,t,hc,hg=>by simp[covers]at hc;rw[<-hc.1,<-hc.2];exact hg
 |n+1,g,t,hc,hg=>by
  simp only[covers,fU]at hc;rcases hc with hc|hc
  ·simp at hc;rw[<-hc.1,<-hc.2];exact hg
  ·split at hc
   ·rename_i g1 w1 v hv;obtain⟨x,hx,ho⟩:=h.get hv;rw[hg]at hx;simp at hx;subst hx;rcases ho with⟨a,-⟩|⟨-,b⟩
    ·exact U4 h n (g1,w1) t hc a
    ·simp[undef]at b
   ·cases hc
theorem U5{tm:List (AV K)}{tmps:Array Value}(h:dL D ρ S w tm tmps):∀(n g:Nat)(want e:Bool),vS tm n (g,want)=some e->(e=true↔tmps[g]?=some (.bool want))
 |0,g,want,e,hc=>by simp[vS]at hc
 |n+1,g,want,e,hc=>by
  simp only[vS]at hc;split at hc
  ·rename_i b hv;obtain⟨x,hx,ho⟩:=h.get hv;simp only[dB]at ho;rw[iW ho]at hx;simp only[av]at hc;subst hc;rw[hx];simp
  ·rename_i g1 w1 b hv;obtain⟨x,hx,ho⟩:=h.get hv;simp only[dS]at hc;obtain⟨e1,he1,rfl⟩:=hc;have ih:=U5 h n g1 w1 e1 he1;rcases ho with⟨a,ho⟩|⟨a,ho⟩
   ·rw[iW ho]at hx;rw[ih.2 a,hx];simp
   ·have:e1=false:=by cases e1;rfl;exact absurd (ih.1 rfl) a
    rw[this,hx,ho];simp[undef]
  ·cases hc
theorem U6{a:Act}{t:Nat}{x:Value}(h:a.tmps[t]?=some x):a.eval (.tmp t)=x:=by simp[Act.eval,iD,h]
theorem B5{tm:List (AV K)}{a:Act}(h:dL D ρ S w tm a.tmps){gs:List (Nat×Bool)}(hg:∀p∈gs,a.tmps[p.1]?=some (.bool p.2))(x:Operand):Rep D ρ S w (cX tm gs x) (a.eval x):=by
 cases x with
 |tmp t=>
  simp only[cX];split
  ·rename_i g w1 v hv;split
   ·rename_i hc;obtain⟨y,hy,ho⟩:=h.get hv;rw[U6 hy];obtain⟨p,hp,hcov⟩:=List.any_eq_true.1 hc;have:=U4 h 6 p (g,w1) hcov (hg p hp);rcases ho with⟨-,ho⟩|⟨n,-⟩
    ·exact ho
    ·exact absurd this n
   ·exact .any _
  ·rename_i v hne hv;obtain⟨y,hy,ho⟩:=h.get hv;rw[U6 hy];cases v<;>first|exact ho|exact absurd rfl (hne _ _ _)
  ·exact .any _
 |const v=>
  simp only[cX,Act.eval];cases hv:(jM v:Option (AV K))with
  |none=>exact .any _
  |some y=>exact pO v y hv
 |global g=>exact .any _
 |func f=>exact .fn (caps:=[]) (vs:=[]) rfl (fun i v x h=>by simp at h)
mutual
theorem U7:∀(x y:AV K)(v:Value),Rep D ρ S w x v->Rep D ρ S w (merge true x y) v
 |.int k m,y,v,h=>by cases y<;>first|exact .any _|(simp only[merge];split<;>first|exact h|exact .any _)
 |.bool m,y,v,h=>by cases y<;>first|exact .any _|exact h
 |.str m,y,v,h=>by cases y<;>first|exact .any _|exact h
 |.ah c l,y,v,h=>by
   cases y<;>first|exact .any _|skip
   rename_i c' l';simp only[merge];cases hd:K.ig c c' with
   |isTrue he=>subst he;exact h
   |isFalse hn=>exact .any _
 |.agg l,y,v,h=>by
   cases y<;>first|exact .any _|skip
   rename_i l';simp only[merge];split
   ·rename_i he;cases h with
    |agg hl hr=>
     have:=U8 l l' he _ ⟨hl,hr⟩;exact .agg this.1 this.2
   ·exact .any _
 |.cF,y,v,h=>by cases y<;>first|exact .any _|exact h
 |.cG,y,v,h=>by cases y<;>first|exact .any _|exact h
 |.any,y,v,h|.fn _ _,y,v,h|.ptr _ _,y,v,h|.sl _,y,v,h|.ep _ _ _ _,y,v,h|.rp _ _ _,y,v,h|.bu _,y,v,h|.np _,y,v,h|.vw _ _ _ _,y,v,h|.opt _ _ _,y,v,h=>by simp only[merge];exact .any _
theorem U8:∀(l l':List (AV K)),l.length=l'.length->∀(vs:List Value),aV D ρ S w l vs->aV D ρ S w (merges true l l') vs
 |[],l',hl,vs,h=>by cases l'<;>simp[merges]<;>exact h
 |x::r,[],hl,vs,h=>by simp at hl
 |x::r,y::s,hl,vs,h=>by
  obtain⟨u,t,rfl,h1,h2⟩:=h.gB;simp only[merges];exact .cons (U7 x y u h1) (U8 r s (by simpa using hl) t h2)
end
mutual
theorem U9:∀(x y:AV K)(v:Value),Rep D ρ S w y v->Rep D ρ S w (merge false x y) v
 |.int k m,y,v,h=>by cases y<;>first|exact .any _|(simp only[merge];split<;>first|(rename_i he;subst he;exact h)|exact .any _)
 |.bool m,y,v,h=>by cases y<;>first|exact .any _|exact h
 |.str m,y,v,h=>by cases y<;>first|exact .any _|exact h
 |.ah c l,y,v,h=>by
   cases y<;>first|exact .any _|skip
   rename_i c' l';simp only[merge];cases hd:K.ig c c' with
   |isTrue he=>subst he;exact h
   |isFalse hn=>exact .any _
 |.agg l,y,v,h=>by
   cases y<;>first|exact .any _|skip
   rename_i l';simp only[merge];split
   ·rename_i he;cases h with
    |agg hl hr=>
     have:=Va l l' he _ ⟨hl,hr⟩;exact .agg this.1 this.2
   ·exact .any _
 |.cF,y,v,h=>by cases y<;>first|exact .any _|exact h
 |.cG,y,v,h=>by cases y<;>first|exact .any _|exact h
 |.any,y,v,h|.fn _ _,y,v,h|.ptr _ _,y,v,h|.sl _,y,v,h|.ep _ _ _ _,y,v,h|.rp _ _ _,y,v,h|.bu _,y,v,h|.np _,y,v,h|.vw _ _ _ _,y,v,h|.opt _ _ _,y,v,h=>by simp only[merge];exact .any _
theorem Va:∀(l l':List (AV K)),l.length=l'.length->∀(vs:List Value),aV D ρ S w l' vs->aV D ρ S w (merges false l l') vs
 |[],l',hl,vs,h=>by cases l'<;>simp[merges]at hl⊢<;>exact h
 |x::r,[],hl,vs,h=>by simp at hl
 |x::r,y::s,hl,vs,h=>by
  obtain⟨u,t,rfl,h1,h2⟩:=h.gB;simp only[merges];exact .cons (U9 x y u h1) (Va r s (by simpa using hl) t h2)
end
theorem Vb{b:Bool}{x y:AV K}{v:Value}(h1:b=true->Rep D ρ S w x v)(h2:b=false->Rep D ρ S w y v):Rep D ρ S w (merge b x y) v:=by
 cases b
 ·exact U9 x y v (h2 rfl)
 ·exact U7 x y v (h1 rfl)
end Go.V
namespace Go.V
open Go
variable {K :cA}{D:bj K}{ρ ρ':List Value}{S S':Nat->Prop}{w w':World}{H H':List (Ob K)}
def qm(P:Program)(f:FuncId):Prop:=∃fn,P.funcs[f]?=some fn/\(fn.name== "runtime.NumGoroutine")=false/\fn.body.isNone=false
def RC(D:bj K)(P:Program)(f:FuncId)(args:List (AV K))(H:List (Ob K))(r:AV K)(H':List (Ob K)):Prop:=
 qm P f/\∀(ρ:List Value)(S:Nat->Prop)(w:World)(vals:List Value),aS D ρ S w H->aV D ρ S w args vals->
  Calls P f vals.toArray w fun e w'=>∃u ρ' S',e=.returned u/\aS D ρ' S' w' H'/\Rep D ρ' S' w' r u/\Step D H.length ρ S H w ρ' S' H' w'
theorem H6(hs:aS D ρ S w H)(x:AV K)(v:Value)(hx:Rep D ρ S w x v):Rep D ρ (fun b=>S b\/Own D w ρ H b) w (sc H x) v:=by
 cases x with
 |sl h=>
  obtain⟨hp,a,n,c,rfl⟩:=iI hx;simp only[sc];split
  ·rename_i cc l hob;rcases sd hs hob hp with⟨e,rfl⟩|⟨b,o,cap,vs,T,fr,e,hblk,⟨hcap,dw⟩,hsz,hfr,hall⟩
   ·rw[e];exact .dK _ _
   ·rw[e]at hp⊢;refine .ah (fun i=>bR vs (o+i*K.sz cc) (K.sz cc)) (.inr ⟨h,_,_,hob,rfl,hp,rfl⟩) hcap (fun i x hx=>(hall i x hx).1.symm) (fun i _=>pP hblk _ _) (fun i x hx j v y hv hy=>?_);exact((hall i x hx).2 j v y hv hy).mono (fun _ h=>.inl h) (fun _ _=>rfl) (fun _ _ h=>h)
  ·rename_i cc l hob;have:=hs.ob _ _ _ hob hp;exact Rep.mono (fun _ h=>.inl h) (fun _ _=>rfl) (fun _ _ h=>h) this
  ·rename_i cc l hob;exact Tree.rep (hs.ob _ _ _ hob hp) fun k hk=>.inr ⟨h,_,_,hob,rfl,hp,hk⟩
  ·exact .any _
 |_=>exact hx.mono (fun _ h=>.inl h) (fun _ _=>rfl) (fun _ _ h=>h)
theorem ajg(hs:aS D ρ S w H)(l:List (AV K))(vs:List Value)(hx:aV D ρ S w l vs):aV D ρ (fun b=>S b\/Own D w ρ H b) w (l.map (sc H)) vs:=
 ⟨by simp[hx.1],fun i v x hv hy=>by
   rw[fG,dS]at hv;obtain⟨u,hu,rfl⟩:=hv;exact H6 hs u x (hx.2 i u x hu hy)⟩
mutual
theorem ajh(hD:bo D)(hs:aS D ρ S w H):∀(x:AV K)(v:Value),Rep D ρ S w x v->Rep D ρ (fun b=>S b\/Own D w ρ H b) w (gV D H x) v
 |.sl h,v,hx=>by
   obtain⟨hp,a,n,c,rfl⟩:=iI hx;simp only[gV];split
   ·rename_i cc l hob;rcases sd hs hob hp with⟨e,rfl⟩|⟨b,o,cap,vs,T,fr,e,hblk,⟨hcap,dw⟩,hsz,hfr,hall⟩
    ·rw[e];exact .dK _ _
    ·rw[e]at hp⊢;refine .ah (fun i=>bR vs (o+i*K.sz cc) (K.sz cc)) (.inr ⟨h,_,_,hob,rfl,hp,rfl⟩) hcap (fun i x hx=>(hall i x hx).1.symm) (fun i _=>pP hblk _ _) (fun i x hx j v y hv hy=>?_);exact((hall i x hx).2 j v y hv hy).mono (fun _ h=>.inl h) (fun _ _=>rfl) (fun _ _ h=>h)
   ·rename_i cc l hob;have:=hs.ob _ _ _ hob hp;exact Rep.mono (fun _ h=>.inl h) (fun _ _=>rfl) (fun _ _ h=>h) this
   ·rename_i cc l hob;exact Tree.rep (hs.ob _ _ _ hob hp) fun k hk=>.inr ⟨h,_,_,hob,rfl,hp,hk⟩
   ·exact .any _
 |.vw h st lo hi,v,hx=>by
   cases hx with
   |vw hp h1 h2 ha=>
    simp only[gV];split
    ·rename_i cc l hob;split
     ·rename_i hst;subst hst;have:=H6 (D:=D) hs (.sl h) _ (.sl hp);simp only[sc,hob]at this;exact Vd this h1 h2 ha
     ·exact .any _
    ·rename_i cc l hob;split
     ·rename_i hst;subst hst;have:=H6 (D:=D) hs (.sl h) _ (.sl hp);simp only[sc,hob]at this;exact Vd this h1 h2 ha
     ·exact .any _
    ·exact .any _
 |.ptr h off,v,hx=>by
   obtain⟨b,rfl,hp⟩:=vT hx;simp only[gV];split
   ·rename_i cs hob;split
    ·rename_i c hf;split
     ·rename_i y hdec;obtain⟨b',vs,T,e,hblk,hr,-⟩:=hs.ob _ _ _ hob hp;simp only[Value.pointer.injEq,av,Addr.mk.injEq]at e;obtain⟨rfl,-,-⟩:=e;have hc:=hD.dec c _ _ hdec ρ (fun b=>S b\/Own D w ρ H b) w _ (ajg hs _ _ hr);have:=Rep.rp (D:=D) (ρ:=ρ) (S:=fun b=>S b\/Own D w ρ H b) (w:=w) (c:=c) (x:=y) (b:=b) (o:=0) (off:=off) vs.toList (.inr ⟨h,_,_,hob,rfl,hp,rfl⟩) hc.1.symm
       (fun j v hv=>by simp[World.cell?,hblk];simpa using hv) (fun j v y' h1 h2=>hc.2 j v y' h1 h2)
      rw[kW]at this;exact this
     ·exact .any _
    ·exact .any _
   ·exact .any _
 |.fn g l,v,hx=>by
   cases hx with
   |fn hl hr=>
    have:=vU hD hs l _ ⟨hl,hr⟩;exact .fn this.1 this.2
 |.agg l,v,hx=>by
   cases hx with
   |agg hl hr=>
    have:=vU hD hs l _ ⟨hl,hr⟩;exact .agg this.1 this.2
 |.bu l,v,hx=>by
   cases hx with
   |bu hl hr=>
    have:=vU hD hs l _ ⟨hl,hr⟩;exact .bu this.1 this.2
 |.any,v,hx|.int _ _,v,hx|.bool _,v,hx|.str _,v,hx|.cG,v,hx|.cF,v,hx|.ep _ _ _ _,v,hx|.ah _ _,v,hx|.rp _ _ _,v,hx|.np _,v,hx|.opt _ _ _,v,hx=>by
   simp only[gV];exact hx.mono (fun _ h=>.inl h) (fun _ _=>rfl) (fun _ _ h=>h)
theorem vU(hD:bo D)(hs:aS D ρ S w H):∀(l:List (AV K))(vs:List Value),aV D ρ S w l vs->aV D ρ (fun b=>S b\/Own D w ρ H b) w (jN D H l) vs
 |[],vs,h=>by rw[h.nS];exact .nil
 |x::r,vs,h=>by
  obtain⟨u,t,rfl,h1,h2⟩:=h.gB;exact .cons (ajh hD hs x u h1) (vU hD hs r t h2)
end
mutual
theorem aji:∀(x:AV K),nr x=false->gV D H x=x
 |.sl h,hx=>by simp[nr]at hx
 |.ptr h o,hx=>by simp[nr]at hx
 |.np h,hx=>by simp[nr]at hx
 |.vw _ _ _ _,hx=>by simp[nr]at hx
 |.fn g l,hx=>by simp only[gV];rw[vV l (by simpa [nr]using hx)]
 |.agg l,hx=>by simp only[gV];rw[vV l (by simpa [nr]using hx)]
 |.bu l,hx=>by simp only[gV];rw[vV l (by simpa [nr]using hx)]
 |.any,hx|.int _ _,hx|.bool _,hx|.str _,hx|.cG,hx|.cF,hx|.ep _ _ _ _,hx|.ah _ _,hx|.rp _ _ _,hx|.opt _ _ _,hx=>rfl
theorem vV:∀(l:List (AV K)),se l=false->jN D H l=l
 |[],_=>rfl
 |x::r,h=>by
  simp only[se,qu]at h;simp only[jN];rw[aji x h.1,vV r h.2]
end
mutual
theorem H7:∀(x:AV K)(v:Value),x.closed=true->ga x=false->Rep D ρ S w x v->Rep D ρ' S' w' x v
 |.any,v,_,_,h=>.any _
 |.int _ _,v,_,_,h=>by rw[ei h];exact .int _ _
 |.bool _,v,_,_,h=>by rw[iW h];exact .bool _
 |.str _,v,_,_,h=>by rw[iu h];exact .str _
 |.cG,v,_,_,h=>by cases h;exact .cG
 |.cF,v,_,_,h=>by cases h;exact .cF
 |.fn f l,v,hc,hr,h=>by
   cases h with
   |fn hl hh=>
    have:=B6 l _ (by simpa [AV.closed]using hc) (by simpa [ga]using hr) ⟨hl,hh⟩;exact .fn this.1 this.2
 |.agg l,v,hc,hr,h=>by
   cases h with
   |agg hl hh=>
    have:=B6 l _ (by simpa [AV.closed]using hc) (by simpa [ga]using hr) ⟨hl,hh⟩;exact .agg this.1 this.2
 |.bu l,v,hc,hr,h=>by
   cases h with
   |bu hl hh=>
    have:=B6 l _ (by simpa [AV.closed]using hc) (by simpa [ga]using hr) ⟨hl,hh⟩;exact .bu this.1 this.2
 |.np _,v,hc,_,_|.vw _ _ _ _,v,hc,_,_|.ptr _ _,v,hc,_,_|.sl _,v,hc,_,_|.ep _ _ _ _,v,hc,_,_|.opt _ _ _,v,hc,_,_=>by simp[AV.closed]at hc
 |.ah _ _,v,_,hr,_|.rp _ _ _,v,_,hr,_=>by simp[ga]at hr
theorem B6:∀(l:List (AV K))(vs:List Value),fl l=true->dn l=false->aV D ρ S w l vs->aV D ρ' S' w' l vs
 |[],vs,_,_,h=>by rw[h.nS];exact .nil
 |x::r,vs,hc,hr,h=>by
  simp only[fl,bk]at hc;simp only[dn,qu]at hr;obtain⟨u,t,rfl,h1,h2⟩:=h.gB;exact .cons (H7 x u hc.1 hr.1 h1) (B6 r t hc.2 hr.2 h2)
end
def Ren(f:Nat->Option Nat)(ρ ρ':List Value):Prop:=∀(i j:Nat)(r:Value),f i=some j->ρ[i]?=some r->ρ'[j]?=some r
mutual
theorem pQ(hD:bo D){f:Nat->Option Nat}(hm:Ren f ρ ρ'):∀(x x':AV K)(v:Value),d6 f x=some x'->Rep D ρ S w x v->Rep D ρ' S w x' v
 |.ptr h o,x',v,hb,hx=>by
   simp only[d6,dS]at hb;obtain⟨j,hj,rfl⟩:=hb;obtain⟨b,rfl,hp⟩:=vT hx;exact .ptr (hm _ _ _ hj hp)
 |.vw h st lo hi,x',v,hb,hx=>by
   simp only[d6,dS]at hb;obtain⟨j,hj,rfl⟩:=hb;cases hx with
   |vw hp h1 h2 ha=>exact .vw (hm _ _ _ hj hp) h1 h2 ha
 |.np h,x',v,hb,hx=>by
   simp only[d6,dS]at hb;obtain⟨j,hj,rfl⟩:=hb;cases hx with
   |jl=>exact .jl
   |np hp=>exact .np (hm _ _ _ hj hp)
 |.sl h,x',v,hb,hx=>by
   simp only[d6,dS]at hb;obtain⟨j,hj,rfl⟩:=hb;obtain⟨hp,a,n,c,rfl⟩:=iI hx;exact .sl (hm _ _ _ hj hp)
 |.ep h s i o,x',v,hb,hx=>by
   simp only[d6,dS]at hb;obtain⟨j,hj,rfl⟩:=hb;obtain⟨b,o',n,c,rfl,hp,hi⟩:=mh hx;exact .ep (hm _ _ _ hj hp) hi
 |.fn g l,x',v,hb,hx=>by
   simp only[d6,dS]at hb;obtain⟨l',hl',rfl⟩:=hb;cases hx with
   |fn hl hh=>
    have:=vW hD hm l l' _ hl' ⟨hl,hh⟩;exact .fn this.1 this.2
 |.agg l,x',v,hb,hx=>by
   simp only[d6,dS]at hb;obtain⟨l',hl',rfl⟩:=hb;cases hx with
   |agg hl hh=>
    have:=vW hD hm l l' _ hl' ⟨hl,hh⟩;exact .agg this.1 this.2
 |.bu l,x',v,hb,hx=>by
   simp only[d6,dS]at hb;obtain⟨l',hl',rfl⟩:=hb;cases hx with
   |bu hl hh=>
    have:=vW hD hm l l' _ hl' ⟨hl,hh⟩;exact .bu this.1 this.2
 |.opt _ _ _,x',v,hb,hx=>by simp[d6]at hb
 |.any,x',v,hb,hx=>by simp only[d6,av]at hb;subst hb;exact .any _
 |.int _ _,x',v,hb,hx=>by simp only[d6,av]at hb;subst hb;rw[ei hx];exact .int _ _
 |.bool _,x',v,hb,hx=>by simp only[d6,av]at hb;subst hb;rw[iW hx];exact .bool _
 |.str _,x',v,hb,hx=>by simp only[d6,av]at hb;subst hb;rw[iu hx];exact .str _
 |.cG,x',v,hb,hx=>by simp only[d6,av]at hb;subst hb;cases hx;exact .cG
 |.cF,x',v,hb,hx=>by simp only[d6,av]at hb;subst hb;cases hx;exact .cF
 |.ah c l,x',v,hb,hx=>by simp only[d6,av]at hb;subst hb;exact hx.closed hD rfl
 |.rp c y o,x',v,hb,hx=>by simp only[d6,av]at hb;subst hb;exact hx.closed hD rfl
theorem vW(hD:bo D){f:Nat->Option Nat}(hm:Ren f ρ ρ'):∀(l l':List (AV K))(vs:List Value),gW f l=some l'->aV D ρ S w l vs->aV D ρ' S w l' vs
 |[],l',vs,hb,h=>by simp only[gW,av]at hb;subst hb;rw[h.nS];exact .nil
 |x::r,l',vs,hb,h=>by
  simp only[gW]at hb;split at hb
  ·rename_i x1 r1 hx1 hr1;simp only[av]at hb;subst hb;obtain⟨u,t,rfl,h1,h2⟩:=h.gB;exact .cons (pQ hD hm x x1 u hx1 h1) (vW hD hm r r1 t hr1 h2)
  ·cases hb
end
end Go.V
namespace Go.V
open Go
variable {K :cA}{D:bj K}{ρ ρ':List Value}{S S':Nat->Prop}{w w':World}{H H':List (Ob K)}
theorem kX{f:Nat->Option Nat}{o o':Ob K}(h:iY f o=some o'){r:Value}{b:Nat}:bS D w o' r b↔bS D w o r b:=by
 cases o<;>simp[iY]at h
 ·subst h;exact xc
 ·obtain⟨l,-,rfl⟩:=h;exact xc
 ·subst h;exact xc
 ·subst h;exact xc
 ·subst h;exact xc
theorem ki{f:Nat->Option Nat}{o o':Ob K}(h:iY f o=some o'):o'.live=o.live:=by
 cases o<;>simp[iY]at h
 ·subst h;rfl
 ·obtain⟨l,-,rfl⟩:=h;rfl
 ·subst h;rfl
 ·subst h;rfl
 ·subst h;rfl
theorem ajj{f:Nat->Option Nat}{l l':List (AV K)}(h:gW f l=some l')(hn:jm l'=true):jm l=true:=by
 cases l with
 |nil=>simp[gW]at h;subst h;cases hn
 |cons v r=>
  simp only[gW]at h;split at h
  ·rename_i x y hx hy;simp only[av]at h;subst h;cases v<;>simp only[d6,dS,av,reduceCtorEq]at hx<;>first|rfl|(subst hx;cases hn)|(obtain⟨a,-,rfl⟩:=hx;cases hn)
  ·cases h
theorem H8(hD:bo D){f:Nat->Option Nat}(hm:Ren f ρ ρ'){o o':Ob K}{r:Value}(h:iY f o=some o')(hs:eP D ρ S w o r):eP D ρ' S w o' r:=by
 cases o with
 |dead=>simp[iY]at h;subst h;trivial
 |fg c l=>simp[iY]at h;subst h;exact Rep.closed hD hs rfl
 |box cs=>
  simp only[iY,dS]at h;obtain⟨l,hl,rfl⟩:=h;obtain⟨b,vs,T,e,h1,h2,h3⟩:=hs;exact⟨b,vs,T,e,h1,vW hD hm cs l _ hl h2,fun hn=>h3 (ajj hl hn)⟩
 |tree c l=>simp[iY]at h;subst h;exact hs
 |opn c l i off cs=>simp[iY]at h
 |arr c l=>
  simp[iY]at h;subst h;rcases hs with hs|⟨b,o,cap,vs,T,fr,e,h1,h2,h3,h4,h5⟩
  ·exact .inl hs
  ·exact .inr ⟨b,o,cap,vs,T,fr,e,h1,h2,h3,h4,fun i x hx=>(h5 i x hx).closed hD (hD.closed _ _)⟩
theorem H9{f:Ob K->Option (Ob K)}:∀(l l':List (Ob K)),kj f l=some l'->l'.length=l.length/\∀(i:Nat) o o',l[i]?=some o->l'[i]?=some o'->f o=some o'
 |[],l',h=>by simp[kj]at h;subst h;exact⟨rfl,fun i o o' h=>by simp at h⟩
 |x::r,l',h=>by
  simp only[kj]at h;split at h
  ·rename_i y s hy hs;simp only[av]at h;subst h;obtain⟨h1,h2⟩:=H9 r s hs;refine⟨by simp[h1],fun i o o' ho ho'=>?_⟩;cases i with
   |zero=>simp at ho ho';subst ho;subst ho';exact hy
   |succ i=>exact h2 i o o' (by simpa using ho) (by simpa using ho')
  ·cases h
theorem yD:∀(m:List Nat),sf H m=true->(∀(i h:Nat),m[i]?=some h->h<H.length)/\∀(i j h:Nat),m[i]?=some h->m[j]?=some h->i=j
 |[],_=>⟨fun i h hi=>by simp at hi,fun i j h hi=>by simp at hi⟩
 |x::r,hp=>by
  simp only[sf,bk,bC,eQ,vX,fO]at hp;obtain⟨h1,h2⟩:=yD r hp.2.2;refine⟨fun i h hi=>?_,fun i j h hi hj=>?_⟩
  ·cases i with
   |zero=>simp at hi;subst hi;exact hp.1
   |succ i=>exact h1 i h (by simpa using hi)
  ·cases i with
   |zero=>
    cases j with
    |zero=>rfl
    |succ j=>simp at hi hj;subst hi;exact absurd (fN hj) hp.2.1
   |succ i=>
    cases j with
    |zero=>simp at hi hj;subst hj;exact absurd (fN hi) hp.2.1
    |succ j=>rw[h2 i j h (by simpa using hi) (by simpa using hj)]
theorem yE:∀(m:List Nat)(H os:List (Ob K)),(gX H m os).length=H.length
 |[],H,os=>by simp[gX]
 |h::m,H,[]=>by simp[gX]
 |h::m,H,o::r=>by simp[gX,yE m]
theorem Ve:∀(m:List Nat)(H os:List (Ob K)),m.length<=os.length->∀(k:Nat)(o:Ob K),(gX H m os)[k]?=some o->(k∉m/\H[k]?=some o)\/∃i:Nat,m[i]?=some k/\os[i]?=some o
 |[],H,os,_,k,o,h=>.inl ⟨by simp,by simpa [gX]using h⟩
 |x::m,H,[],hl,k,o,h=>by simp at hl
 |x::m,H,y::r,hl,k,o,h=>by
  rcases Ve m (H.set x y) r (by simpa using hl) k o (by simpa [gX]using h)with⟨h1,h2⟩|⟨i,h1,h2⟩
  ·rcases dF h2 with⟨rfl,rfl,-⟩|⟨hne,h2⟩
   ·exact .inr ⟨0,rfl,rfl⟩
   ·exact .inl ⟨by simp[hne,h1],h2⟩
  ·exact .inr ⟨i+1,by simpa using h1,by simpa using h2⟩
theorem Ia{m:List Nat}{n k i j:Nat}(h:(fm m n k)[i]?=some j):(i<m.length/\m[i]?=some j)\/(m.length<=i/\i<k/\j=n+(i-m.length)):=by
 unfold fm at h;by_cases hi:i<m.length
 ·rw[cD hi]at h;exact .inl ⟨hi,h⟩
 ·rw[cO (by omega)]at h;simp only[fG,dS]at h;obtain⟨a,ha,rfl⟩:=h;have:=bB.1 ha;obtain⟨h1,h2⟩:=this;simp at h1 h2;exact .inr ⟨by omega,by omega,by omega⟩
theorem join(hD:bo D)(hs:aS D ρ S w H){m:List Nat}(hm:sf H m=true){ρi:List Value}{Hi:List (Ob K)}(Ib:∀(i h:Nat),m[i]?=some h->ρi[i]?=ρ[h]?)(hil:Hi.length=m.length)
 (hHi:∀(i h:Nat) o,m[i]?=some h->Hi[i]?=some o->∃o0,H[h]?=some o0/\o0.live=o.live/\∀r b,bS D w o r b↔bS D w o0 r b) (hsi:aS D ρi S w Hi)
 {ρo:List Value} {So:Nat->Prop} {Ho fB:List (Ob K)} (hso:aS D ρo So w' Ho) (st:Step D Hi.length ρi S Hi w ρo So Ho w') (hle:Hi.length<=Ho.length) (hb:kj (sg (fm m H.length Ho.length)) Ho=some fB):
 aS D (ρ++ρo.drop m.length) So w' (gX H m (fB.take m.length)++fB.drop m.length)/\
  Step D H.length ρ S H w (ρ++ρo.drop m.length) So (gX H m (fB.take m.length)++fB.drop m.length) w'/\
  Ren (fun h=>(fm m H.length Ho.length)[h]?) ρo (ρ++ρo.drop m.length):=by
 obtain⟨pR,Ic⟩:=yD m hm;obtain⟨hol,hog⟩:=H9 _ _ hb;have hlen:=hs.len;have ama:=hsi.len;have amb:=hso.len;have ns:Ren (fun h=>(fm m H.length Ho.length)[h]?) ρo (ρ++ρo.drop m.length):=fun i j r hij hr=>by
  rcases Ia hij with⟨h1,h2⟩|⟨h1,h2,rfl⟩
  ·rw[cD (by rw[hlen];exact pR i j h2),<-Ib i j h2,<-st.pre i (by omega)];exact hr
  ·rw[cO (by omega),dC,<-hr];congr 1;omega
 have hget:∀{k:Nat}{o:Ob K}{r:Value},(gX H m (fB.take m.length)++fB.drop m.length)[k]?=some o->(ρ++ρo.drop m.length)[k]?=some r->
  (k∉m/\H[k]?=some o/\ρ[k]?=some r)\/∃i o1,(fm m H.length Ho.length)[i]?=some k/\Ho[i]?=some o1/\sg (fm m H.length Ho.length) o1=some o/\ρo[i]?=some r:=fun{k o r} ho hr=>by
  have inner:∀{i:Nat},(fm m H.length Ho.length)[i]?=some k->fB[i]?=some o->∃i o1,(fm m H.length Ho.length)[i]?=some k/\Ho[i]?=some o1/\sg (fm m H.length Ho.length) o1=some o/\ρo[i]?=some r:=fun{i} h1 h2=>by
   have hi:i<Ho.length:=by rw[<-hol];exact(bB.1 h2).1
   have hg:=bW hi;have hρ:=bW (show i<ρo.length by omega);refine⟨i,_,h1,hg,hog i _ _ hg h2,?_⟩;rw[hρ,<-hr,<-ns i k _ h1 hρ]
  by_cases hk:k<H.length
  ·rw[cD (by rw[yE];exact hk)]at ho;rcases Ve m H _ (by simp;omega) k o ho with⟨h1,h2⟩|⟨i,h1,h2⟩
   ·exact .inl ⟨h1,h2,by rwa [cD (by omega)]at hr⟩
   ·have him:=(bB.1 h1).1;rw[ca,aF him]at h2;exact .inr (inner (by unfold fm;rw[cD him];exact h1) h2)
  ·rw[cO (by rw[yE];omega),yE,dC]at ho;have hlt:=(bB.1 ho).1;refine .inr (inner (i:=m.length+(k-H.length)) ?_ ho);unfold fm;rw[cO (by omega)];simp only[fG,dS];refine⟨k-H.length,?_,by omega⟩;rw[List.getElem?_range (by omega)];congr 1;omega
 have hinj:∀{i j k:Nat},(fm m H.length Ho.length)[i]?=some k->(fm m H.length Ho.length)[j]?=some k->i=j:=fun{i j k} h1 h2=>by
  rcases Ia h1 with⟨a1,a2⟩|⟨a1,a2,a3⟩<;>rcases Ia h2 with⟨b1,b2⟩|⟨b1,b2,b3⟩
  ·exact Ic i j k a2 b2
  ·have:=pR i k a2;omega
  ·have:=pR j k b2;omega
  ·omega
 have Ie:∀b,Own D w ρi Hi b->Own D w ρ H b:=fun b ⟨i,o,r,h1,h2,h3,h4⟩=>by
  have hi:i<m.length:=by rw[<-hil];exact(bB.1 h1).1
  have nt:=bW hi;obtain⟨o0,e1,e2,e3⟩:=hHi i _ o nt h1;exact⟨_,o0,r,e1,by rw[e2];exact h2,by rw[<-Ib i _ nt];exact h3,(e3 r b).1 h4⟩
 have hapart:∀{k:Nat}{o:Ob K}{r:Value}{b:Nat},k∉m->H[k]?=some o->o.live=true->ρ[k]?=some r->bS D w o r b->¬Own D w ρi Hi b:=fun{k o r b} hk h1 h2 h3 h4 ⟨i,o1,r1,g1,g2,g3,g4⟩=>by
  have hi:i<m.length:=by rw[<-hil];exact(bB.1 g1).1
  have nt:=bW hi;obtain⟨o0,e1,e2,e3⟩:=hHi i _ o1 nt g1;have:=hs.dx k _ o o0 r r1 b h1 h2 h3 h4 e1 (by rw[e2];exact g2) (by rw[<-Ib i _ nt];exact g3) ((e3 r1 b).1 g4);exact hk (by rw[this];exact cn hi)
 have hkeep:∀{k:Nat}{o:Ob K}{r:Value},k∉m->H[k]?=some o->o.live=true->ρ[k]?=some r->∀b,bS D w o r b->w'.heap[b]?=w.heap[b]?:=fun{k o r} hk h1 h2 h3 b h4=>st.old b (hs.lt b ⟨k,o,r,h1,h2,h3,h4⟩).1 (hapart hk h1 h2 h3 h4)
 have hSw:∀b,S b->w'.heap[b]?=w.heap[b]?:=st.yF hsi;have hpre:∀(h:Nat) r,ρ[h]?=some r->(ρ++ρo.drop m.length)[h]?=some r:=fun _ _ h=>mi h
 have Vf:∀b,Own D w' (ρ++ρo.drop m.length) (gX H m (fB.take m.length)++fB.drop m.length) b->(Own D w ρ H b/\¬Own D w ρi Hi b)\/Own D w' ρo Ho b:=fun b ⟨k,o,r,h1,h2,h3,h4⟩=>by
  rcases hget h1 h3 with⟨a1,a2,a3⟩|⟨i,o1,a1,a2,a3,a4⟩
  ·have h4':=h4.old (hkeep a1 a2 h2 a3);exact .inl ⟨⟨k,o,r,a2,h2,a3,h4'⟩,hapart a1 a2 h2 a3 h4'⟩
  ·exact .inr ⟨i,o1,r,a2,by rw[<-ki a3];exact h2,a4,(kX a3).1 h4⟩
 refine⟨⟨?_,?_,?_,?_,hso.slt,hso.base⟩,⟨st.os,st.tape,st.output,st.size,fun b hb hno=>st.old b hb fun h=>hno (Ie b h),fun b hb=>?_,st.s1,fun b hb=>?_,fun h hh=>?_⟩,ns⟩
 ·simp only[dA,yE,List.length_drop];omega
 ·intro k o r h1 h3;rcases hget h1 h3 with⟨a1,a2,a3⟩|⟨i,o1,a1,a2,a3,a4⟩
  ·exact(hs.ob k o r a2 a3).mono st.s1 hSw hpre fun b hl hb=>hkeep a1 a2 hl a3 b hb
  ·exact H8 hD ns a3 (hso.ob i o1 r a2 a4)
 ·intro k k' o o' r r' b h1 h2 h3 h4 g1 g2 g3 g4;rcases hget h1 h3 with⟨a1,a2,a3⟩|⟨i,o1,a1,a2,a3,a4⟩
  ·have h4':=h4.old (hkeep a1 a2 h2 a3);rcases hget g1 g3 with⟨c1,c2,c3⟩|⟨j,o2,c1,c2,c3,c4⟩
   ·exact hs.dx k k' o o' r r' b a2 h2 a3 h4' c2 g2 c3 (g4.old (hkeep c1 c2 g2 c3))
   ·exfalso;rcases st.own b ⟨j,o2,r',c2,by rw[<-ki c3];exact g2,c4,(kX c3).1 g4⟩with h|h
    ·exact hapart a1 a2 h2 a3 h4' h
    ·have:=(hs.lt b ⟨k,o,r,a2,h2,a3,h4'⟩).1;omega
  ·have h4':=(kX a3).1 h4;rcases hget g1 g3 with⟨c1,c2,c3⟩|⟨j,o2,c1,c2,c3,c4⟩
   ·exfalso;have g4':=g4.old (hkeep c1 c2 g2 c3);rcases st.own b ⟨i,o1,r,a2,by rw[<-ki a3];exact h2,a4,h4'⟩with h|h
    ·exact hapart c1 c2 g2 c3 g4' h
    ·have:=(hs.lt b ⟨k',o',r',c2,g2,c3,g4'⟩).1;omega
   ·have:=hso.dx i j o1 o2 r r' b a2 (by rw[<-ki a3];exact h2) a4 h4' c2 (by rw[<-ki c3];exact g2) c4 ((kX c3).1 g4);subst this;rw[a1]at c1;simpa using c1
 ·intro b hb;rcases Vf b hb with⟨h1,h2⟩|h
  ·refine⟨ik (hs.lt b h1).1 st.size,fun hS=>?_⟩;rcases st.s2 b hS with h|h|h
   ·exact(hs.lt b h1).2 h
   ·exact h2 h
   ·have:=(hs.lt b h1).1;omega
  ·exact hso.lt b h
 ·rcases Vf b hb with⟨h1,h2⟩|h
  ·exact .inl h1
  ·exact(st.own b h).imp (Ie b) id
 ·exact(st.s2 b hb).imp id (Or.imp (Ie b) id)
 ·rw[cD (by omega)]
end Go.V
namespace Go.V
open Go
variable {K :cA}{D:bj K}{ρ ρ':List Value}{S S':Nat->Prop}{w w':World}{H H':List (Ob K)}
theorem ajk{m:List Nat}{h i:Nat}(hi:m.idxOf? h=some i):m[i]?=some h:=by
 rw[List.idxOf?_eq_some_iff]at hi;obtain⟨hlt,he,-⟩:=hi;rw[bW hlt];simpa using he
def pS(ρ:List Value)(m:List Nat):List Value:=m.map fun h=>ρ.getD h undef
theorem Ig{m:List Nat}(hl:∀(i h:Nat),m[i]?=some h->h<ρ.length):∀(i h:Nat),m[i]?=some h->(pS ρ m)[i]?=ρ[h]?:=fun i h hi=>by
 simp only[pS,fG,hi,jL];rw[cY,bW (hl i h hi)];rfl
theorem Vg(hD:bo D)(hs:aS D ρ S w H){m:List Nat}(hm:sf H m=true){Hi:List (Ob K)}(hb:kj (B7 m) (m.map fun h=>H.getD h .dead)=some Hi):
 aS D (pS ρ m) S w Hi/\Hi.length=m.length/\(∀(i h:Nat) o,m[i]?=some h->Hi[i]?=some o->∃o0,H[h]?=some o0/\o0.live=o.live/\∀r b,bS D w o r b↔bS D w o0 r b)/\Ren (fun h=>m.idxOf? h) ρ (pS ρ m):=by
 obtain⟨pR,Ic⟩:=yD m hm;obtain⟨hol,hog⟩:=H9 _ _ hb;have hlen:=hs.len;have hsub:=Ig (ρ:=ρ) (m:=m) (fun i h hi=>by rw[hlen];exact pR i h hi);have ns:Ren (fun h=>m.idxOf? h) ρ (pS ρ m):=fun i j r hij hr=>by rw[hsub j i (ajk hij)];exact hr
 have hil:Hi.length=m.length:=by rw[hol];simp
 have hsrc:∀{i:Nat}{o:Ob K},Hi[i]?=some o->∃h o0,m[i]?=some h/\H[h]?=some o0/\B7 m o0=some o:=fun{i o} ho=>by
  have hi:i<m.length:=by rw[<-hil];exact(bB.1 ho).1
  have nt:=bW hi;have hh:=pR i _ nt;refine⟨_,H[m[i]],nt,bW hh,hog i _ o ?_ ho⟩;simp only[fG,nt,jL];rw[cY,bW hh];rfl
 refine⟨⟨by simp[pS,hil],fun i o r h1 h2=>?_,fun i j o o' r r' b h1 h2 h3 h4 g1 g2 g3 g4=>?_,fun b ⟨i,o,r,h1,h2,h3,h4⟩=>?_,hs.slt,hs.base⟩,hil,fun i h o h1 h2=>?_,ns⟩
 ·obtain⟨h,o0,e1,e2,e3⟩:=hsrc h1;rw[hsub i h e1]at h2;exact H8 hD ns e3 (hs.ob h o0 r e2 h2)
 ·obtain⟨h,o0,e1,e2,e3⟩:=hsrc h1;obtain⟨h',Ih,c1,c2,c3⟩:=hsrc g1;rw[hsub i h e1]at h3;rw[hsub j h' c1]at g3;have:=hs.dx h h' o0 Ih r r' b e2 (by rw[<-ki e3];exact h2) h3 ((kX e3).1 h4) c2 (by rw[<-ki c3];exact g2) g3 ((kX c3).1 g4);subst this;exact Ic i j h e1 c1
 ·obtain⟨h,o0,e1,e2,e3⟩:=hsrc h1;rw[hsub i h e1]at h3;exact hs.lt b ⟨h,o0,r,e2,by rw[<-ki e3];exact h2,h3,(kX e3).1 h4⟩
 ·obtain⟨h',o0,e1,e2,e3⟩:=hsrc h2;rw[h1]at e1;simp at e1;subst e1;exact⟨o0,e2,(ki e3).symm,fun r b=>kX e3⟩
def aH(cx:Cx K):Prop:=(∀f args H r H',cx.call f args H=some (r,H',true)->RC cx.D cx.P f args H r H')/\(∀b f args H r H',cx.alt b f args H=some (r,H',true)->RC cx.D cx.P f args H r H')/\∀(R:Type)(a b:Option R) r,cx.vY a b=some r->a=some r\/b=some r
theorem vZ{cx:Cx K}(hD:bo cx.D)(hc:aH cx)(hs:aS cx.D ρ S w H){m:Mode}{f:FuncId}{args:List (AV K)}{vals:List Value}{v:AV K}{H':List (Ob K)}{t:List Nat}
 (h:jn cx m H f args=some (v,H',true,t)) (ha:aV cx.D ρ S w args vals):
 qm cx.P f/\Calls cx.P f vals.toArray w fun e w'=>∃u ρ' S',e=.returned u/\aS cx.D ρ' S' w' H'/\Rep cx.D ρ' S' w' v u/\Step cx.D H.length ρ S H w ρ' S' H' w':=by
 unfold jn at h;split at h
 ·
  split at h
  ·rename_i hcl;split at h
   ·rename_i r c hcall;split at h
    ·rename_i hr;simp only[av,bc]at h;obtain⟨rfl,rfl,rfl,rfl⟩:=h;simp only[bk,fU,eQ]at hr;obtain⟨hf,jO⟩:=hc.1 _ _ _ _ _ hcall;refine⟨hf,?_⟩;by_cases hsl:se args=true
     ·have hrd:ga r=false:=hr.2.resolve_right (by rw[hsl];simp);have ha1:=(vU hD hs args vals ha).closed (ρ':=[]) hD hcl;have hs1:aS cx.D [] (fun b=>S b\/Own cx.D w ρ H b) w ([]:List (Ob K)):=⟨rfl,fun _ _ _ h=>by simp at h,fun _ _ _ _ _ _ _ h=>by simp at h,fun b ⟨_,_,_,h,_⟩=>by simp at h,fun b hb=>hb.elim (hs.slt b) fun h=>(hs.lt b h).1,cx.D.base.mono (fun _ h=>.inl h) (fun _ _=>rfl) hs.base⟩;refine(jO [] _ w vals hs1 ha1).mono ?_
      rintro e w' ⟨u,ρ',S',rfl,h1,h2,h3⟩
      have hold:∀b,b<w.heap.size->w'.heap[b]?=w.heap[b]?:=fun b hb=>h3.old b hb fun⟨_,_,_,h,_⟩=>by simp at h
      have hO:∀b,Own cx.D w' ρ H b->Own cx.D w ρ H b:=fun b hb=>hb.old fun b hb=>hold b (hs.lt b hb).1
      exact⟨u,ρ,S,rfl,hs.world h3.size (fun b hb=>hold b (hs.lt b hb).1) (fun b hb=>hold b (hs.slt b hb)),H7 r u hr.1 hrd h2,
       ⟨h3.os,h3.tape,h3.output,h3.size,fun b hb _=>hold b hb,fun b hb=>.inl (hO b hb),fun _ h=>h,fun _ h=>.inl h,fun _ _=>rfl⟩⟩
     ·simp only[qH]at hsl;rw[vV args hsl]at hcl jO;have hs1:aS cx.D [] S w ([]:List (Ob K)):=⟨rfl,fun _ _ _ h=>by simp at h,fun _ _ _ _ _ _ _ h=>by simp at h,fun b ⟨_,_,_,h,_⟩=>by simp at h,hs.slt,hs.base⟩;refine(jO [] S w vals hs1 (ha.closed hD hcl)).mono ?_
      rintro e w' ⟨u,ρ',S',rfl,h1,h2,h3⟩
      have hold:∀b,b<w.heap.size->w'.heap[b]?=w.heap[b]?:=fun b hb=>h3.old b hb fun⟨_,_,_,h,_⟩=>by simp at h
      have hO:∀b,Own cx.D w' ρ H b->Own cx.D w ρ H b:=fun b hb=>hb.old fun b hb=>hold b (hs.lt b hb).1
      have hnew:∀b,S' b->S b\/w.heap.size<=b:=fun b hb=>(h3.s2 b hb).imp id fun h=>h.resolve_left fun⟨_,_,_,h,_⟩=>by simp at h
      have hs2:=hs.world h3.size (fun b hb=>hold b (hs.lt b hb).1) (fun b hb=>hold b (hs.slt b hb));refine⟨u,ρ,S',rfl,⟨hs.len,fun k o r' g1 g2=>(hs2.ob k o r' g1 g2).mono h3.s1 (fun _ _=>rfl) (fun _ _ h=>h) (fun _ _ _=>rfl),hs2.dx,fun b hb=>⟨(hs2.lt b hb).1,fun hS=>?_⟩,h1.slt,h1.base⟩,h2.closed hD hr.1,
       ⟨h3.os,h3.tape,h3.output,h3.size,fun b hb _=>hold b hb,fun b hb=>.inl (hO b hb),h3.s1,fun b hb=>(hnew b hb).imp id .inr,fun _ _=>rfl⟩⟩
      rcases hnew b hS with h|h
      ·exact(hs.lt b (hO b hb)).2 h
      ·have:=(hs.lt b (hO b hb)).1;omega
    ·cases h
   ·cases h
  ·cases h
 ·
  split at h
  ·rename_i hcl;simp only[bk,eQ]at hcl;rw[vV args hcl.2]at h hcl;split at h
   ·rename_i r Hn c hcall;split at h
    ·rename_i r' si hr Ii;simp only[av,bc]at h;obtain⟨rfl,rfl,rfl,rfl⟩:=h;obtain⟨hf,jO⟩:=hc.1 _ _ _ _ _ hcall;refine⟨hf,?_⟩;have hs1:aS cx.D [] S w ([]:List (Ob K)):=⟨rfl,fun _ _ _ h=>by simp at h,fun _ _ _ _ _ _ _ h=>by simp at h,fun b ⟨_,_,_,h,_⟩=>by simp at h,hs.slt,hs.base⟩;refine(jO [] S w vals hs1 (ha.closed hD hcl.1)).mono ?_
     rintro e w' ⟨u,ρn,S',rfl,h1,h2,h3⟩
     have hbm:fm [] H.length Hn.length=(List.range Hn.length).map (H.length+·):=by simp[fm]
     have:=join hD hs (m:=[]) rfl (ρi:=[]) (Hi:=[]) (fun i h hi=>by simp at hi) rfl (fun i h o hi=>by simp at hi) hs1 h1 h3 (dJ _) (fB:=si) (by rw[hbm];exact Ii);obtain⟨j1,j2,j3⟩:=this;simp only[gX,hU,iy]at j1 j2 j3;rw[hbm]at j3;exact⟨u,_,S',rfl,j1,pQ hD j3 r r' u hr h2,j2⟩
    ·cases h
   ·cases h
  ·cases h
 ·
  split at h
  ·rename_i hcl;split at h
   ·rename_i r Hn c hcall;split at h
    ·rename_i hfl;simp only[bk,eQ,dW]at hfl;split at h
     ·rename_i r' si hr Ii;simp only[av,bc]at h;obtain⟨rfl,rfl,rfl,rfl⟩:=h;obtain⟨hf,jO⟩:=hc.1 _ _ _ _ _ hcall;refine⟨hf,?_⟩;have ha1:=(vU hD hs args vals ha).closed (ρ':=[]) hD hcl;have hs1:aS cx.D [] (fun b=>S b\/Own cx.D w ρ H b) w ([]:List (Ob K)):=⟨rfl,fun _ _ _ h=>by simp at h,fun _ _ _ _ _ _ _ h=>by simp at h,fun b ⟨_,_,_,h,_⟩=>by simp at h,fun b hb=>hb.elim (hs.slt b) fun h=>(hs.lt b h).1,cx.D.base.mono (fun _ h=>.inl h) (fun _ _=>rfl) hs.base⟩;have hs0:aS cx.D [] S w ([]:List (Ob K)):=⟨rfl,fun _ _ _ h=>by simp at h,fun _ _ _ _ _ _ _ h=>by simp at h,fun b ⟨_,_,_,h,_⟩=>by simp at h,hs.slt,hs.base⟩;refine(jO [] _ w vals hs1 ha1).mono ?_
      rintro e w' ⟨u,ρn,S',rfl,h1,h2,h3⟩
      have hown:∀b,Own cx.D w' ρn Hn b->w.heap.size<=b:=fun b hb=>(h3.own b hb).resolve_left fun⟨_,_,_,h,_⟩=>by simp at h
      have hn:aS cx.D ρn S w' Hn:=by
       refine⟨h1.len,fun k o rr g1 g2=>?_,h1.dx,fun b hb=>⟨(h1.lt b hb).1,fun hS=>?_⟩,fun b hb=>ik (hs.slt b hb) h3.size,cx.D.base.mono (fun _ h=>h) (fun b hb=>h3.old b (hs.slt b hb) fun⟨_,_,_,h,_⟩=>by simp at h) hs.base⟩
       ·have:=h1.ob k o rr g1 g2;have hfo:=hfl.2 o (fN g1);cases o with
        |arr c l=>
         simp only[Vh,eQ]at hfo;rcases this with this|⟨b,o,cap,vs,T,fr,e,q1,q2,q3,q4,q5⟩
         ·exact .inl this
         ·exact .inr ⟨b,o,cap,vs,T,fr,e,q1,q2,q3,q4,fun i x hx=>yG _ _ (by rw[hD.flat];exact hfo) (q5 i x hx)⟩
        |tree c l=>exact this
        |_=>cases hfo
       ·have:=hown b hb;have:=hs.slt b hS;omega
      have st:Step cx.D ([]:List (Ob K)).length [] S [] w ρn S Hn w':=⟨h3.os,h3.tape,h3.output,h3.size,h3.old,h3.own,fun _ h=>h,fun _ h=>.inl h,h3.pre⟩;have hbm:fm [] H.length Hn.length=(List.range Hn.length).map (H.length+·):=by simp[fm]
      have:=join hD hs (m:=[]) rfl (ρi:=[]) (Hi:=[]) (fun i h hi=>by simp at hi) rfl (fun i h o hi=>by simp at hi) hs0 hn st (dJ _) (fB:=si) (by rw[hbm];exact Ii);obtain⟨j1,j2,j3⟩:=this;simp only[gX,hU,iy]at j1 j2 j3;rw[hbm]at j3;exact⟨u,_,S,rfl,j1,pQ hD j3 r r' u hr (Ij r u hfl.1 h2),j2⟩
     ·cases h
    ·cases h
   ·cases h
  ·cases h
 ·cases h
 ·cases h
 ·
  split at h
  ·cases h
  ·rename_i hp;simp only[eQ,Bool.not_eq_false]at hp;split at h
   ·rename_i args' Hi hargs hHi;split at h
    ·rename_i r Ho c hcall;split at h
     ·rename_i r' fB hr Ik;split at h
      ·rename_i hle;simp only[av,bc]at h;obtain⟨rfl,rfl,rfl,rfl⟩:=h;obtain⟨hf,jO⟩:=hc.1 _ _ _ _ _ hcall;refine⟨hf,?_⟩;obtain⟨s1,s2,s3,s4⟩:=Vg hD hs hp hHi;refine(jO _ S w vals s1 (vW hD s4 args args' vals hargs ha)).mono ?_
       rintro e w' ⟨u,ρo,So,rfl,h1,h2,h3⟩
       have hbm:fm (reach H 64 (bq args) []) H.length Ho.length=reach H 64 (bq args) []++(List.range (Ho.length-Hi.length)).map (H.length+·):=by simp[fm,s2]
       obtain⟨pR,-⟩:=yD _ hp;have:=join hD hs hp (ρi:=pS ρ (reach H 64 (bq args) [])) (Ig fun i h hi=>by rw[hs.len];exact pR i h hi) s2 s3 s1 h1 h3 hle (fB:=fB) (by rw[hbm];exact Ik);obtain⟨j1,j2,j3⟩:=this;rw[hbm]at j3;rw[s2];exact⟨u,_,So,rfl,j1,pQ hD j3 r r' u hr h2,j2⟩
      ·cases h
     ·cases h
    ·cases h
   ·cases h
theorem B8{cx:Cx K}(hD:bo cx.D)(hc:aH cx)(hs:aS cx.D ρ S w H){m:Mode}{f:FuncId}{args:List (AV K)}{vals:List Value}{v:AV K}{H':List (Ob K)}{t:List Nat}
 (h:sj cx m H f args=some (v,H',true,t)) (ha:aV cx.D ρ S w args vals):
 qm cx.P f/\Calls cx.P f vals.toArray w fun e w'=>∃u ρ' S',e=.returned u/\aS cx.D ρ' S' w' H'/\Rep cx.D ρ' S' w' v u/\Step cx.D H.length ρ S H w ρ' S' H' w':=by
 obtain⟨S1,g1,g2,g3⟩:=B9 (n0:=H.length) (bq args) hs;obtain⟨hf,jO⟩:=vZ hD hc g1 h (yH g1 _ _ (ha.mono g2.s1 (fun _ _=>rfl) (fun _ _ h=>h)));refine⟨hf,jO.mono ?_⟩
 rintro e w' ⟨u,ρ',S',rfl,h1,h2,h3⟩
 rw[g3]at h3;exact⟨u,ρ',S',rfl,h1,h2,g2.trans h3⟩
theorem Vi{cx:Cx K}(hD:bo cx.D)(hc:aH cx)(hs:aS cx.D ρ S w H){q:Bool}{f:FuncId}{args:List (AV K)}{vals:List Value}{v:AV K}{H':List (Ob K)}{t:List Nat}
 (h:nu q cx H f args=some (v,H',true,t)) (ha:aV cx.D ρ S w args vals):
 qm cx.P f/\Calls cx.P f vals.toArray w fun e w'=>∃u ρ' S',e=.returned u/\aS cx.D ρ' S' w' H'/\Rep cx.D ρ' S' w' v u/\Step cx.D H.length ρ S H w ρ' S' H' w':=by
 unfold nu at h;split at h
 ·exact vZ hD hc hs h ha
 ·split at h
  ·rename_i r hr;simp only[av]at h;subst h;exact vZ hD hc hs hr ha
  ·split at h
   ·cases h
   ·exact B8 hD hc hs h ha
 ·split at h
  ·cases h
  ·exact B8 hD hc hs h ha
 ·split at h
  ·cases h
  ·exact vZ hD hc hs h ha
 ·split at h
  ·cases h
  ·exact B8 hD hc hs h ha
 ·split at h
  ·cases h
  ·split at h
   ·rename_i r hr;simp only[av]at h;subst h;exact vZ hD hc hs hr ha
   ·split at h
    ·rename_i r hr;simp only[av]at h;subst h;exact vZ hD hc hs hr ha
    ·exact B8 hD hc hs h ha
end Go.V
