/-
  TEMPORARIES AND CALLS: what the value-level reading of an operand says of its value; a function's contract; a call by its contract.
-/
import Derived.Test.YtjgokmknlclpgaaGreatDoorXWpureA
import Derived.Test.YtjgokmknlclpgaaGreatDoorXWobj4
set_option linter.unusedVariables false
namespace Go.V
open Go
variable{K :Jc}{D:nz K}{ρ ρ':List Value}{S S':Nat->Prop}{w w':World}{H H':List (Ob K)}
def kz(D:nz K)(ρ:List Value)(S:Nat->Prop)(w:World)(tmps:Array Value):AV K->Value->Prop
 |.opt g want v,x=>(tmps[g]?=some (.bool want)/\Rep D ρ S w v x)\/(tmps[g]?≠some (.bool want)/\x=undef)
 |v,x=>Rep D ρ S w v x
structure rW (D:nz K) (ρ:List Value) (S:Nat->Prop) (w:World) (tm:List (AV K)) (tmps:Array Value):Prop where
 len:tm.length=tmps.size
 ok:∀(t:Nat) v x,tm[t]?=some v->tmps[t]?=some x->kz D ρ S w tmps v x
theorem kz.mono{tmps:Array Value}(hS:∀b,S b->S' b)(hw:∀b,S b->w'.heap[b]?=w.heap[b]?)(hρ:∀(h:Nat) r,ρ[h]?=some r->ρ'[h]?=some r){v:AV K}{x:Value}(h:kz D ρ S w tmps v x):kz D ρ' S' w' tmps v x:=by
 cases v<;>simp only[kz]at h⊢<;>first|exact h.mono hS hw hρ|(rcases h with⟨a,b⟩|h;exact .inl ⟨a,b.mono hS hw hρ⟩;exact .inr h)
theorem rW.mono{tm:List (AV K)}{tmps:Array Value}(hS:∀b,S b->S' b)(hw:∀b,S b->w'.heap[b]?=w.heap[b]?)(hρ:∀(h:Nat) r,ρ[h]?=some r->ρ'[h]?=some r)(h:rW D ρ S w tm tmps):rW D ρ' S' w' tm tmps:=
 ⟨h.len,fun t v x hv hx=>(h.ok t v x hv hx).mono hS hw hρ⟩
theorem kz.CX{tmps:Array Value}{v:AV K}{x:Value}(h:Rep D ρ S w v x):kz D ρ S w tmps v x:=by
 cases v<;>first|exact h|(cases h)
theorem rW.get{tm:List (AV K)}{tmps:Array Value}(h:rW D ρ S w tm tmps){t:Nat}{v:AV K}(hv:tm[t]?=some v):∃x,tmps[t]?=some x/\kz D ρ S w tmps v x:=by
 have ht:t<tmps.size:=by rw[<-h.len];exact(wG.1 hv).1
 exact⟨tmps[t],aBB ht,h.ok t v _ hv (aBB ht)⟩
theorem ajh{tm:List (AV K)}{tmps:Array Value}(h:rW D ρ S w tm tmps):∀(n:Nat)(g t:Nat×Bool),covers tm n g t=true->tmps[g.1]?=some (.bool g.2)->tmps[t.1]?=some (.bool t.2)
 |0,g,t,hc,hg=>by simp[covers]at hc;rw[<-hc.1,<-hc.2];exact hg
 |n+1,g,t,hc,hg=>by
  simp only[covers,CG]at hc;rcases hc with hc|hc
  ·simp at hc;rw[<-hc.1,<-hc.2];exact hg
  ·split at hc
   ·rename_i g1 w1 v hv;obtain⟨x,hx,ho⟩:=h.get hv;rw[hg]at hx;simp at hx;subst hx;rcases ho with⟨a,-⟩|⟨-,b⟩
    ·exact ajh h n (g1,w1) t hc a
    ·simp[undef]at b
   ·cases hc
theorem aqE{tm:List (AV K)}{tmps:Array Value}(h:rW D ρ S w tm tmps):∀(n g:Nat)(want e:Bool),aBC tm n (g,want)=some e->(e=true↔tmps[g]?=some (.bool want))
 |0,g,want,e,hc=>by simp[aBC]at hc
 |n+1,g,want,e,hc=>by
  simp only[aBC]at hc;split at hc
  ·rename_i b hv;obtain⟨x,hx,ho⟩:=h.get hv;simp only[kz]at ho;rw[uk ho]at hx;simp only[dS]at hc;subst hc;rw[hx];simp
  ·rename_i g1 w1 b hv;obtain⟨x,hx,ho⟩:=h.get hv;simp only[Fg]at hc;obtain⟨e1,he1,rfl⟩:=hc;have ih:=aqE h n g1 w1 e1 he1;rcases ho with⟨a,ho⟩|⟨a,ho⟩
   ·rw[uk ho]at hx;rw[ih.2 a,hx];simp
   ·have:e1=false:=by cases e1;rfl;exact absurd (ih.1 rfl) a
    rw[this,hx,ho];simp[undef]
  ·cases hc
theorem axo{a:Act}{t:Nat}{x:Value}(h:a.tmps[t]?=some x):a.eval (.tmp t)=x:=by simp[Act.eval,aqF,h]
theorem ac4{tm:List (AV K)}{a:Act}(h:rW D ρ S w tm a.tmps){gs:List (Nat×Bool)}(hg:∀p∈gs,a.tmps[p.1]?=some (.bool p.2))(x:Operand):Rep D ρ S w (SG tm gs x) (a.eval x):=by
 cases x with
 |tmp t=>
  simp only[SG];split
  ·rename_i g w1 v hv;split
   ·rename_i hc;obtain⟨y,hy,ho⟩:=h.get hv;rw[axo hy];obtain⟨p,hp,hcov⟩:=List.any_eq_true.1 hc;have:=ajh h 6 p (g,w1) hcov (hg p hp);rcases ho with⟨-,ho⟩|⟨n,-⟩
    ·exact ho
    ·exact absurd this n
   ·exact .any _
  ·rename_i v hne hv;obtain⟨y,hy,ho⟩:=h.get hv;rw[axo hy];cases v<;>first|exact ho|exact absurd rfl (hne _ _ _)
  ·exact .any _
 |const v=>
  simp only[SG,Act.eval];cases hv:(VK v:Option (AV K))with
  |none=>exact .any _
  |some y=>exact NR v y hv
 |global g=>exact .any _
 |func f=>exact .fn (caps:=[]) (vs:=[]) rfl (fun i v x h=>by simp at h)
mutual
theorem aqG:∀(x y:AV K)(v:Value),Rep D ρ S w x v->Rep D ρ S w (merge true x y) v
 |.int k m,y,v,h=>by cases y<;>first|exact .any _|(simp only[merge];split<;>first|exact h|exact .any _)
 |.bool m,y,v,h=>by cases y<;>first|exact .any _|exact h
 |.str m,y,v,h=>by cases y<;>first|exact .any _|exact h
 |.bY c l,y,v,h=>by
   cases y<;>first|exact .any _|skip
   rename_i c' l';simp only[merge];cases hd:K.deq c c' with
   |isTrue he=>subst he;exact h
   |isFalse hn=>exact .any _
 |.agg l,y,v,h=>by
   cases y<;>first|exact .any _|skip
   rename_i l';simp only[merge];split
   ·rename_i he;cases h with
    |agg hl hr=>
     have:=amM l l' he _ ⟨hl,hr⟩;exact .agg this.1 this.2
   ·exact .any _
 |.jf,y,v,h=>by cases y<;>first|exact .any _|exact h
 |.vP,y,v,h=>by cases y<;>first|exact .any _|exact h
 |.any,y,v,h|.fn _ _,y,v,h|.ptr _ _,y,v,h|.sl _,y,v,h|.ep _ _ _ _,y,v,h|.rp _ _ _,y,v,h|.sO _,y,v,h|.np _,y,v,h|.vw _ _ _ _,y,v,h|.opt _ _ _,y,v,h=>by simp only[merge];exact .any _
theorem amM:∀(l l':List (AV K)),l.length=l'.length->∀(vs:List Value),ed D ρ S w l vs->ed D ρ S w (merges true l l') vs
 |[],l',hl,vs,h=>by cases l'<;>simp[merges]<;>exact h
 |x::r,[],hl,vs,h=>by simp at hl
 |x::r,y::s,hl,vs,h=>by
  obtain⟨u,t,rfl,h1,h2⟩:=h.wX;simp only[merges];exact .cons (aqG x y u h1) (amM r s (by simpa using hl) t h2)
end
mutual
theorem amN:∀(x y:AV K)(v:Value),Rep D ρ S w y v->Rep D ρ S w (merge false x y) v
 |.int k m,y,v,h=>by cases y<;>first|exact .any _|(simp only[merge];split<;>first|(rename_i he;subst he;exact h)|exact .any _)
 |.bool m,y,v,h=>by cases y<;>first|exact .any _|exact h
 |.str m,y,v,h=>by cases y<;>first|exact .any _|exact h
 |.bY c l,y,v,h=>by
   cases y<;>first|exact .any _|skip
   rename_i c' l';simp only[merge];cases hd:K.deq c c' with
   |isTrue he=>subst he;exact h
   |isFalse hn=>exact .any _
 |.agg l,y,v,h=>by
   cases y<;>first|exact .any _|skip
   rename_i l';simp only[merge];split
   ·rename_i he;cases h with
    |agg hl hr=>
     have:=aji l l' he _ ⟨hl,hr⟩;exact .agg this.1 this.2
   ·exact .any _
 |.jf,y,v,h=>by cases y<;>first|exact .any _|exact h
 |.vP,y,v,h=>by cases y<;>first|exact .any _|exact h
 |.any,y,v,h|.fn _ _,y,v,h|.ptr _ _,y,v,h|.sl _,y,v,h|.ep _ _ _ _,y,v,h|.rp _ _ _,y,v,h|.sO _,y,v,h|.np _,y,v,h|.vw _ _ _ _,y,v,h|.opt _ _ _,y,v,h=>by simp only[merge];exact .any _
theorem aji:∀(l l':List (AV K)),l.length=l'.length->∀(vs:List Value),ed D ρ S w l' vs->ed D ρ S w (merges false l l') vs
 |[],l',hl,vs,h=>by cases l'<;>simp[merges]at hl⊢<;>exact h
 |x::r,[],hl,vs,h=>by simp at hl
 |x::r,y::s,hl,vs,h=>by
  obtain⟨u,t,rfl,h1,h2⟩:=h.wX;simp only[merges];exact .cons (amN x y u h1) (aji r s (by simpa using hl) t h2)
end
theorem amO{b:Bool}{x y:AV K}{v:Value}(h1:b=true->Rep D ρ S w x v)(h2:b=false->Rep D ρ S w y v):Rep D ρ S w (merge b x y) v:=by
 cases b
 ·exact amN x y v (h2 rfl)
 ·exact aqG x y v (h1 rfl)
end Go.V
namespace Go.V
open Go
variable{K :Jc}{D:nz K}{ρ ρ':List Value}{S S':Nat->Prop}{w w':World}{H H':List (Ob K)}
def awU(P:Program)(f:FuncId):Prop:=∃fn,P.funcs[f]?=some fn/\(fn.name== "runtime.NumGoroutine")=false/\fn.body.isNone=false
def RC(D:nz K)(P:Program)(f:FuncId)(args:List (AV K))(H:List (Ob K))(r:AV K)(H':List (Ob K)):Prop:=
 awU P f/\∀(ρ:List Value)(S:Nat->Prop)(w:World)(vals:List Value),aP D ρ S w H->ed D ρ S w args vals->
  Calls P f vals.toArray w fun e w'=>∃u ρ' S',e=.returned u/\aP D ρ' S' w' H'/\Rep D ρ' S' w' r u/\Step D H.length ρ S H w ρ' S' H' w'
theorem acn(hs:aP D ρ S w H)(x:AV K)(v:Value)(hx:Rep D ρ S w x v):Rep D ρ (fun b=>S b\/Own D w ρ H b) w (aqH H x) v:=by
 cases x with
 |sl h=>
  obtain⟨hp,a,n,c,rfl⟩:=Eu hx;simp only[aqH];split
  ·rename_i cc l hob;rcases WM hs hob hp with⟨e,rfl⟩|⟨b,o,cap,vs,T,fr,e,hblk,⟨hcap,hAT⟩,hsz,hfr,hall⟩
   ·rw[e];exact .GM _ _
   ·rw[e]at hp⊢;refine .bY (fun i=>Aj vs (o+i*K.sz cc) (K.sz cc)) (.inr ⟨h,_,_,hob,rfl,hp,rfl⟩) hcap (fun i x hx=>(hall i x hx).1.symm) (fun i _=>rX hblk _ _) (fun i x hx j v y hv hy=>?_);exact((hall i x hx).2 j v y hv hy).mono (fun _ h=>.inl h) (fun _ _=>rfl) (fun _ _ h=>h)
  ·rename_i cc l hob;have:=hs.ob _ _ _ hob hp;exact Rep.mono (fun _ h=>.inl h) (fun _ _=>rfl) (fun _ _ h=>h) this
  ·rename_i cc l hob;exact Tree.rep (hs.ob _ _ _ hob hp) fun k hk=>.inr ⟨h,_,_,hob,rfl,hp,hk⟩
  ·exact .any _
 |_=>exact hx.mono (fun _ h=>.inl h) (fun _ _=>rfl) (fun _ _ h=>h)
theorem avo(hs:aP D ρ S w H)(l:List (AV K))(vs:List Value)(hx:ed D ρ S w l vs):ed D ρ (fun b=>S b\/Own D w ρ H b) w (l.map (aqH H)) vs:=
 ⟨by simp[hx.1],fun i v x hv hy=>by
   rw[Np,Fg]at hv;obtain⟨u,hu,rfl⟩:=hv;exact acn hs u x (hx.2 i u x hu hy)⟩
mutual
theorem aqI(hD:dX D)(hs:aP D ρ S w H):∀(x:AV K)(v:Value),Rep D ρ S w x v->Rep D ρ (fun b=>S b\/Own D w ρ H b) w (VL D H x) v
 |.sl h,v,hx=>by
   obtain⟨hp,a,n,c,rfl⟩:=Eu hx;simp only[VL];split
   ·rename_i cc l hob;rcases WM hs hob hp with⟨e,rfl⟩|⟨b,o,cap,vs,T,fr,e,hblk,⟨hcap,hAT⟩,hsz,hfr,hall⟩
    ·rw[e];exact .GM _ _
    ·rw[e]at hp⊢;refine .bY (fun i=>Aj vs (o+i*K.sz cc) (K.sz cc)) (.inr ⟨h,_,_,hob,rfl,hp,rfl⟩) hcap (fun i x hx=>(hall i x hx).1.symm) (fun i _=>rX hblk _ _) (fun i x hx j v y hv hy=>?_);exact((hall i x hx).2 j v y hv hy).mono (fun _ h=>.inl h) (fun _ _=>rfl) (fun _ _ h=>h)
   ·rename_i cc l hob;have:=hs.ob _ _ _ hob hp;exact Rep.mono (fun _ h=>.inl h) (fun _ _=>rfl) (fun _ _ h=>h) this
   ·rename_i cc l hob;exact Tree.rep (hs.ob _ _ _ hob hp) fun k hk=>.inr ⟨h,_,_,hob,rfl,hp,hk⟩
   ·exact .any _
 |.vw h st lo hi,v,hx=>by
   cases hx with
   |vw hp h1 h2 ha=>
    simp only[VL];split
    ·rename_i cc l hob;split
     ·rename_i hst;subst hst;have:=acn (D:=D) hs (.sl h) _ (.sl hp);simp only[aqH,hob]at this;exact aAm this h1 h2 ha
     ·exact .any _
    ·rename_i cc l hob;split
     ·rename_i hst;subst hst;have:=acn (D:=D) hs (.sl h) _ (.sl hp);simp only[aqH,hob]at this;exact aAm this h1 h2 ha
     ·exact .any _
    ·exact .any _
 |.ptr h off,v,hx=>by
   obtain⟨b,rfl,hp⟩:=ac5 hx;simp only[VL];split
   ·rename_i cs hob;split
    ·rename_i c hf;split
     ·rename_i y hdec;obtain⟨b',vs,T,e,hblk,hr,-⟩:=hs.ob _ _ _ hob hp;simp only[Value.pointer.injEq,dS,Addr.mk.injEq]at e;obtain⟨rfl,-,-⟩:=e;have hc:=hD.dec c _ _ hdec ρ (fun b=>S b\/Own D w ρ H b) w _ (avo hs _ _ hr);have:=Rep.rp (D:=D) (ρ:=ρ) (S:=fun b=>S b\/Own D w ρ H b) (w:=w) (c:=c) (x:=y) (b:=b) (o:=0) (off:=off) vs.toList (.inr ⟨h,_,_,hob,rfl,hp,rfl⟩) hc.1.symm
       (fun j v hv=>by simp[World.cell?,hblk];simpa using hv) (fun j v y' h1 h2=>hc.2 j v y' h1 h2)
      rw[Ae]at this;exact this
     ·exact .any _
    ·exact .any _
   ·exact .any _
 |.fn g l,v,hx=>by
   cases hx with
   |fn hl hr=>
    have:=EN hD hs l _ ⟨hl,hr⟩;exact .fn this.1 this.2
 |.agg l,v,hx=>by
   cases hx with
   |agg hl hr=>
    have:=EN hD hs l _ ⟨hl,hr⟩;exact .agg this.1 this.2
 |.sO l,v,hx=>by
   cases hx with
   |sO hl hr=>
    have:=EN hD hs l _ ⟨hl,hr⟩;exact .sO this.1 this.2
 |.any,v,hx|.int _ _,v,hx|.bool _,v,hx|.str _,v,hx|.vP,v,hx|.jf,v,hx|.ep _ _ _ _,v,hx|.bY _ _,v,hx|.rp _ _ _,v,hx|.np _,v,hx|.opt _ _ _,v,hx=>by
   simp only[VL];exact hx.mono (fun _ h=>.inl h) (fun _ _=>rfl) (fun _ _ h=>h)
theorem EN(hD:dX D)(hs:aP D ρ S w H):∀(l:List (AV K))(vs:List Value),ed D ρ S w l vs->ed D ρ (fun b=>S b\/Own D w ρ H b) w (VM D H l) vs
 |[],vs,h=>by rw[h.Jb];exact .nil
 |x::r,vs,h=>by
  obtain⟨u,t,rfl,h1,h2⟩:=h.wX;exact .cons (aqI hD hs x u h1) (EN hD hs r t h2)
end
mutual
theorem aBD:∀(x:AV K),ajj x=false->VL D H x=x
 |.sl h,hx=>by simp[ajj]at hx
 |.ptr h o,hx=>by simp[ajj]at hx
 |.np h,hx=>by simp[ajj]at hx
 |.vw _ _ _ _,hx=>by simp[ajj]at hx
 |.fn g l,hx=>by simp only[VL];rw[Iq l (by simpa [ajj]using hx)]
 |.agg l,hx=>by simp only[VL];rw[Iq l (by simpa [ajj]using hx)]
 |.sO l,hx=>by simp only[VL];rw[Iq l (by simpa [ajj]using hx)]
 |.any,hx|.int _ _,hx|.bool _,hx|.str _,hx|.vP,hx|.jf,hx|.ep _ _ _ _,hx|.bY _ _,hx|.rp _ _ _,hx|.opt _ _ _,hx=>rfl
theorem Iq:∀(l:List (AV K)),agY l=false->VM D H l=l
 |[],_=>rfl
 |x::r,h=>by
  simp only[agY,alf]at h;simp only[VM];rw[aBD x h.1,Iq r h.2]
end
mutual
theorem WJ:∀(x:AV K)(v:Value),x.closed=true->qA x=false->Rep D ρ S w x v->Rep D ρ' S' w' x v
 |.any,v,_,_,h=>.any _
 |.int _ _,v,_,_,h=>by rw[jW h];exact .int _ _
 |.bool _,v,_,_,h=>by rw[uk h];exact .bool _
 |.str _,v,_,_,h=>by rw[qX h];exact .str _
 |.vP,v,_,_,h=>by cases h;exact .vP
 |.jf,v,_,_,h=>by cases h;exact .jf
 |.fn f l,v,hc,hr,h=>by
   cases h with
   |fn hl hh=>
    have:=Jg l _ (by simpa [AV.closed]using hc) (by simpa [qA]using hr) ⟨hl,hh⟩;exact .fn this.1 this.2
 |.agg l,v,hc,hr,h=>by
   cases h with
   |agg hl hh=>
    have:=Jg l _ (by simpa [AV.closed]using hc) (by simpa [qA]using hr) ⟨hl,hh⟩;exact .agg this.1 this.2
 |.sO l,v,hc,hr,h=>by
   cases h with
   |sO hl hh=>
    have:=Jg l _ (by simpa [AV.closed]using hc) (by simpa [qA]using hr) ⟨hl,hh⟩;exact .sO this.1 this.2
 |.np _,v,hc,_,_|.vw _ _ _ _,v,hc,_,_|.ptr _ _,v,hc,_,_|.sl _,v,hc,_,_|.ep _ _ _ _,v,hc,_,_|.opt _ _ _,v,hc,_,_=>by simp[AV.closed]at hc
 |.bY _ _,v,_,hr,_|.rp _ _ _,v,_,hr,_=>by simp[qA]at hr
theorem Jg:∀(l:List (AV K))(vs:List Value),nD l=true->dK l=false->ed D ρ S w l vs->ed D ρ' S' w' l vs
 |[],vs,_,_,h=>by rw[h.Jb];exact .nil
 |x::r,vs,hc,hr,h=>by
  simp only[nD,lS]at hc;simp only[dK,alf]at hr;obtain⟨u,t,rfl,h1,h2⟩:=h.wX;exact .cons (WJ x u hc.1 hr.1 h1) (Jg r t hc.2 hr.2 h2)
end
def Ren(f:Nat->Option Nat)(ρ ρ':List Value):Prop:=∀(i j:Nat)(r:Value),f i=some j->ρ[i]?=some r->ρ'[j]?=some r
mutual
theorem EO(hD:dX D){f:Nat->Option Nat}(hm:Ren f ρ ρ'):∀(x x':AV K)(v:Value),reH f x=some x'->Rep D ρ S w x v->Rep D ρ' S w x' v
 |.ptr h o,x',v,hb,hx=>by
   simp only[reH,Fg]at hb;obtain⟨j,hj,rfl⟩:=hb;obtain⟨b,rfl,hp⟩:=ac5 hx;exact .ptr (hm _ _ _ hj hp)
 |.vw h st lo hi,x',v,hb,hx=>by
   simp only[reH,Fg]at hb;obtain⟨j,hj,rfl⟩:=hb;cases hx with
   |vw hp h1 h2 ha=>exact .vw (hm _ _ _ hj hp) h1 h2 ha
 |.np h,x',v,hb,hx=>by
   simp only[reH,Fg]at hb;obtain⟨j,hj,rfl⟩:=hb;cases hx with
   |np0=>exact .np0
   |np hp=>exact .np (hm _ _ _ hj hp)
 |.sl h,x',v,hb,hx=>by
   simp only[reH,Fg]at hb;obtain⟨j,hj,rfl⟩:=hb;obtain⟨hp,a,n,c,rfl⟩:=Eu hx;exact .sl (hm _ _ _ hj hp)
 |.ep h s i o,x',v,hb,hx=>by
   simp only[reH,Fg]at hb;obtain⟨j,hj,rfl⟩:=hb;obtain⟨b,o',n,c,rfl,hp,hi⟩:=SH hx;exact .ep (hm _ _ _ hj hp) hi
 |.fn g l,x',v,hb,hx=>by
   simp only[reH,Fg]at hb;obtain⟨l',hl',rfl⟩:=hb;cases hx with
   |fn hl hh=>
    have:=Io hD hm l l' _ hl' ⟨hl,hh⟩;exact .fn this.1 this.2
 |.agg l,x',v,hb,hx=>by
   simp only[reH,Fg]at hb;obtain⟨l',hl',rfl⟩:=hb;cases hx with
   |agg hl hh=>
    have:=Io hD hm l l' _ hl' ⟨hl,hh⟩;exact .agg this.1 this.2
 |.sO l,x',v,hb,hx=>by
   simp only[reH,Fg]at hb;obtain⟨l',hl',rfl⟩:=hb;cases hx with
   |sO hl hh=>
    have:=Io hD hm l l' _ hl' ⟨hl,hh⟩;exact .sO this.1 this.2
 |.opt _ _ _,x',v,hb,hx=>by simp[reH]at hb
 |.any,x',v,hb,hx=>by simp only[reH,dS]at hb;subst hb;exact .any _
 |.int _ _,x',v,hb,hx=>by simp only[reH,dS]at hb;subst hb;rw[jW hx];exact .int _ _
 |.bool _,x',v,hb,hx=>by simp only[reH,dS]at hb;subst hb;rw[uk hx];exact .bool _
 |.str _,x',v,hb,hx=>by simp only[reH,dS]at hb;subst hb;rw[qX hx];exact .str _
 |.vP,x',v,hb,hx=>by simp only[reH,dS]at hb;subst hb;cases hx;exact .vP
 |.jf,x',v,hb,hx=>by simp only[reH,dS]at hb;subst hb;cases hx;exact .jf
 |.bY c l,x',v,hb,hx=>by simp only[reH,dS]at hb;subst hb;exact hx.closed hD rfl
 |.rp c y o,x',v,hb,hx=>by simp only[reH,dS]at hb;subst hb;exact hx.closed hD rfl
theorem Io(hD:dX D){f:Nat->Option Nat}(hm:Ren f ρ ρ'):∀(l l':List (AV K))(vs:List Value),YT f l=some l'->ed D ρ S w l vs->ed D ρ' S w l' vs
 |[],l',vs,hb,h=>by simp only[YT,dS]at hb;subst hb;rw[h.Jb];exact .nil
 |x::r,l',vs,hb,h=>by
  simp only[YT]at hb;split at hb
  ·rename_i x1 r1 hx1 hr1;simp only[dS]at hb;subst hb;obtain⟨u,t,rfl,h1,h2⟩:=h.wX;exact .cons (EO hD hm x x1 u hx1 h1) (Io hD hm r r1 t hr1 h2)
  ·cases hb
end
end Go.V
