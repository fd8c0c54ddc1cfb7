/-
  CODES THAT ARE LISTS OF CELLS: how a struct lies in cells, by the shapes of its cells.
-/
import Derived.Test.YtiacpoahkccfaaaGreatDoorXWfun
set_option linter.unusedVariables false
namespace Go.V
open Go
variable {K :dh}{D:bF K}{ρ ρ':List Value}{S S':Nat->Prop}{w w':World}
def Sh.flat:Sh K->Bool
 |.int _|.bool|.str|.an _=>true
 |_=>false
def ff:List (Sh K)->Bool
 |[]=>true
 |s::r=>s.flat&&ff r
def D0(K:dh):bF K:={cells:=fun _ _=>[],dec:=fun _ _=>none,byte:=fun _=>none,find:=fun _=>none}
def N2(cs:K.U->List (Sh K)):List K.U->List (AV K)->Option K.U
 |[],_=>none
 |c::r,l=>match Sh.eg (D0 K) (cs c) l with
  |some _=>some c
  |none=>N2 cs r l
def IC(cs:K.U->List (Sh K))(mk:(c:K.U)->Sh.Ts (cs c)->K.El c×Bool)(un:(c:K.U)->K.El c->Sh.Ts (cs c))(byte:(c:K.U)->Option ((K.El c->UInt8)×(UInt8->K.El c)))(codes:List K.U)(base:Base:=Base.N3)(qb:Option TypeId:=none)(mx:K.U->Option TypeId:=fun _=>none):bF K:={
 base:=base
 qb:=qb
 mx:=mx
 cells c x:=Sh.encs (D0 K) (cs c) (un c x)
 dec c l:=match Sh.eg (D0 K) (cs c) l with
  |some y=>some (mk c y)
  |none=>none
 byte:=byte
 find l:=N2 cs codes l}
theorem adx{c:K.U}{v:AV K}{l:List (K.El c)}(h:elems [] c v=some l){u:Value}(hr:Rep D ρ S w v u):Rep D ρ S w (.an c l) u:=by
 unfold elems at h;split at h
 ·simp only[ay]at h;subst h;cases hr;exact .fj _ _
 ·split at h
  ·rename_i he _;subst he;simp only[ay]at h;subst h;exact hr
  ·cases h
 ·simp at h
 ·cases h
theorem N4:∀(l:List (Sh K))(vs:List (AV K))(x:Sh.Ts l),ff l=true->Sh.eg (D0 K) l vs=some x->∀us,bc D ρ S w vs us->bc D ρ S w (Sh.encs (D0 K) l x) us
 |[],vs,x,hf,h,us,hr=>by
   cases vs with
   |nil=>exact hr
   |cons v r=>unfold Sh.eg at h;cases h
 |s::r,vs,x,hf,h,us,hr=>by
  simp only[ff,cC]at hf;cases vs with
  |nil=>unfold Sh.eg at h;cases h
  |cons v l=>
   unfold Sh.eg at h;split at h
   ·rename_i a b h1 h2;have h:=iP h;subst h;obtain⟨u,t,rfl,g1,g2⟩:=hr.gB;refine .cons ?_ (N4 r l b hf.2 h2 t g2);cases s<;>simp only[Sh.flat]at hf<;>first|(exact absurd hf.1 uD)|skip
    ·rw[AV.ID h1]at g1;exact g1
    ·rw[AV.IE h1]at g1;exact g1
    ·rw[AV.IF h1]at g1;exact g1
    ·exact adx h1 g1
   ·cases h
theorem IG:∀(l:List (Sh K))(x:Sh.Ts l),ff l=true->ia (Sh.encs (D0 K) l x)=true/\(Sh.encs (D0 K) l x).all AV.one=true
 |[],x,hf=>⟨rfl,rfl⟩
 |s::r,x,hf=>by
  simp only[ff,cC]at hf;obtain⟨h1,h2⟩:=IG r x.2 hf.2;simp only[Sh.encs,ia,DI,cC];refine⟨⟨?_,h1⟩,?_,h2⟩<;>(cases s<;>simp only[Sh.flat]at hf<;>first|(exact absurd hf.1 uD)|rfl)
theorem N5:∀(l:List (Sh K))(x y:Sh.Ts l),ff l=true->eN (Sh.encs (D0 K) l x)=eN (Sh.encs (D0 K) l y)
 |[],x,y,hf=>rfl
 |s::r,x,y,hf=>by
  simp only[ff,cC]at hf;simp only[Sh.encs,eN];rw[N5 r x.2 y.2 hf.2];congr 1;cases s<;>simp only[Sh.flat]at hf<;>first|(exact absurd hf.1 uD)|rfl
theorem N6:∀(l:List (Sh K))(x:Sh.Ts l),ff l=true->∀(j:Nat) v,(Sh.encs (D0 K) l x)[j]?=some v->v≠.dn/\(v.l4=false->iM v=false)
 |[],x,hf,j,v,h=>by simp[Sh.encs]at h
 |s::r,x,hf,j,v,h=>by
  simp only[ff,cC]at hf;cases j with
  |zero=>
   simp[Sh.encs]at h;subst h;cases s<;>simp only[Sh.flat]at hf<;>first|(exact absurd hf.1 uD)|exact⟨fun e=>(by cases e),fun _=>rfl⟩|exact⟨fun e=>(by cases e),fun e=>by cases e⟩
  |succ j=>exact N6 r x.2 hf.2 j v (by simpa [Sh.encs]using h)
theorem ady{c:K.U}{v:AV K}{l:List (K.El c)}(h:elems [] c v=some l):v=.an c l\/(v=.dn/\l=[]):=by
 unfold elems at h;split at h
 ·simp only[ay]at h;exact .inr ⟨rfl,h.symm⟩
 ·split at h
  ·rename_i he _;subst he;simp only[ay]at h;subst h;exact .inl rfl
  ·cases h
 ·simp at h
 ·cases h
theorem N7:∀(l:List (Sh K))(vs:List (AV K))(x:Sh.Ts l),ff l=true->Sh.eg (D0 K) l vs=some x->vs.length=l.length/\∀(j:Nat) v v',vs[j]?=some v->(Sh.encs (D0 K) l x)[j]?=some v'->v'=v\/(v=.dn/\∃c',v'=.an c' [])
 |[],vs,x,hf,h=>by
   cases vs with
   |nil=>exact⟨rfl,fun j v v' h=>by simp at h⟩
   |cons v r=>unfold Sh.eg at h;cases h
 |s::r,vs,x,hf,h=>by
  simp only[ff,cC]at hf;cases vs with
  |nil=>unfold Sh.eg at h;cases h
  |cons v l=>
   unfold Sh.eg at h;split at h
   ·rename_i a b h1 h2;have h:=iP h;subst h;obtain⟨g1,g2⟩:=N7 r l b hf.2 h2;refine⟨by simp[g1],fun j u u' hu hu'=>?_⟩;cases j with
    |zero=>
     simp[Sh.encs]at hu hu';subst hu;subst hu';cases s<;>simp only[Sh.flat]at hf<;>first|(exact absurd hf.1 uD)|skip
     ·exact .inl (AV.ID h1).symm
     ·exact .inl (AV.IE h1).symm
     ·exact .inl (AV.IF h1).symm
     ·rcases ady h1 with h|⟨h,e⟩
      ·exact .inl h.symm
      ·exact .inr ⟨h,_,by rw[e];rfl⟩
    |succ j=>exact g2 j u u' (by simpa using hu) (by simpa [Sh.encs]using hu')
   ·cases h
theorem adz{codes:List K.U}{base:Base}{qb:Option TypeId}{mx:K.U->Option TypeId}{cs:K.U->List (Sh K)}{mk:(c:K.U)->Sh.Ts (cs c)->K.El c×Bool}{un:(c:K.U)->K.El c->Sh.Ts (cs c)}{byte:(c:K.U)->Option ((K.El c->UInt8)×(UInt8->K.El c))}
 (hf:∀c,ff (cs c)=true) (hl:∀c,(cs c).length=K.sz c) (hu:∀c y x,mk c y=(x,true)->un c x=y) (hb:∀c f g,byte c=some (f,g)->(∀x,Sh.encs (D0 K) (cs c) (un c x)=[.int .u8 ((f x).toNat:Int)])/\∀b,f (g b)=b):bQ (IC cs mk un byte codes base qb mx):={
 len c x:=by show(Sh.encs (D0 K) (cs c) (un c x)).length=_;rw[IH,hl]
 closed c x:=(IG _ _ (hf c)).1
 one c x:=(IG _ _ (hf c)).2
 dec c l x h:=fun ρ S w vs hr=>by
  change(match Sh.eg (D0 K) (cs c) l with
   |some y=>some (mk c y)
   |none=>none)=some (x,true)at h
  split at h
  ·rename_i y hy
   show bc _ ρ S w (Sh.encs (D0 K) (cs c) (un c x)) vs
   rw[hu c y x (iP h)];exact N4 _ _ _ (hf c) hy _ hr
  ·cases h
 byte:=hb
 flat c x:=N5 _ _ _ (hf c)
 kinds c x:=N6 _ _ (hf c)
 wB c l x h:=by
  change(match Sh.eg (D0 K) (cs c) l with
   |some y=>some (mk c y)
   |none=>none)=some (x,true)at h
  split at h
  ·rename_i y hy;obtain⟨g1,g2⟩:=N7 _ _ _ (hf c) hy;refine⟨by rw[g1,hl],fun j v v' h1 h2=>g2 j v v' h1 ?_⟩;change(Sh.encs (D0 K) (cs c) (un c x))[j]?=some v' at h2;rw[hu c y x (iP h)]at h2;exact h2
  ·cases h}
def rJ(n:Int):Bool:=decide (0<=n)&&decide (n<256)
def rK(n:Int):UInt8:=UInt8.ofNat n.toNat
theorem N8{n:Int×Unit}{x:UInt8}(h:(rK n.1,rJ n.1)=(x,true)):((x.toNat:Int),())=n:=by
 simp only[aR,rJ,cC,cz]at h;obtain⟨rfl,h0,h3⟩:=h;obtain⟨a,b⟩:=n;dsimp only at h0 h3⊢;have h1:a.toNat<256:=by omega
 have h2:((rK a).toNat:Int)=a:=by
  unfold rK;rw[UInt8.toNat_ofNat'];simp only[Nat.reducePow];rw[Nat.mod_eq_of_lt h1];omega
 rw[h2]
def dZ{α:Type _}:List (Nat×α)->Nat->Option α
 |[],_=>none
 |p::r,n=>cond (Nat.beq p.1 n) (some p.2) (dZ r n)
def eC{α:Type _}(d:α):List (Nat×α)->Nat->α
 |[],_=>d
 |p::r,n=>cond (Nat.beq p.1 n) p.2 (eC d r n)
end Go.V
