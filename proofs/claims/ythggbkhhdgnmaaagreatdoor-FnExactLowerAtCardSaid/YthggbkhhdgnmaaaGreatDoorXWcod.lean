/-
  CODES THAT ARE LISTS OF CELLS: how a struct lies in cells, by the shapes of its cells.
-/
import Derived.Test.YthggbkhhdgnmaaaGreatDoorXWfun
set_option linter.unusedVariables false
namespace Go.V
open Go
variable{K :dt}{D:bN K}{ρ ρ':List Value}{S S':Nat->Prop}{w w':World}
def Sh.flat:Sh K->Bool
 |.int _|.bool|.str|.ah _=>true
 |_=>false
def jQ:List (Sh K)->Bool
 |[]=>true
 |s::r=>s.flat&&jQ r
def D0(K:dt):bN K:={cells:=fun _ _=>[],dec:=fun _ _=>none,byte:=fun _=>none,find:=fun _=>none}
def ajz(cs:K.U->List (Sh K)):List K.U->List (AV K)->Option K.U
 |[],_=>none
 |c::r,l=>match Sh.ej (D0 K) (cs c) l with
  |some _=>some c
  |none=>ajz cs r l
def Ot(cs:K.U->List (Sh K))(mk:(c:K.U)->Sh.Ts (cs c)->K.El c×Bool)(un:(c:K.U)->K.El c->Sh.Ts (cs c))(byte:(c:K.U)->Option ((K.El c->UInt8)×(UInt8->K.El c)))(codes:List K.U)(base:Base:=Base.ajA)(qJ:Option TypeId:=none)(mF:K.U->Option TypeId:=fun _=>none):bN K:={
 base:=base
 qJ:=qJ
 mF:=mF
 cells c x:=Sh.encs (D0 K) (cs c) (un c x)
 dec c l:=match Sh.ej (D0 K) (cs c) l with
  |some y=>some (mk c y)
  |none=>none
 byte:=byte
 find l:=ajz cs codes l}
theorem aAN{c:K.U}{v:AV K}{l:List (K.El c)}(h:elems [] c v=some l){u:Value}(hr:Rep D ρ S w v u):Rep D ρ S w (.ah c l) u:=by
 unfold elems at h;split at h
 ·simp only[aA]at h;subst h;cases hr;exact .fw _ _
 ·split at h
  ·rename_i he _;subst he;simp only[aA]at h;subst h;exact hr
  ·cases h
 ·simp at h
 ·cases h
theorem ajB:∀(l:List (Sh K))(vs:List (AV K))(x:Sh.Ts l),jQ l=true->Sh.ej (D0 K) l vs=some x->∀us,bG D ρ S w vs us->bG D ρ S w (Sh.encs (D0 K) l x) us
 |[],vs,x,hf,h,us,hr=>by
   cases vs with
   |nil=>exact hr
   |cons v r=>unfold Sh.ej at h;cases h
 |s::r,vs,x,hf,h,us,hr=>by
  simp only[jQ,bJ]at hf;cases vs with
  |nil=>unfold Sh.ej at h;cases h
  |cons v l=>
   unfold Sh.ej at h;split at h
   ·rename_i a b h1 h2;have h:=ig h;subst h;obtain⟨u,t,rfl,g1,g2⟩:=hr.ij;refine .cons ?_ (ajB r l b hf.2 h2 t g2);cases s<;>simp only[Sh.flat]at hf<;>first|(exact absurd hf.1 wO)|skip
    ·rw[AV.PM h1]at g1;exact g1
    ·rw[AV.PN h1]at g1;exact g1
    ·rw[AV.PO h1]at g1;exact g1
    ·exact aAN h1 g1
   ·cases h
theorem PQ:∀(l:List (Sh K))(x:Sh.Ts l),jQ l=true->gY (Sh.encs (D0 K) l x)=true/\(Sh.encs (D0 K) l x).all AV.one=true
 |[],x,hf=>⟨rfl,rfl⟩
 |s::r,x,hf=>by
  simp only[jQ,bJ]at hf;obtain⟨h1,h2⟩:=PQ r x.2 hf.2;simp only[Sh.encs,gY,kD,bJ];refine⟨⟨?_,h1⟩,?_,h2⟩<;>(cases s<;>simp only[Sh.flat]at hf<;>first|(exact absurd hf.1 wO)|rfl)
theorem ajC:∀(l:List (Sh K))(x y:Sh.Ts l),jQ l=true->cQ (Sh.encs (D0 K) l x)=cQ (Sh.encs (D0 K) l y)
 |[],x,y,hf=>rfl
 |s::r,x,y,hf=>by
  simp only[jQ,bJ]at hf;simp only[Sh.encs,cQ];rw[ajC r x.2 y.2 hf.2];congr 1;cases s<;>simp only[Sh.flat]at hf<;>first|(exact absurd hf.1 wO)|rfl
theorem ajD:∀(l:List (Sh K))(x:Sh.Ts l),jQ l=true->∀(j:Nat) v,(Sh.encs (D0 K) l x)[j]?=some v->v≠.dk/\(v.lW=false->iF v=false)
 |[],x,hf,j,v,h=>by simp[Sh.encs]at h
 |s::r,x,hf,j,v,h=>by
  simp only[jQ,bJ]at hf;cases j with
  |zero=>
   simp[Sh.encs]at h;subst h;cases s<;>simp only[Sh.flat]at hf<;>first|(exact absurd hf.1 wO)|exact⟨fun e=>(by cases e),fun _=>rfl⟩|exact⟨fun e=>(by cases e),fun e=>by cases e⟩
  |succ j=>exact ajD r x.2 hf.2 j v (by simpa [Sh.encs]using h)
theorem aAO{c:K.U}{v:AV K}{l:List (K.El c)}(h:elems [] c v=some l):v=.ah c l\/(v=.dk/\l=[]):=by
 unfold elems at h;split at h
 ·simp only[aA]at h;exact .inr ⟨rfl,h.symm⟩
 ·split at h
  ·rename_i he _;subst he;simp only[aA]at h;subst h;exact .inl rfl
  ·cases h
 ·simp at h
 ·cases h
theorem ajE:∀(l:List (Sh K))(vs:List (AV K))(x:Sh.Ts l),jQ l=true->Sh.ej (D0 K) l vs=some x->vs.length=l.length/\∀(j:Nat) v v',vs[j]?=some v->(Sh.encs (D0 K) l x)[j]?=some v'->v'=v\/(v=.dk/\∃c',v'=.ah c' [])
 |[],vs,x,hf,h=>by
   cases vs with
   |nil=>exact⟨rfl,fun j v v' h=>by simp at h⟩
   |cons v r=>unfold Sh.ej at h;cases h
 |s::r,vs,x,hf,h=>by
  simp only[jQ,bJ]at hf;cases vs with
  |nil=>unfold Sh.ej at h;cases h
  |cons v l=>
   unfold Sh.ej at h;split at h
   ·rename_i a b h1 h2;have h:=ig h;subst h;obtain⟨g1,g2⟩:=ajE r l b hf.2 h2;refine⟨by simp[g1],fun j u u' hu hu'=>?_⟩;cases j with
    |zero=>
     simp[Sh.encs]at hu hu';subst hu;subst hu';cases s<;>simp only[Sh.flat]at hf<;>first|(exact absurd hf.1 wO)|skip
     ·exact .inl (AV.PM h1).symm
     ·exact .inl (AV.PN h1).symm
     ·exact .inl (AV.PO h1).symm
     ·rcases aAO h1 with h|⟨h,e⟩
      ·exact .inl h.symm
      ·exact .inr ⟨h,_,by rw[e];rfl⟩
    |succ j=>exact g2 j u u' (by simpa using hu) (by simpa [Sh.encs]using hu')
   ·cases h
theorem azD{codes:List K.U}{base:Base}{qJ:Option TypeId}{mF:K.U->Option TypeId}{cs:K.U->List (Sh K)}{mk:(c:K.U)->Sh.Ts (cs c)->K.El c×Bool}{un:(c:K.U)->K.El c->Sh.Ts (cs c)}{byte:(c:K.U)->Option ((K.El c->UInt8)×(UInt8->K.El c))}
 (hf:∀c,jQ (cs c)=true) (hl:∀c,(cs c).length=K.sz c) (hu:∀c y x,mk c y=(x,true)->un c x=y) (hb:∀c f g,byte c=some (f,g)->(∀x,Sh.encs (D0 K) (cs c) (un c x)=[.int .u8 ((f x).toNat:Int)])/\∀b,f (g b)=b):bY (Ot cs mk un byte codes base qJ mF):={
 len c x:=by show(Sh.encs (D0 K) (cs c) (un c x)).length=_;rw[PR,hl]
 closed c x:=(PQ _ _ (hf c)).1
 one c x:=(PQ _ _ (hf c)).2
 dec c l x h:=fun ρ S w vs hr=>by
  change(match Sh.ej (D0 K) (cs c) l with
   |some y=>some (mk c y)
   |none=>none)=some (x,true)at h
  split at h
  ·rename_i y hy
   show bG _ ρ S w (Sh.encs (D0 K) (cs c) (un c x)) vs
   rw[hu c y x (ig h)];exact ajB _ _ _ (hf c) hy _ hr
  ·cases h
 byte:=hb
 flat c x:=ajC _ _ _ (hf c)
 kinds c x:=ajD _ _ (hf c)
 zn c l x h:=by
  change(match Sh.ej (D0 K) (cs c) l with
   |some y=>some (mk c y)
   |none=>none)=some (x,true)at h
  split at h
  ·rename_i y hy;obtain⟨g1,g2⟩:=ajE _ _ _ (hf c) hy;refine⟨by rw[g1,hl],fun j v v' h1 h2=>g2 j v v' h1 ?_⟩;change(Sh.encs (D0 K) (cs c) (un c x))[j]?=some v' at h2;rw[hu c y x (ig h)]at h2;exact h2
  ·cases h}
def m8(n:Int):Bool:=decide (0<=n)&&decide (n<256)
def pe(n:Int):UInt8:=UInt8.ofNat n.toNat
theorem aiC{n:Int×Unit}{x:UInt8}(h:(pe n.1,m8 n.1)=(x,true)):((x.toNat:Int),())=n:=by
 simp only[aV,m8,bJ,bu]at h;obtain⟨rfl,h0,h3⟩:=h;obtain⟨a,b⟩:=n;dsimp only at h0 h3⊢;have h1:a.toNat<256:=by omega
 have h2:((pe a).toNat:Int)=a:=by
  unfold pe;rw[UInt8.toNat_ofNat'];simp only[Nat.reducePow];rw[Nat.mod_eq_of_lt h1];omega
 rw[h2]
def cP{α:Type _}:List (Nat×α)->Nat->Option α
 |[],_=>none
 |p::r,n=>cond (Nat.beq p.1 n) (some p.2) (cP r n)
def cV{α:Type _}(d:α):List (Nat×α)->Nat->α
 |[],_=>d
 |p::r,n=>cond (Nat.beq p.1 n) p.2 (cV d r n)
end Go.V
