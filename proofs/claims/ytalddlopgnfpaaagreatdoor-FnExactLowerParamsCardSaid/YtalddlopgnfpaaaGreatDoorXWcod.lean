/-
  CODES THAT ARE LISTS OF CELLS: how a struct lies in cells, by the shapes of its cells.
-/
import Derived.Test.YtalddlopgnfpaaaGreatDoorXWfun
set_option linter.unusedVariables false
namespace Go.V
open Go
variable {K :cE}{D:bc K}{ρ ρ':List Value}{S S':Nat->Prop}{w w':World}
def Sh.flat:Sh K->Bool
 |.int _|.bool|.str|.aj _=>true
 |_=>false
def jN:List (Sh K)->Bool
 |[]=>true
 |s::r=>s.flat&&jN r
def D0(K:cE):bc K:={cells:=fun _ _=>[],dec:=fun _ _=>none,byte:=fun _=>none,find:=fun _=>none}
def Zw(cs:K.U->List (Sh K)):List K.U->List (AV K)->Option K.U
 |[],_=>none
 |c::r,l=>match Sh.dz (D0 K) (cs c) l with
  |some _=>some c
  |none=>Zw cs r l
def Y4(cs:K.U->List (Sh K))(mk:(c:K.U)->Sh.Ts (cs c)->K.El c×Bool)(un:(c:K.U)->K.El c->Sh.Ts (cs c))(byte:(c:K.U)->Option ((K.El c->UInt8)×(UInt8->K.El c)))(codes:List K.U)(base:Base:=Base.Zx)(qI:Option TypeId:=none)(mq:K.U->Option TypeId:=fun _=>none):bc K:={
 base:=base
 qI:=qI
 mq:=mq
 cells c x:=Sh.encs (D0 K) (cs c) (un c x)
 dec c l:=match Sh.dz (D0 K) (cs c) l with
  |some y=>some (mk c y)
  |none=>none
 byte:=byte
 find l:=Zw cs codes l}
theorem ann{c:K.U}{v:AV K}{l:List (K.El c)}(h:elems [] c v=some l){u:Value}(hr:Rep D ρ S w v u):Rep D ρ S w (.aj c l) u:=by
 unfold elems at h;split at h
 ·simp only[ar]at h;subst h;cases hr;exact .dU _ _
 ·split at h
  ·rename_i he _;subst he;simp only[ar]at h;subst h;exact hr
  ·cases h
 ·simp at h
 ·cases h
theorem Zy:∀(l:List (Sh K))(vs:List (AV K))(x:Sh.Ts l),jN l=true->Sh.dz (D0 K) l vs=some x->∀us,aS D ρ S w vs us->aS D ρ S w (Sh.encs (D0 K) l x) us
 |[],vs,x,hf,h,us,hr=>by
   cases vs with
   |nil=>exact hr
   |cons v r=>unfold Sh.dz at h;cases h
 |s::r,vs,x,hf,h,us,hr=>by
  simp only[jN,aZ]at hf;cases vs with
  |nil=>unfold Sh.dz at h;cases h
  |cons v l=>
   unfold Sh.dz at h;split at h
   ·rename_i a b h1 h2;have h:=ft h;subst h;obtain⟨u,t,rfl,g1,g2⟩:=hr.fX;refine .cons ?_ (Zy r l b hf.2 h2 t g2);cases s<;>simp only[Sh.flat]at hf<;>first|(exact absurd hf.1 vv)|skip
    ·rw[AV.LM h1]at g1;exact g1
    ·rw[AV.LN h1]at g1;exact g1
    ·rw[AV.LP h1]at g1;exact g1
    ·exact ann h1 g1
   ·cases h
theorem LQ:∀(l:List (Sh K))(x:Sh.Ts l),jN l=true->f0 (Sh.encs (D0 K) l x)=true/\(Sh.encs (D0 K) l x).all AV.one=true
 |[],x,hf=>⟨rfl,rfl⟩
 |s::r,x,hf=>by
  simp only[jN,aZ]at hf;obtain⟨h1,h2⟩:=LQ r x.2 hf.2;simp only[Sh.encs,f0,List.all_cons,aZ];refine⟨⟨?_,h1⟩,?_,h2⟩<;>(cases s<;>simp only[Sh.flat]at hf<;>first|(exact absurd hf.1 vv)|rfl)
theorem Zz:∀(l:List (Sh K))(x y:Sh.Ts l),jN l=true->dy (Sh.encs (D0 K) l x)=dy (Sh.encs (D0 K) l y)
 |[],x,y,hf=>rfl
 |s::r,x,y,hf=>by
  simp only[jN,aZ]at hf;simp only[Sh.encs,dy];rw[Zz r x.2 y.2 hf.2];congr 1;cases s<;>simp only[Sh.flat]at hf<;>first|(exact absurd hf.1 vv)|rfl
theorem ZA:∀(l:List (Sh K))(x:Sh.Ts l),jN l=true->∀(j:Nat) v,(Sh.encs (D0 K) l x)[j]?=some v->v≠.cB/\(v.lR=false->iy v=false)
 |[],x,hf,j,v,h=>by simp[Sh.encs]at h
 |s::r,x,hf,j,v,h=>by
  simp only[jN,aZ]at hf;cases j with
  |zero=>
   simp[Sh.encs]at h;subst h;cases s<;>simp only[Sh.flat]at hf<;>first|(exact absurd hf.1 vv)|exact⟨fun e=>(by cases e),fun _=>rfl⟩|exact⟨fun e=>(by cases e),fun e=>by cases e⟩
  |succ j=>exact ZA r x.2 hf.2 j v (by simpa [Sh.encs]using h)
theorem ano{c:K.U}{v:AV K}{l:List (K.El c)}(h:elems [] c v=some l):v=.aj c l\/(v=.cB/\l=[]):=by
 unfold elems at h;split at h
 ·simp only[ar]at h;exact .inr ⟨rfl,h.symm⟩
 ·split at h
  ·rename_i he _;subst he;simp only[ar]at h;subst h;exact .inl rfl
  ·cases h
 ·simp at h
 ·cases h
theorem ZB:∀(l:List (Sh K))(vs:List (AV K))(x:Sh.Ts l),jN l=true->Sh.dz (D0 K) l vs=some x->vs.length=l.length/\∀(j:Nat) v v',vs[j]?=some v->(Sh.encs (D0 K) l x)[j]?=some v'->v'=v\/(v=.cB/\∃c',v'=.aj c' [])
 |[],vs,x,hf,h=>by
   cases vs with
   |nil=>exact⟨rfl,fun j v v' h=>by simp at h⟩
   |cons v r=>unfold Sh.dz at h;cases h
 |s::r,vs,x,hf,h=>by
  simp only[jN,aZ]at hf;cases vs with
  |nil=>unfold Sh.dz at h;cases h
  |cons v l=>
   unfold Sh.dz at h;split at h
   ·rename_i a b h1 h2;have h:=ft h;subst h;obtain⟨g1,g2⟩:=ZB r l b hf.2 h2;refine⟨by simp[g1],fun j u u' hu hu'=>?_⟩;cases j with
    |zero=>
     simp[Sh.encs]at hu hu';subst hu;subst hu';cases s<;>simp only[Sh.flat]at hf<;>first|(exact absurd hf.1 vv)|skip
     ·exact .inl (AV.LM h1).symm
     ·exact .inl (AV.LN h1).symm
     ·exact .inl (AV.LP h1).symm
     ·rcases ano h1 with h|⟨h,e⟩
      ·exact .inl h.symm
      ·exact .inr ⟨h,_,by rw[e];rfl⟩
    |succ j=>exact g2 j u u' (by simpa using hu) (by simpa [Sh.encs]using hu')
   ·cases h
theorem amS{codes:List K.U}{base:Base}{qI:Option TypeId}{mq:K.U->Option TypeId}{cs:K.U->List (Sh K)}{mk:(c:K.U)->Sh.Ts (cs c)->K.El c×Bool}{un:(c:K.U)->K.El c->Sh.Ts (cs c)}{byte:(c:K.U)->Option ((K.El c->UInt8)×(UInt8->K.El c))}
 (hf:∀c,jN (cs c)=true) (hl:∀c,(cs c).length=K.sz c) (hu:∀c y x,mk c y=(x,true)->un c x=y) (hb:∀c f g,byte c=some (f,g)->(∀x,Sh.encs (D0 K) (cs c) (un c x)=[.int .u8 ((f x).toNat:Int)])/\∀b,f (g b)=b):bk (Y4 cs mk un byte codes base qI mq):={
 len c x:=by show(Sh.encs (D0 K) (cs c) (un c x)).length=_;rw[LR,hl]
 closed c x:=(LQ _ _ (hf c)).1
 one c x:=(LQ _ _ (hf c)).2
 dec c l x h:=fun ρ S w vs hr=>by
  change(match Sh.dz (D0 K) (cs c) l with
   |some y=>some (mk c y)
   |none=>none)=some (x,true)at h
  split at h
  ·rename_i y hy
   show aS _ ρ S w (Sh.encs (D0 K) (cs c) (un c x)) vs
   rw[hu c y x (ft h)];exact Zy _ _ _ (hf c) hy _ hr
  ·cases h
 byte:=hb
 flat c x:=Zz _ _ _ (hf c)
 kinds c x:=ZA _ _ (hf c)
 yQ c l x h:=by
  change(match Sh.dz (D0 K) (cs c) l with
   |some y=>some (mk c y)
   |none=>none)=some (x,true)at h
  split at h
  ·rename_i y hy;obtain⟨g1,g2⟩:=ZB _ _ _ (hf c) hy;refine⟨by rw[g1,hl],fun j v v' h1 h2=>g2 j v v' h1 ?_⟩;change(Sh.encs (D0 K) (cs c) (un c x))[j]?=some v' at h2;rw[hu c y x (ft h)]at h2;exact h2
  ·cases h}
def fH(n:Int):Bool:=decide (0<=n)&&decide (n<256)
def eA(n:Int):UInt8:=UInt8.ofNat n.toNat
theorem Y5{n:Int×Unit}{x:UInt8}(h:(eA n.1,fH n.1)=(x,true)):((x.toNat:Int),())=n:=by
 simp only[aH,fH,aZ,bh]at h;obtain⟨rfl,h0,h3⟩:=h;obtain⟨a,b⟩:=n;dsimp only at h0 h3⊢;have h1:a.toNat<256:=by omega
 have h2:((eA a).toNat:Int)=a:=by
  unfold eA;rw[UInt8.toNat_ofNat'];simp only[Nat.reducePow];rw[Nat.mod_eq_of_lt h1];omega
 rw[h2]
def aE{α:Type _}:List (Nat×α)->Nat->Option α
 |[],_=>none
 |p::r,n=>cond (Nat.beq p.1 n) (some p.2) (aE r n)
def aF{α:Type _}(d:α):List (Nat×α)->Nat->α
 |[],_=>d
 |p::r,n=>cond (Nat.beq p.1 n) p.2 (aF d r n)
end Go.V
