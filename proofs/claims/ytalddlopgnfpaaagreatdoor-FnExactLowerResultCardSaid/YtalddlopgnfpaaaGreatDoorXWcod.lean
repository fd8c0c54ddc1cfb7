/-
  CODES THAT ARE LISTS OF CELLS: how a struct lies in cells, by the shapes of its cells.
-/
import Derived.Test.YtalddlopgnfpaaaGreatDoorXWfun
set_option linter.unusedVariables false
namespace Go.V
open Go
variable {K :cJ}{D:ba K}{ρ ρ':List Value}{S S':Nat->Prop}{w w':World}
def Sh.flat:Sh K->Bool
 |.int _|.bool|.str|.an _=>true
 |_=>false
def jH:List (Sh K)->Bool
 |[]=>true
 |s::r=>s.flat&&jH r
def D0(K:cJ):ba K:={cells:=fun _ _=>[],dec:=fun _ _=>none,byte:=fun _=>none,find:=fun _=>none}
def XX(cs:K.U->List (Sh K)):List K.U->List (AV K)->Option K.U
 |[],_=>none
 |c::r,l=>match Sh.dy (D0 K) (cs c) l with
  |some _=>some c
  |none=>XX cs r l
def Xv(cs:K.U->List (Sh K))(mk:(c:K.U)->Sh.Ts (cs c)->K.El c×Bool)(un:(c:K.U)->K.El c->Sh.Ts (cs c))(byte:(c:K.U)->Option ((K.El c->UInt8)×(UInt8->K.El c)))(codes:List K.U)(base:Base:=Base.XY)(qw:Option TypeId:=none)(mn:K.U->Option TypeId:=fun _=>none):ba K:={
 base:=base
 qw:=qw
 mn:=mn
 cells c x:=Sh.encs (D0 K) (cs c) (un c x)
 dec c l:=match Sh.dy (D0 K) (cs c) l with
  |some y=>some (mk c y)
  |none=>none
 byte:=byte
 find l:=XX cs codes l}
theorem ak0{c:K.U}{v:AV K}{l:List (K.El c)}(h:elems [] c v=some l){u:Value}(hr:Rep D ρ S w v u):Rep D ρ S w (.an c l) u:=by
 unfold elems at h;split at h
 ·simp only[ar]at h;subst h;cases hr;exact .dS _ _
 ·split at h
  ·rename_i he _;subst he;simp only[ar]at h;subst h;exact hr
  ·cases h
 ·simp at h
 ·cases h
theorem XZ:∀(l:List (Sh K))(vs:List (AV K))(x:Sh.Ts l),jH l=true->Sh.dy (D0 K) l vs=some x->∀us,aQ D ρ S w vs us->aQ D ρ S w (Sh.encs (D0 K) l x) us
 |[],vs,x,hf,h,us,hr=>by
   cases vs with
   |nil=>exact hr
   |cons v r=>unfold Sh.dy at h;cases h
 |s::r,vs,x,hf,h,us,hr=>by
  simp only[jH,aW]at hf;cases vs with
  |nil=>unfold Sh.dy at h;cases h
  |cons v l=>
   unfold Sh.dy at h;split at h
   ·rename_i a b h1 h2;have h:=fe h;subst h;obtain⟨u,t,rfl,g1,g2⟩:=hr.fP;refine .cons ?_ (XZ r l b hf.2 h2 t g2);cases s<;>simp only[Sh.flat]at hf<;>first|(exact absurd hf.1 uX)|skip
    ·rw[AV.KD h1]at g1;exact g1
    ·rw[AV.KE h1]at g1;exact g1
    ·rw[AV.KF h1]at g1;exact g1
    ·exact ak0 h1 g1
   ·cases h
theorem KG:∀(l:List (Sh K))(x:Sh.Ts l),jH l=true->fS (Sh.encs (D0 K) l x)=true/\(Sh.encs (D0 K) l x).all AV.one=true
 |[],x,hf=>⟨rfl,rfl⟩
 |s::r,x,hf=>by
  simp only[jH,aW]at hf;obtain⟨h1,h2⟩:=KG r x.2 hf.2;simp only[Sh.encs,fS,List.all_cons,aW];refine⟨⟨?_,h1⟩,?_,h2⟩<;>(cases s<;>simp only[Sh.flat]at hf<;>first|(exact absurd hf.1 uX)|rfl)
theorem X0:∀(l:List (Sh K))(x y:Sh.Ts l),jH l=true->dw (Sh.encs (D0 K) l x)=dw (Sh.encs (D0 K) l y)
 |[],x,y,hf=>rfl
 |s::r,x,y,hf=>by
  simp only[jH,aW]at hf;simp only[Sh.encs,dw];rw[X0 r x.2 y.2 hf.2];congr 1;cases s<;>simp only[Sh.flat]at hf<;>first|(exact absurd hf.1 uX)|rfl
theorem X1:∀(l:List (Sh K))(x:Sh.Ts l),jH l=true->∀(j:Nat) v,(Sh.encs (D0 K) l x)[j]?=some v->v≠.cD/\(v.lN=false->ig v=false)
 |[],x,hf,j,v,h=>by simp[Sh.encs]at h
 |s::r,x,hf,j,v,h=>by
  simp only[jH,aW]at hf;cases j with
  |zero=>
   simp[Sh.encs]at h;subst h;cases s<;>simp only[Sh.flat]at hf<;>first|(exact absurd hf.1 uX)|exact⟨fun e=>(by cases e),fun _=>rfl⟩|exact⟨fun e=>(by cases e),fun e=>by cases e⟩
  |succ j=>exact X1 r x.2 hf.2 j v (by simpa [Sh.encs]using h)
theorem ak1{c:K.U}{v:AV K}{l:List (K.El c)}(h:elems [] c v=some l):v=.an c l\/(v=.cD/\l=[]):=by
 unfold elems at h;split at h
 ·simp only[ar]at h;exact .inr ⟨rfl,h.symm⟩
 ·split at h
  ·rename_i he _;subst he;simp only[ar]at h;subst h;exact .inl rfl
  ·cases h
 ·simp at h
 ·cases h
theorem X2:∀(l:List (Sh K))(vs:List (AV K))(x:Sh.Ts l),jH l=true->Sh.dy (D0 K) l vs=some x->vs.length=l.length/\∀(j:Nat) v v',vs[j]?=some v->(Sh.encs (D0 K) l x)[j]?=some v'->v'=v\/(v=.cD/\∃c',v'=.an c' [])
 |[],vs,x,hf,h=>by
   cases vs with
   |nil=>exact⟨rfl,fun j v v' h=>by simp at h⟩
   |cons v r=>unfold Sh.dy at h;cases h
 |s::r,vs,x,hf,h=>by
  simp only[jH,aW]at hf;cases vs with
  |nil=>unfold Sh.dy at h;cases h
  |cons v l=>
   unfold Sh.dy at h;split at h
   ·rename_i a b h1 h2;have h:=fe h;subst h;obtain⟨g1,g2⟩:=X2 r l b hf.2 h2;refine⟨by simp[g1],fun j u u' hu hu'=>?_⟩;cases j with
    |zero=>
     simp[Sh.encs]at hu hu';subst hu;subst hu';cases s<;>simp only[Sh.flat]at hf<;>first|(exact absurd hf.1 uX)|skip
     ·exact .inl (AV.KD h1).symm
     ·exact .inl (AV.KE h1).symm
     ·exact .inl (AV.KF h1).symm
     ·rcases ak1 h1 with h|⟨h,e⟩
      ·exact .inl h.symm
      ·exact .inr ⟨h,_,by rw[e];rfl⟩
    |succ j=>exact g2 j u u' (by simpa using hu) (by simpa [Sh.encs]using hu')
   ·cases h
theorem akw{codes:List K.U}{base:Base}{qw:Option TypeId}{mn:K.U->Option TypeId}{cs:K.U->List (Sh K)}{mk:(c:K.U)->Sh.Ts (cs c)->K.El c×Bool}{un:(c:K.U)->K.El c->Sh.Ts (cs c)}{byte:(c:K.U)->Option ((K.El c->UInt8)×(UInt8->K.El c))}
 (hf:∀c,jH (cs c)=true) (hl:∀c,(cs c).length=K.sz c) (hu:∀c y x,mk c y=(x,true)->un c x=y) (hb:∀c f g,byte c=some (f,g)->(∀x,Sh.encs (D0 K) (cs c) (un c x)=[.int .u8 ((f x).toNat:Int)])/\∀b,f (g b)=b):bn (Xv cs mk un byte codes base qw mn):={
 len c x:=by show(Sh.encs (D0 K) (cs c) (un c x)).length=_;rw[KH,hl]
 closed c x:=(KG _ _ (hf c)).1
 one c x:=(KG _ _ (hf c)).2
 dec c l x h:=fun ρ S w vs hr=>by
  change(match Sh.dy (D0 K) (cs c) l with
   |some y=>some (mk c y)
   |none=>none)=some (x,true)at h
  split at h
  ·rename_i y hy
   show aQ _ ρ S w (Sh.encs (D0 K) (cs c) (un c x)) vs
   rw[hu c y x (fe h)];exact XZ _ _ _ (hf c) hy _ hr
  ·cases h
 byte:=hb
 flat c x:=X0 _ _ _ (hf c)
 kinds c x:=X1 _ _ (hf c)
 yi c l x h:=by
  change(match Sh.dy (D0 K) (cs c) l with
   |some y=>some (mk c y)
   |none=>none)=some (x,true)at h
  split at h
  ·rename_i y hy;obtain⟨g1,g2⟩:=X2 _ _ _ (hf c) hy;refine⟨by rw[g1,hl],fun j v v' h1 h2=>g2 j v v' h1 ?_⟩;change(Sh.encs (D0 K) (cs c) (un c x))[j]?=some v' at h2;rw[hu c y x (fe h)]at h2;exact h2
  ·cases h}
def fB(n:Int):Bool:=decide (0<=n)&&decide (n<256)
def eu(n:Int):UInt8:=UInt8.ofNat n.toNat
theorem Xw{n:Int×Unit}{x:UInt8}(h:(eu n.1,fB n.1)=(x,true)):((x.toNat:Int),())=n:=by
 simp only[aE,fB,aW,bm]at h;obtain⟨rfl,h0,h3⟩:=h;obtain⟨a,b⟩:=n;dsimp only at h0 h3⊢;have h1:a.toNat<256:=by omega
 have h2:((eu a).toNat:Int)=a:=by
  unfold eu;rw[UInt8.toNat_ofNat'];simp only[Nat.reducePow];rw[Nat.mod_eq_of_lt h1];omega
 rw[h2]
def aF{α:Type _}:List (Nat×α)->Nat->Option α
 |[],_=>none
 |p::r,n=>cond (Nat.beq p.1 n) (some p.2) (aF r n)
def aG{α:Type _}(d:α):List (Nat×α)->Nat->α
 |[],_=>d
 |p::r,n=>cond (Nat.beq p.1 n) p.2 (aG d r n)
end Go.V
