/-
  CODES THAT ARE LISTS OF CELLS: how a struct lies in cells, by the shapes of its cells.
-/
import Derived.Test.YtalddlopgnfpaaaGreatDoorXWfun
set_option linter.unusedVariables false
namespace Go.V
open Go
variable {K :cy}{D:aY K}{ρ ρ':List Value}{S S':Nat->Prop}{w w':World}
def Sh.flat:Sh K->Bool
 |.int _|.bool|.str|.ar _=>true
 |_=>false
def i3:List (Sh K)->Bool
 |[]=>true
 |s::r=>s.flat&&i3 r
def D0(K:cy):aY K:={cells:=fun _ _=>[],dec:=fun _ _=>none,byte:=fun _=>none,find:=fun _=>none}
def Tn(cs:K.U->List (Sh K)):List K.U->List (AV K)->Option K.U
 |[],_=>none
 |c::r,l=>match Sh.df (D0 K) (cs c) l with
  |some _=>some c
  |none=>Tn cs r l
def SH(cs:K.U->List (Sh K))(mk:(c:K.U)->Sh.Ts (cs c)->K.El c×Bool)(un:(c:K.U)->K.El c->Sh.Ts (cs c))(byte:(c:K.U)->Option ((K.El c->UInt8)×(UInt8->K.El c)))(codes:List K.U)(base:Base:=Base.To)(oO:Option TypeId:=none)(kN:K.U->Option TypeId:=fun _=>none):aY K:={
 base:=base
 oO:=oO
 kN:=kN
 cells c x:=Sh.encs (D0 K) (cs c) (un c x)
 dec c l:=match Sh.df (D0 K) (cs c) l with
  |some y=>some (mk c y)
  |none=>none
 byte:=byte
 find l:=Tn cs codes l}
theorem afV{c:K.U}{v:AV K}{l:List (K.El c)}(h:elems [] c v=some l){u:Value}(hr:Rep D ρ S w v u):Rep D ρ S w (.ar c l) u:=by
 unfold elems at h;split at h
 ·simp only[ak]at h;subst h;cases hr;exact .dC _ _
 ·split at h
  ·rename_i he _;subst he;simp only[ak]at h;subst h;exact hr
  ·cases h
 ·simp at h
 ·cases h
theorem Tq:∀(l:List (Sh K))(vs:List (AV K))(x:Sh.Ts l),i3 l=true->Sh.df (D0 K) l vs=some x->∀us,aP D ρ S w vs us->aP D ρ S w (Sh.encs (D0 K) l x) us
 |[],vs,x,hf,h,us,hr=>by
   cases vs with
   |nil=>exact hr
   |cons v r=>unfold Sh.df at h;cases h
 |s::r,vs,x,hf,h,us,hr=>by
  simp only[i3,aU]at hf;cases vs with
  |nil=>unfold Sh.df at h;cases h
  |cons v l=>
   unfold Sh.df at h;split at h
   ·rename_i a b h1 h2;have h:=eE h;subst h;obtain⟨u,t,rfl,g1,g2⟩:=hr.fc;refine .cons ?_ (Tq r l b hf.2 h2 t g2);cases s<;>simp only[Sh.flat]at hf<;>first|(exact absurd hf.1 sD)|skip
    ·rw[AV.HA h1]at g1;exact g1
    ·rw[AV.HB h1]at g1;exact g1
    ·rw[AV.HC h1]at g1;exact g1
    ·exact afV h1 g1
   ·cases h
theorem HD:∀(l:List (Sh K))(x:Sh.Ts l),i3 l=true->fj (Sh.encs (D0 K) l x)=true/\(Sh.encs (D0 K) l x).all AV.one=true
 |[],x,hf=>⟨rfl,rfl⟩
 |s::r,x,hf=>by
  simp only[i3,aU]at hf;obtain⟨h1,h2⟩:=HD r x.2 hf.2;simp only[Sh.encs,fj,List.all_cons,aU];refine⟨⟨?_,h1⟩,?_,h2⟩<;>(cases s<;>simp only[Sh.flat]at hf<;>first|(exact absurd hf.1 sD)|rfl)
theorem Tt:∀(l:List (Sh K))(x y:Sh.Ts l),i3 l=true->dh (Sh.encs (D0 K) l x)=dh (Sh.encs (D0 K) l y)
 |[],x,y,hf=>rfl
 |s::r,x,y,hf=>by
  simp only[i3,aU]at hf;simp only[Sh.encs,dh];rw[Tt r x.2 y.2 hf.2];congr 1;cases s<;>simp only[Sh.flat]at hf<;>first|(exact absurd hf.1 sD)|rfl
theorem Tu:∀(l:List (Sh K))(x:Sh.Ts l),i3 l=true->∀(j:Nat) v,(Sh.encs (D0 K) l x)[j]?=some v->v≠.ca/\(v.ki=false->gw v=false)
 |[],x,hf,j,v,h=>by simp[Sh.encs]at h
 |s::r,x,hf,j,v,h=>by
  simp only[i3,aU]at hf;cases j with
  |zero=>
   simp[Sh.encs]at h;subst h;cases s<;>simp only[Sh.flat]at hf<;>first|(exact absurd hf.1 sD)|exact⟨fun e=>(by cases e),fun _=>rfl⟩|exact⟨fun e=>(by cases e),fun e=>by cases e⟩
  |succ j=>exact Tu r x.2 hf.2 j v (by simpa [Sh.encs]using h)
theorem afW{c:K.U}{v:AV K}{l:List (K.El c)}(h:elems [] c v=some l):v=.ar c l\/(v=.ca/\l=[]):=by
 unfold elems at h;split at h
 ·simp only[ak]at h;exact .inr ⟨rfl,h.symm⟩
 ·split at h
  ·rename_i he _;subst he;simp only[ak]at h;subst h;exact .inl rfl
  ·cases h
 ·simp at h
 ·cases h
theorem Tv:∀(l:List (Sh K))(vs:List (AV K))(x:Sh.Ts l),i3 l=true->Sh.df (D0 K) l vs=some x->vs.length=l.length/\∀(j:Nat) v v',vs[j]?=some v->(Sh.encs (D0 K) l x)[j]?=some v'->v'=v\/(v=.ca/\∃c',v'=.ar c' [])
 |[],vs,x,hf,h=>by
   cases vs with
   |nil=>exact⟨rfl,fun j v v' h=>by simp at h⟩
   |cons v r=>unfold Sh.df at h;cases h
 |s::r,vs,x,hf,h=>by
  simp only[i3,aU]at hf;cases vs with
  |nil=>unfold Sh.df at h;cases h
  |cons v l=>
   unfold Sh.df at h;split at h
   ·rename_i a b h1 h2;have h:=eE h;subst h;obtain⟨g1,g2⟩:=Tv r l b hf.2 h2;refine⟨by simp[g1],fun j u u' hu hu'=>?_⟩;cases j with
    |zero=>
     simp[Sh.encs]at hu hu';subst hu;subst hu';cases s<;>simp only[Sh.flat]at hf<;>first|(exact absurd hf.1 sD)|skip
     ·exact .inl (AV.HA h1).symm
     ·exact .inl (AV.HB h1).symm
     ·exact .inl (AV.HC h1).symm
     ·rcases afW h1 with h|⟨h,e⟩
      ·exact .inl h.symm
      ·exact .inr ⟨h,_,by rw[e];rfl⟩
    |succ j=>exact g2 j u u' (by simpa using hu) (by simpa [Sh.encs]using hu')
   ·cases h
theorem afr{codes:List K.U}{base:Base}{oO:Option TypeId}{kN:K.U->Option TypeId}{cs:K.U->List (Sh K)}{mk:(c:K.U)->Sh.Ts (cs c)->K.El c×Bool}{un:(c:K.U)->K.El c->Sh.Ts (cs c)}{byte:(c:K.U)->Option ((K.El c->UInt8)×(UInt8->K.El c))}
 (hf:∀c,i3 (cs c)=true) (hl:∀c,(cs c).length=K.sz c) (hu:∀c y x,mk c y=(x,true)->un c x=y) (hb:∀c f g,byte c=some (f,g)->(∀x,Sh.encs (D0 K) (cs c) (un c x)=[.int .u8 ((f x).toNat:Int)])/\∀b,f (g b)=b):bh (SH cs mk un byte codes base oO kN):={
 len c x:=by show(Sh.encs (D0 K) (cs c) (un c x)).length=_;rw[HE,hl]
 closed c x:=(HD _ _ (hf c)).1
 one c x:=(HD _ _ (hf c)).2
 dec c l x h:=fun ρ S w vs hr=>by
  change(match Sh.df (D0 K) (cs c) l with
   |some y=>some (mk c y)
   |none=>none)=some (x,true)at h
  split at h
  ·rename_i y hy
   show aP _ ρ S w (Sh.encs (D0 K) (cs c) (un c x)) vs
   rw[hu c y x (eE h)];exact Tq _ _ _ (hf c) hy _ hr
  ·cases h
 byte:=hb
 flat c x:=Tt _ _ _ (hf c)
 kinds c x:=Tu _ _ (hf c)
 vF c l x h:=by
  change(match Sh.df (D0 K) (cs c) l with
   |some y=>some (mk c y)
   |none=>none)=some (x,true)at h
  split at h
  ·rename_i y hy;obtain⟨g1,g2⟩:=Tv _ _ _ (hf c) hy;refine⟨by rw[g1,hl],fun j v v' h1 h2=>g2 j v v' h1 ?_⟩;change(Sh.encs (D0 K) (cs c) (un c x))[j]?=some v' at h2;rw[hu c y x (eE h)]at h2;exact h2
  ·cases h}
def eS(n:Int):Bool:=decide (0<=n)&&decide (n<256)
def dO(n:Int):UInt8:=UInt8.ofNat n.toNat
theorem SI{n:Int×Unit}{x:UInt8}(h:(dO n.1,eS n.1)=(x,true)):((x.toNat:Int),())=n:=by
 simp only[aS,eS,aU,aZ]at h;obtain⟨rfl,h0,h3⟩:=h;obtain⟨a,b⟩:=n;dsimp only at h0 h3⊢;have h1:a.toNat<256:=by omega
 have h2:((dO a).toNat:Int)=a:=by
  unfold dO;rw[UInt8.toNat_ofNat'];simp only[Nat.reducePow];rw[Nat.mod_eq_of_lt h1];omega
 rw[h2]
def aH{α:Type _}:List (Nat×α)->Nat->Option α
 |[],_=>none
 |p::r,n=>cond (Nat.beq p.1 n) (some p.2) (aH r n)
def aI{α:Type _}(d:α):List (Nat×α)->Nat->α
 |[],_=>d
 |p::r,n=>cond (Nat.beq p.1 n) p.2 (aI d r n)
end Go.V
