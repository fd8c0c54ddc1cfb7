/-
  CODES THAT ARE LISTS OF CELLS: how a struct lies in cells, by the shapes of its cells.
-/
import Derived.Test.YtghkckfhaljjjaaGreatDoorXWfun
set_option linter.unusedVariables false
namespace Go.V
open Go
variable {K :dh}{D:bH K}{ρ ρ':List Value}{S S':Nat->Prop}{w w':World}
def Sh.flat:Sh K->Bool
 |.int _|.bool|.str|.an _=>true
 |_=>false
def jT:List (Sh K)->Bool
 |[]=>true
 |s::r=>s.flat&&jT r
def D0(K:dh):bH K:={cells:=fun _ _=>[],dec:=fun _ _=>none,byte:=fun _=>none,find:=fun _=>none}
def Of(cs:K.U->List (Sh K)):List K.U->List (AV K)->Option K.U
 |[],_=>none
 |c::r,l=>match Sh.d5 (D0 K) (cs c) l with
  |some _=>some c
  |none=>Of cs r l
def ID(cs:K.U->List (Sh K))(mk:(c:K.U)->Sh.Ts (cs c)->K.El c×Bool)(un:(c:K.U)->K.El c->Sh.Ts (cs c))(byte:(c:K.U)->Option ((K.El c->UInt8)×(UInt8->K.El c)))(codes:List K.U)(base:Base:=Base.Og)(pP:Option TypeId:=none)(rn:K.U->Option TypeId:=fun _=>none):bH K:={
 base:=base
 pP:=pP
 rn:=rn
 cells c x:=Sh.encs (D0 K) (cs c) (un c x)
 dec c l:=match Sh.d5 (D0 K) (cs c) l with
  |some y=>some (mk c y)
  |none=>none
 byte:=byte
 find l:=Of cs codes l}
theorem aea{c:K.U}{v:AV K}{l:List (K.El c)}(h:elems [] c v=some l){u:Value}(hr:Rep D ρ S w v u):Rep D ρ S w (.an c l) u:=by
 unfold elems at h;split at h
 ·simp only[av]at h;subst h;cases hr;exact .fc _ _
 ·split at h
  ·rename_i he _;subst he;simp only[av]at h;subst h;exact hr
  ·cases h
 ·simp at h
 ·cases h
theorem Oh:∀(l:List (Sh K))(vs:List (AV K))(x:Sh.Ts l),jT l=true->Sh.d5 (D0 K) l vs=some x->∀us,bh D ρ S w vs us->bh D ρ S w (Sh.encs (D0 K) l x) us
 |[],vs,x,hf,h,us,hr=>by
   cases vs with
   |nil=>exact hr
   |cons v r=>unfold Sh.d5 at h;cases h
 |s::r,vs,x,hf,h,us,hr=>by
  simp only[jT,cG]at hf;cases vs with
  |nil=>unfold Sh.d5 at h;cases h
  |cons v l=>
   unfold Sh.d5 at h;split at h
   ·rename_i a b h1 h2;have h:=fA h;subst h;obtain⟨u,t,rfl,g1,g2⟩:=hr.gp;refine .cons ?_ (Oh r l b hf.2 h2 t g2);cases s<;>simp only[Sh.flat]at hf<;>first|(exact absurd hf.1 vU)|skip
    ·rw[AV.IE h1]at g1;exact g1
    ·rw[AV.IF h1]at g1;exact g1
    ·rw[AV.IG h1]at g1;exact g1
    ·exact aea h1 g1
   ·cases h
theorem IH:∀(l:List (Sh K))(x:Sh.Ts l),jT l=true->g9 (Sh.encs (D0 K) l x)=true/\(Sh.encs (D0 K) l x).all AV.one=true
 |[],x,hf=>⟨rfl,rfl⟩
 |s::r,x,hf=>by
  simp only[jT,cG]at hf;obtain⟨h1,h2⟩:=IH r x.2 hf.2;simp only[Sh.encs,g9,mj,cG];refine⟨⟨?_,h1⟩,?_,h2⟩<;>(cases s<;>simp only[Sh.flat]at hf<;>first|(exact absurd hf.1 vU)|rfl)
theorem Oi:∀(l:List (Sh K))(x y:Sh.Ts l),jT l=true->eI (Sh.encs (D0 K) l x)=eI (Sh.encs (D0 K) l y)
 |[],x,y,hf=>rfl
 |s::r,x,y,hf=>by
  simp only[jT,cG]at hf;simp only[Sh.encs,eI];rw[Oi r x.2 y.2 hf.2];congr 1;cases s<;>simp only[Sh.flat]at hf<;>first|(exact absurd hf.1 vU)|rfl
theorem Oj:∀(l:List (Sh K))(x:Sh.Ts l),jT l=true->∀(j:Nat) v,(Sh.encs (D0 K) l x)[j]?=some v->v≠.dn/\(v.oa=false->iL v=false)
 |[],x,hf,j,v,h=>by simp[Sh.encs]at h
 |s::r,x,hf,j,v,h=>by
  simp only[jT,cG]at hf;cases j with
  |zero=>
   simp[Sh.encs]at h;subst h;cases s<;>simp only[Sh.flat]at hf<;>first|(exact absurd hf.1 vU)|exact⟨fun e=>(by cases e),fun _=>rfl⟩|exact⟨fun e=>(by cases e),fun e=>by cases e⟩
  |succ j=>exact Oj r x.2 hf.2 j v (by simpa [Sh.encs]using h)
theorem aeb{c:K.U}{v:AV K}{l:List (K.El c)}(h:elems [] c v=some l):v=.an c l\/(v=.dn/\l=[]):=by
 unfold elems at h;split at h
 ·simp only[av]at h;exact .inr ⟨rfl,h.symm⟩
 ·split at h
  ·rename_i he _;subst he;simp only[av]at h;subst h;exact .inl rfl
  ·cases h
 ·simp at h
 ·cases h
theorem Ol:∀(l:List (Sh K))(vs:List (AV K))(x:Sh.Ts l),jT l=true->Sh.d5 (D0 K) l vs=some x->vs.length=l.length/\∀(j:Nat) v v',vs[j]?=some v->(Sh.encs (D0 K) l x)[j]?=some v'->v'=v\/(v=.dn/\∃c',v'=.an c' [])
 |[],vs,x,hf,h=>by
   cases vs with
   |nil=>exact⟨rfl,fun j v v' h=>by simp at h⟩
   |cons v r=>unfold Sh.d5 at h;cases h
 |s::r,vs,x,hf,h=>by
  simp only[jT,cG]at hf;cases vs with
  |nil=>unfold Sh.d5 at h;cases h
  |cons v l=>
   unfold Sh.d5 at h;split at h
   ·rename_i a b h1 h2;have h:=fA h;subst h;obtain⟨g1,g2⟩:=Ol r l b hf.2 h2;refine⟨by simp[g1],fun j u u' hu hu'=>?_⟩;cases j with
    |zero=>
     simp[Sh.encs]at hu hu';subst hu;subst hu';cases s<;>simp only[Sh.flat]at hf<;>first|(exact absurd hf.1 vU)|skip
     ·exact .inl (AV.IE h1).symm
     ·exact .inl (AV.IF h1).symm
     ·exact .inl (AV.IG h1).symm
     ·rcases aeb h1 with h|⟨h,e⟩
      ·exact .inl h.symm
      ·exact .inr ⟨h,_,by rw[e];rfl⟩
    |succ j=>exact g2 j u u' (by simpa using hu) (by simpa [Sh.encs]using hu')
   ·cases h
theorem aec{codes:List K.U}{base:Base}{pP:Option TypeId}{rn:K.U->Option TypeId}{cs:K.U->List (Sh K)}{mk:(c:K.U)->Sh.Ts (cs c)->K.El c×Bool}{un:(c:K.U)->K.El c->Sh.Ts (cs c)}{byte:(c:K.U)->Option ((K.El c->UInt8)×(UInt8->K.El c))}
 (hf:∀c,jT (cs c)=true) (hl:∀c,(cs c).length=K.sz c) (hu:∀c y x,mk c y=(x,true)->un c x=y) (hb:∀c f g,byte c=some (f,g)->(∀x,Sh.encs (D0 K) (cs c) (un c x)=[.int .u8 ((f x).toNat:Int)])/\∀b,f (g b)=b):bR (ID cs mk un byte codes base pP rn):={
 len c x:=by show(Sh.encs (D0 K) (cs c) (un c x)).length=_;rw[II,hl]
 closed c x:=(IH _ _ (hf c)).1
 one c x:=(IH _ _ (hf c)).2
 dec c l x h:=fun ρ S w vs hr=>by
  change(match Sh.d5 (D0 K) (cs c) l with
   |some y=>some (mk c y)
   |none=>none)=some (x,true)at h
  split at h
  ·rename_i y hy
   show bh _ ρ S w (Sh.encs (D0 K) (cs c) (un c x)) vs
   rw[hu c y x (fA h)];exact Oh _ _ _ (hf c) hy _ hr
  ·cases h
 byte:=hb
 flat c x:=Oi _ _ _ (hf c)
 kinds c x:=Oj _ _ (hf c)
 C3 c l x h:=by
  change(match Sh.d5 (D0 K) (cs c) l with
   |some y=>some (mk c y)
   |none=>none)=some (x,true)at h
  split at h
  ·rename_i y hy;obtain⟨g1,g2⟩:=Ol _ _ _ (hf c) hy;refine⟨by rw[g1,hl],fun j v v' h1 h2=>g2 j v v' h1 ?_⟩;change(Sh.encs (D0 K) (cs c) (un c x))[j]?=some v' at h2;rw[hu c y x (fA h)]at h2;exact h2
  ·cases h}
def rq(n:Int):Bool:=decide (0<=n)&&decide (n<256)
def ru(n:Int):UInt8:=UInt8.ofNat n.toNat
theorem Om{n:Int×Unit}{x:UInt8}(h:(ru n.1,rq n.1)=(x,true)):((x.toNat:Int),())=n:=by
 simp only[aZ,rq,cG,bB]at h;obtain⟨rfl,h0,h3⟩:=h;obtain⟨a,b⟩:=n;dsimp only at h0 h3⊢;have h1:a.toNat<256:=by omega
 have h2:((ru a).toNat:Int)=a:=by
  unfold ru;rw[UInt8.toNat_ofNat'];simp only[Nat.reducePow];rw[Nat.mod_eq_of_lt h1];omega
 rw[h2]
def dR{α:Type _}:List (Nat×α)->Nat->Option α
 |[],_=>none
 |p::r,n=>cond (Nat.beq p.1 n) (some p.2) (dR r n)
def d6{α:Type _}(d:α):List (Nat×α)->Nat->α
 |[],_=>d
 |p::r,n=>cond (Nat.beq p.1 n) p.2 (d6 d r n)
end Go.V
