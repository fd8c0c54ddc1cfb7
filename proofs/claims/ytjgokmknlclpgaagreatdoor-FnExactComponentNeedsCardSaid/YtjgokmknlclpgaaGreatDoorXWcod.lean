/-
  CODES THAT ARE LISTS OF CELLS: how a struct lies in cells, by the shapes of its cells.
-/
import Derived.Test.YtjgokmknlclpgaaGreatDoorXWfun
set_option linter.unusedVariables false
namespace Go.V
open Go
variable{K :Jc}{D:nz K}{ρ ρ':List Value}{S S':Nat->Prop}{w w':World}
def Sh.flat:Sh K->Bool
 |.int _|.bool|.str|.bY _=>true
 |_=>false
def LM:List (Sh K)->Bool
 |[]=>true
 |s::r=>s.flat&&LM r
def D0(K:Jc):nz K:={cells:=fun _ _=>[],dec:=fun _ _=>none,byte:=fun _=>none,find:=fun _=>none}
def axp(cs:K.U->List (Sh K)):List K.U->List (AV K)->Option K.U
 |[],_=>none
 |c::r,l=>match Sh.zC (D0 K) (cs c) l with
  |some _=>some c
  |none=>axp cs r l
def aCK(cs:K.U->List (Sh K))(mk:(c:K.U)->Sh.Ts (cs c)->K.El c×Bool)(un:(c:K.U)->K.El c->Sh.Ts (cs c))(byte:(c:K.U)->Option ((K.El c->UInt8)×(UInt8->K.El c)))(codes:List K.U)(base:Base:=Base.aJC)(ajk:Option TypeId:=none)(elT:K.U->Option TypeId:=fun _=>none):nz K:={
 base:=base
 ajk:=ajk
 elT:=elT
 cells c x:=Sh.encs (D0 K) (cs c) (un c x)
 dec c l:=match Sh.zC (D0 K) (cs c) l with
  |some y=>some (mk c y)
  |none=>none
 byte:=byte
 find l:=axp cs codes l}
theorem aln{c:K.U}{v:AV K}{l:List (K.El c)}(h:elems [] c v=some l){u:Value}(hr:Rep D ρ S w v u):Rep D ρ S w (.bY c l) u:=by
 unfold elems at h;split at h
 ·simp only[dS]at h;subst h;cases hr;exact .GM _ _
 ·split at h
  ·rename_i he _;subst he;simp only[dS]at h;subst h;exact hr
  ·cases h
 ·simp at h
 ·cases h
theorem axq:∀(l:List (Sh K))(vs:List (AV K))(x:Sh.Ts l),LM l=true->Sh.zC (D0 K) l vs=some x->∀us,ed D ρ S w vs us->ed D ρ S w (Sh.encs (D0 K) l x) us
 |[],vs,x,hf,h,us,hr=>by
   cases vs with
   |nil=>exact hr
   |cons v r=>unfold Sh.zC at h;cases h
 |s::r,vs,x,hf,h,us,hr=>by
  simp only[LM,lS]at hf;cases vs with
  |nil=>unfold Sh.zC at h;cases h
  |cons v l=>
   unfold Sh.zC at h;split at h
   ·rename_i a b h1 h2;have h:=VG h;subst h;obtain⟨u,t,rfl,g1,g2⟩:=hr.wX;refine .cons ?_ (axq r l b hf.2 h2 t g2);cases s<;>simp only[Sh.flat]at hf<;>first|(exact absurd hf.1 aBz)|skip
    ·rw[AV.alo h1]at g1;exact g1
    ·rw[AV.agZ h1]at g1;exact g1
    ·rw[AV.alp h1]at g1;exact g1
    ·exact aln h1 g1
   ·cases h
theorem aco:∀(l:List (Sh K))(x:Sh.Ts l),LM l=true->nD (Sh.encs (D0 K) l x)=true/\(Sh.encs (D0 K) l x).all AV.one=true
 |[],x,hf=>⟨rfl,rfl⟩
 |s::r,x,hf=>by
  simp only[LM,lS]at hf;obtain⟨h1,h2⟩:=aco r x.2 hf.2;simp only[Sh.encs,nD,P8,lS];refine⟨⟨?_,h1⟩,?_,h2⟩<;>(cases s<;>simp only[Sh.flat]at hf<;>first|(exact absurd hf.1 aBz)|rfl)
theorem aqJ:∀(l:List (Sh K))(x y:Sh.Ts l),LM l=true->dK (Sh.encs (D0 K) l x)=dK (Sh.encs (D0 K) l y)
 |[],x,y,hf=>rfl
 |s::r,x,y,hf=>by
  simp only[LM,lS]at hf;simp only[Sh.encs,dK];rw[aqJ r x.2 y.2 hf.2];congr 1;cases s<;>simp only[Sh.flat]at hf<;>first|(exact absurd hf.1 aBz)|rfl
theorem aqK:∀(l:List (Sh K))(x:Sh.Ts l),LM l=true->∀(j:Nat) v,(Sh.encs (D0 K) l x)[j]?=some v->v≠.jf/\(v.VN=false->qA v=false)
 |[],x,hf,j,v,h=>by simp[Sh.encs]at h
 |s::r,x,hf,j,v,h=>by
  simp only[LM,lS]at hf;cases j with
  |zero=>
   simp[Sh.encs]at h;subst h;cases s<;>simp only[Sh.flat]at hf<;>first|(exact absurd hf.1 aBz)|exact⟨fun e=>(by cases e),fun _=>rfl⟩|exact⟨fun e=>(by cases e),fun e=>by cases e⟩
  |succ j=>exact aqK r x.2 hf.2 j v (by simpa [Sh.encs]using h)
theorem aoh{c:K.U}{v:AV K}{l:List (K.El c)}(h:elems [] c v=some l):v=.bY c l\/(v=.jf/\l=[]):=by
 unfold elems at h;split at h
 ·simp only[dS]at h;exact .inr ⟨rfl,h.symm⟩
 ·split at h
  ·rename_i he _;subst he;simp only[dS]at h;subst h;exact .inl rfl
  ·cases h
 ·simp at h
 ·cases h
theorem atP:∀(l:List (Sh K))(vs:List (AV K))(x:Sh.Ts l),LM l=true->Sh.zC (D0 K) l vs=some x->vs.length=l.length/\∀(j:Nat) v v',vs[j]?=some v->(Sh.encs (D0 K) l x)[j]?=some v'->v'=v\/(v=.jf/\∃c',v'=.bY c' [])
 |[],vs,x,hf,h=>by
   cases vs with
   |nil=>exact⟨rfl,fun j v v' h=>by simp at h⟩
   |cons v r=>unfold Sh.zC at h;cases h
 |s::r,vs,x,hf,h=>by
  simp only[LM,lS]at hf;cases vs with
  |nil=>unfold Sh.zC at h;cases h
  |cons v l=>
   unfold Sh.zC at h;split at h
   ·rename_i a b h1 h2;have h:=VG h;subst h;obtain⟨g1,g2⟩:=atP r l b hf.2 h2;refine⟨by simp[g1],fun j u u' hu hu'=>?_⟩;cases j with
    |zero=>
     simp[Sh.encs]at hu hu';subst hu;subst hu';cases s<;>simp only[Sh.flat]at hf<;>first|(exact absurd hf.1 aBz)|skip
     ·exact .inl (AV.alo h1).symm
     ·exact .inl (AV.agZ h1).symm
     ·exact .inl (AV.alp h1).symm
     ·rcases aoh h1 with h|⟨h,e⟩
      ·exact .inl h.symm
      ·exact .inr ⟨h,_,by rw[e];rfl⟩
    |succ j=>exact g2 j u u' (by simpa using hu) (by simpa [Sh.encs]using hu')
   ·cases h
theorem aDg{codes:List K.U}{base:Base}{ajk:Option TypeId}{elT:K.U->Option TypeId}{cs:K.U->List (Sh K)}{mk:(c:K.U)->Sh.Ts (cs c)->K.El c×Bool}{un:(c:K.U)->K.El c->Sh.Ts (cs c)}{byte:(c:K.U)->Option ((K.El c->UInt8)×(UInt8->K.El c))}
 (hf:∀c,LM (cs c)=true) (hl:∀c,(cs c).length=K.sz c) (hu:∀c y x,mk c y=(x,true)->un c x=y) (hb:∀c f g,byte c=some (f,g)->(∀x,Sh.encs (D0 K) (cs c) (un c x)=[.int .u8 ((f x).toNat:Int)])/\∀b,f (g b)=b):dX (aCK cs mk un byte codes base ajk elT):={
 len c x:=by show(Sh.encs (D0 K) (cs c) (un c x)).length=_;rw[acp,hl]
 closed c x:=(aco _ _ (hf c)).1
 one c x:=(aco _ _ (hf c)).2
 dec c l x h:=fun ρ S w vs hr=>by
  change(match Sh.zC (D0 K) (cs c) l with
   |some y=>some (mk c y)
   |none=>none)=some (x,true)at h
  split at h
  ·rename_i y hy
   show ed _ ρ S w (Sh.encs (D0 K) (cs c) (un c x)) vs
   rw[hu c y x (VG h)];exact axq _ _ _ (hf c) hy _ hr
  ·cases h
 byte:=hb
 flat c x:=aqJ _ _ _ (hf c)
 kinds c x:=aqK _ _ (hf c)
 aBE c l x h:=by
  change(match Sh.zC (D0 K) (cs c) l with
   |some y=>some (mk c y)
   |none=>none)=some (x,true)at h
  split at h
  ·rename_i y hy;obtain⟨g1,g2⟩:=atP _ _ _ (hf c) hy;refine⟨by rw[g1,hl],fun j v v' h1 h2=>g2 j v v' h1 ?_⟩;change(Sh.encs (D0 K) (cs c) (un c x))[j]?=some v' at h2;rw[hu c y x (VG h)]at h2;exact h2
  ·cases h}
def apM(n:Int):Bool:=decide (0<=n)&&decide (n<256)
def asV(n:Int):UInt8:=UInt8.ofNat n.toNat
theorem aAc{n:Int×Unit}{x:UInt8}(h:(asV n.1,apM n.1)=(x,true)):((x.toNat:Int),())=n:=by
 simp only[iQ,apM,lS,jX]at h;obtain⟨rfl,h0,h3⟩:=h;obtain⟨a,b⟩:=n;dsimp only at h0 h3⊢;have h1:a.toNat<256:=by omega
 have h2:((asV a).toNat:Int)=a:=by
  unfold asV;rw[UInt8.toNat_ofNat'];simp only[Nat.reducePow];rw[Nat.mod_eq_of_lt h1];omega
 rw[h2]
def iO{α:Type _}:List (Nat×α)->Nat->Option α
 |[],_=>none
 |p::r,n=>cond (Nat.beq p.1 n) (some p.2) (iO r n)
def iY{α:Type _}(d:α):List (Nat×α)->Nat->α
 |[],_=>d
 |p::r,n=>cond (Nat.beq p.1 n) p.2 (iY d r n)
end Go.V
