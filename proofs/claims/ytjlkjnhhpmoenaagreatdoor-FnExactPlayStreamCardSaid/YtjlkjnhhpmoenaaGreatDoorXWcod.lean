/-
  CODES THAT ARE LISTS OF CELLS: how a struct lies in cells, by the shapes of its cells.
-/
import Derived.Test.YtjlkjnhhpmoenaaGreatDoorXWfun
set_option linter.unusedVariables false
namespace Go.V
open Go
variable {K :Aj} {D:jI K} {ρ ρ':List Value} {S S':Nat->Prop} {w w':World}
def Sh.flat :Sh K->Bool
 | .int _ | .bool | .str | .bV _=>true
 |_=>false
def BZ : List (Sh K)->Bool
 | []=>true
 |s::r=>s.flat&&BZ r
def D0 (K:Aj):jI K:={cells:=fun _ _=>[],dec:=fun _ _=>none,byte:=fun _=>none,find:=fun _=>none}
def adt (cs:K.U->List (Sh K)):List K.U->List (AV K)->Option K.U
 | [],_=>none
 |c::r,l=>match Sh.ry (D0 K) (cs c) l with
  |some _=>some c
  |none=>adt cs r l
def aj3 (cs:K.U->List (Sh K)) (mk:(c:K.U)->Sh.Ts (cs c)->K.El c×Bool) (un:(c:K.U)->K.El c->Sh.Ts (cs c)) (byte:(c:K.U)->Option ((K.El c->UInt8)×(UInt8->K.El c))) (codes:List K.U) (base:Base:=Base.alX) (Sj:Option TypeId:=none) (elT:K.U->Option TypeId:=fun _=>none):jI K:={
 base:=base
 Sj:=Sj
 elT:=elT
 cells c x:=Sh.encs (D0 K) (cs c) (un c x)
 dec c l:=match Sh.ry (D0 K) (cs c) l with
  |some y=>some (mk c y)
  |none=>none
 byte:=byte
 find l:=adt cs codes l}
theorem Ue {c:K.U} {v:AV K} {l:List (K.El c)} (h:elems [] c v=some l) {u:Value} (hr:Rep D ρ S w v u):Rep D ρ S w (.bV c l) u:=by
 unfold elems at h;split at h
 ·simp only[Option.some.injEq] at h;subst h;cases hr;exact .xI _ _
 ·split at h
  ·rename_i he _;subst he;simp only[Option.some.injEq] at h;subst h;exact hr
  ·cases h
 ·simp at h
 ·cases h
theorem adu : ∀(l:List (Sh K)) (vs:List (AV K)) (x:Sh.Ts l),BZ l=true->Sh.ry (D0 K) l vs=some x->∀us,cO D ρ S w vs us->cO D ρ S w (Sh.encs (D0 K) l x) us
 | [],vs,x,hf,h,us,hr=>by
   cases vs with
   |nil=>exact hr
   |cons v r=>unfold Sh.ry at h;cases h
 |s::r,vs,x,hf,h,us,hr=>by
  simp only[BZ,Bool.and_eq_true] at hf
  cases vs with
  |nil=>unfold Sh.ry at h;cases h
  |cons v l=>
   unfold Sh.ry at h;split at h
   ·rename_i a b h1 h2
    have h:=Option.some.inj h;subst h;obtain ⟨u,t,rfl,g1,g2⟩:=hr.ru;refine .cons ?_ (adu r l b hf.2 h2 t g2)
    cases s<;>simp only[Sh.flat] at hf<;>first |(exact absurd hf.1 Bool.false_ne_true) |skip
    ·rw[AV.Uf h1] at g1;exact g1
    ·rw[AV.Qd h1] at g1;exact g1
    ·rw[AV.Ug h1] at g1;exact g1
    ·exact Ue h1 g1
   ·cases h
theorem Md : ∀(l:List (Sh K)) (x:Sh.Ts l),BZ l=true->jG (Sh.encs (D0 K) l x)=true /\ (Sh.encs (D0 K) l x).all AV.one=true
 | [],x,hf=>⟨rfl,rfl⟩
 |s::r,x,hf=>by
  simp only[BZ,Bool.and_eq_true] at hf;obtain ⟨h1,h2⟩:=Md r x.2 hf.2;simp only[Sh.encs,jG,List.all_cons,Bool.and_eq_true];refine ⟨⟨?_,h1⟩, ?_,h2⟩<;>(cases s<;>simp only[Sh.flat] at hf<;>first |(exact absurd hf.1 Bool.false_ne_true) |rfl)
theorem Yq : ∀(l:List (Sh K)) (x y:Sh.Ts l),BZ l=true->bT (Sh.encs (D0 K) l x)=bT (Sh.encs (D0 K) l y)
 | [],x,y,hf=>rfl
 |s::r,x,y,hf=>by
  simp only[BZ,Bool.and_eq_true] at hf;simp only[Sh.encs,bT];rw[Yq r x.2 y.2 hf.2]
  congr 1
  cases s<;>simp only[Sh.flat] at hf<;>first |(exact absurd hf.1 Bool.false_ne_true) |rfl
theorem Yr : ∀(l:List (Sh K)) (x:Sh.Ts l),BZ l=true->∀(j:Nat) v,(Sh.encs (D0 K) l x)[j]? =some v->v≠ .fK /\ (v.IA=false->kR v=false)
 | [],x,hf,j,v,h=>by simp[Sh.encs] at h
 |s::r,x,hf,j,v,h=>by
  simp only[BZ,Bool.and_eq_true] at hf
  cases j with
  |zero=>
   simp[Sh.encs] at h;subst h
   cases s<;>simp only[Sh.flat] at hf<;>first |(exact absurd hf.1 Bool.false_ne_true) |exact ⟨fun e=>(by cases e),fun _=>rfl⟩ |exact ⟨fun e=>(by cases e),fun e=>by cases e⟩
  |succ j=>exact Yr r x.2 hf.2 j v (by simpa [Sh.encs] using h)
theorem WG {c:K.U} {v:AV K} {l:List (K.El c)} (h:elems [] c v=some l):v= .bV c l \/ (v= .fK /\ l=[]):=by
 unfold elems at h;split at h
 ·simp only[Option.some.injEq] at h;exact .inr ⟨rfl,h.symm⟩
 ·split at h
  ·rename_i he _;subst he;simp only[Option.some.injEq] at h;subst h;exact .inl rfl
  ·cases h
 ·simp at h
 ·cases h
theorem aaS : ∀(l:List (Sh K)) (vs:List (AV K)) (x:Sh.Ts l),BZ l=true->Sh.ry (D0 K) l vs=some x->vs.length=l.length /\ ∀(j:Nat) v v',vs[j]? =some v->(Sh.encs (D0 K) l x)[j]? =some v'->v'=v \/ (v= .fK /\ ∃c',v'= .bV c' [])
 | [],vs,x,hf,h=>by
   cases vs with
   |nil=>exact ⟨rfl,fun j v v' h=>by simp at h⟩
   |cons v r=>unfold Sh.ry at h;cases h
 |s::r,vs,x,hf,h=>by
  simp only[BZ,Bool.and_eq_true] at hf
  cases vs with
  |nil=>unfold Sh.ry at h;cases h
  |cons v l=>
   unfold Sh.ry at h;split at h
   ·rename_i a b h1 h2
    have h:=Option.some.inj h;subst h;obtain ⟨g1,g2⟩:=aaS r l b hf.2 h2;refine ⟨by simp[g1],fun j u u' hu hu'=> ?_⟩
    cases j with
    |zero=>
     simp[Sh.encs] at hu hu';subst hu;subst hu'
     cases s<;>simp only[Sh.flat] at hf<;>first |(exact absurd hf.1 Bool.false_ne_true) |skip
     ·exact .inl (AV.Uf h1).symm
     ·exact .inl (AV.Qd h1).symm
     ·exact .inl (AV.Ug h1).symm
     ·rcases WG h1 with h |⟨h,e⟩
      ·exact .inl h.symm
      ·exact .inr ⟨h,_,by rw[e];rfl⟩
    |succ j=>exact g2 j u u' (by simpa using hu) (by simpa [Sh.encs] using hu')
   ·cases h
theorem ah5 {codes:List K.U} {base:Base} {Sj:Option TypeId} {elT:K.U->Option TypeId} {cs:K.U->List (Sh K)} {mk:(c:K.U)->Sh.Ts (cs c)->K.El c×Bool} {un:(c:K.U)->K.El c->Sh.Ts (cs c)} {byte:(c:K.U)->Option ((K.El c->UInt8)×(UInt8->K.El c))}
 (hf:∀c,BZ (cs c)=true) (hl:∀c,(cs c).length=K.sz c) (hu:∀c y x,mk c y=(x,true)->un c x=y) (hb:∀c f g,byte c=some (f,g)->(∀x,Sh.encs (D0 K) (cs c) (un c x)=[.int .u8 ((f x).toNat:Int)]) /\ ∀b,f (g b)=b):cZ (aj3 cs mk un byte codes base Sj elT):={
 len c x:=by show (Sh.encs (D0 K) (cs c) (un c x)).length=_;rw[Me,hl]
 closed c x:=(Md _ _ (hf c)).1
 one c x:=(Md _ _ (hf c)).2
 dec c l x h:=fun ρ S w vs hr=>by
  change (match Sh.ry (D0 K) (cs c) l with
   |some y=>some (mk c y)
   |none=>none)=some (x,true) at h
  split at h
  ·rename_i y hy
   show cO _ ρ S w (Sh.encs (D0 K) (cs c) (un c x)) vs
   rw[hu c y x (Option.some.inj h)];exact adu _ _ _ (hf c) hy _ hr
  ·cases h
 byte:=hb
 flat c x:=Yq _ _ _ (hf c)
 kinds c x:=Yr _ _ (hf c)
 aif c l x h:=by
  change (match Sh.ry (D0 K) (cs c) l with
   |some y=>some (mk c y)
   |none=>none)=some (x,true) at h
  split at h
  ·rename_i y hy
   obtain ⟨g1,g2⟩:=aaS _ _ _ (hf c) hy;refine ⟨by rw[g1,hl],fun j v v' h1 h2=>g2 j v v' h1 ?_⟩
   change (Sh.encs (D0 K) (cs c) (un c x))[j]? =some v' at h2;rw[hu c y x (Option.some.inj h)] at h2;exact h2
  ·cases h}
def I8 (n:Int):Bool:=decide (0<=n)&&decide (n<256)
def CS (n:Int):UInt8:=UInt8.ofNat n.toNat
theorem afL {n:Int×Unit} {x:UInt8} (h:(CS n.1,I8 n.1)=(x,true)):((x.toNat:Int),())=n:=by
 simp only[Prod.mk.injEq,I8,Bool.and_eq_true,decide_eq_true_eq] at h;obtain ⟨rfl,h0,h3⟩:=h;obtain ⟨a,b⟩:=n;dsimp only at h0 h3 ⊢;have h1:a.toNat<256:=by omega
 have h2:((CS a).toNat:Int)=a:=by
  unfold CS;rw[UInt8.toNat_ofNat'];simp only[Nat.reducePow];rw[Nat.mod_eq_of_lt h1];omega
 rw[h2]
def bf {α:Type _}:List (Nat×α)->Nat->Option α
 | [],_=>none
 |p::r,n=>cond (Nat.beq p.1 n) (some p.2) (bf r n)
def bn {α:Type _} (d:α):List (Nat×α)->Nat->α
 | [],_=>d
 |p::r,n=>cond (Nat.beq p.1 n) p.2 (bn d r n)
end Go.V
