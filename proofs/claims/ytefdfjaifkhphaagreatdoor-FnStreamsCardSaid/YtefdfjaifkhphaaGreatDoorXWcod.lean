/-
  CODES THAT ARE LISTS OF CELLS: how a struct lies in cells, by the shapes of its cells.
-/
import Derived.Test.YtefdfjaifkhphaaGreatDoorXWfun
set_option linter.unusedVariables false
namespace Go.V
open Go
variable {K :yu} {D:iU K} {ρ ρ':List Value} {S S':Nat->Prop} {w w':World}
def Sh.flat :Sh K->Bool
 | .int _ | .bool | .str | .bn _=>true
 |_=>false
def zq : List (Sh K)->Bool
 | []=>true
 |s::r=>s.flat&&zq r
def D0 (K:yu):iU K:={cells:=fun _ _=>[],dec:=fun _ _=>none,byte:=fun _=>none,find:=fun _=>none}
def ZZ (cs:K.U->List (Sh K)):List K.U->List (AV K)->Option K.U
 | [],_=>none
 |c::r,l=>match Sh.pz (D0 K) (cs c) l with
  |some _=>some c
  |none=>ZZ cs r l
def af1 (cs:K.U->List (Sh K)) (mk:(c:K.U)->Sh.Ts (cs c)->K.El c×Bool) (un:(c:K.U)->K.El c->Sh.Ts (cs c)) (byte:(c:K.U)->Option ((K.El c->UInt8)×(UInt8->K.El c))) (codes:List K.U) (base:Base:=Base.ahR) (Om:Option TypeId:=none) (elT:K.U->Option TypeId:=fun _=>none):iU K:={
 base:=base
 Om:=Om
 elT:=elT
 cells c x:=Sh.encs (D0 K) (cs c) (un c x)
 dec c l:=match Sh.pz (D0 K) (cs c) l with
  |some y=>some (mk c y)
  |none=>none
 byte:=byte
 find l:=ZZ cs codes l}
theorem PZ {c:K.U} {v:AV K} {l:List (K.El c)} (h:elems [] c v=some l) {u:Value} (hr:Rep D ρ S w v u):Rep D ρ S w (.bn c l) u:=by
 unfold elems at h;split at h
 ·simp only[Option.some.injEq] at h;subst h;cases hr;exact .uO _ _
 ·split at h
  ·rename_i he _;subst he;simp only[Option.some.injEq] at h;subst h;exact hr
  ·cases h
 ·simp at h
 ·cases h
theorem Z4 : ∀(l:List (Sh K)) (vs:List (AV K)) (x:Sh.Ts l),zq l=true->Sh.pz (D0 K) l vs=some x->∀us,bF D ρ S w vs us->bF D ρ S w (Sh.encs (D0 K) l x) us
 | [],vs,x,hf,h,us,hr=>by
   cases vs with
   |nil=>exact hr
   |cons v r=>unfold Sh.pz at h;cases h
 |s::r,vs,x,hf,h,us,hr=>by
  simp only[zq,Bool.and_eq_true] at hf
  cases vs with
  |nil=>unfold Sh.pz at h;cases h
  |cons v l=>
   unfold Sh.pz at h;split at h
   ·rename_i a b h1 h2
    have h:=Option.some.inj h;subst h;obtain ⟨u,t,rfl,g1,g2⟩:=hr.oM;refine .cons ?_ (Z4 r l b hf.2 h2 t g2)
    cases s<;>simp only[Sh.flat] at hf<;>first |(exact absurd hf.1 Bool.false_ne_true) |skip
    ·rw[AV.P5 h1] at g1;exact g1
    ·rw[AV.L6 h1] at g1;exact g1
    ·rw[AV.P6 h1] at g1;exact g1
    ·exact PZ h1 g1
   ·cases h
theorem IP : ∀(l:List (Sh K)) (x:Sh.Ts l),zq l=true->iQ (Sh.encs (D0 K) l x)=true /\ (Sh.encs (D0 K) l x).all AV.one=true
 | [],x,hf=>⟨rfl,rfl⟩
 |s::r,x,hf=>by
  simp only[zq,Bool.and_eq_true] at hf;obtain ⟨h1,h2⟩:=IP r x.2 hf.2;simp only[Sh.encs,iQ,List.all_cons,Bool.and_eq_true];refine ⟨⟨?_,h1⟩, ?_,h2⟩<;>(cases s<;>simp only[Sh.flat] at hf<;>first |(exact absurd hf.1 Bool.false_ne_true) |rfl)
theorem U8 : ∀(l:List (Sh K)) (x y:Sh.Ts l),zq l=true->dO (Sh.encs (D0 K) l x)=dO (Sh.encs (D0 K) l y)
 | [],x,y,hf=>rfl
 |s::r,x,y,hf=>by
  simp only[zq,Bool.and_eq_true] at hf;simp only[Sh.encs,dO];rw[U8 r x.2 y.2 hf.2]
  congr 1
  cases s<;>simp only[Sh.flat] at hf<;>first |(exact absurd hf.1 Bool.false_ne_true) |rfl
theorem U9 : ∀(l:List (Sh K)) (x:Sh.Ts l),zq l=true->∀(j:Nat) v,(Sh.encs (D0 K) l x)[j]? =some v->v≠ .eu /\ (v.EH=false->jG v=false)
 | [],x,hf,j,v,h=>by simp[Sh.encs] at h
 |s::r,x,hf,j,v,h=>by
  simp only[zq,Bool.and_eq_true] at hf
  cases j with
  |zero=>
   simp[Sh.encs] at h;subst h
   cases s<;>simp only[Sh.flat] at hf<;>first |(exact absurd hf.1 Bool.false_ne_true) |exact ⟨fun e=>(by cases e),fun _=>rfl⟩ |exact ⟨fun e=>(by cases e),fun e=>by cases e⟩
  |succ j=>exact U9 r x.2 hf.2 j v (by simpa [Sh.encs] using h)
theorem Tq {c:K.U} {v:AV K} {l:List (K.El c)} (h:elems [] c v=some l):v= .bn c l \/ (v= .eu /\ l=[]):=by
 unfold elems at h;split at h
 ·simp only[Option.some.injEq] at h;exact .inr ⟨rfl,h.symm⟩
 ·split at h
  ·rename_i he _;subst he;simp only[Option.some.injEq] at h;subst h;exact .inl rfl
  ·cases h
 ·simp at h
 ·cases h
theorem Xw : ∀(l:List (Sh K)) (vs:List (AV K)) (x:Sh.Ts l),zq l=true->Sh.pz (D0 K) l vs=some x->vs.length=l.length /\ ∀(j:Nat) v v',vs[j]? =some v->(Sh.encs (D0 K) l x)[j]? =some v'->v'=v \/ (v= .eu /\ ∃c',v'= .bn c' [])
 | [],vs,x,hf,h=>by
   cases vs with
   |nil=>exact ⟨rfl,fun j v v' h=>by simp at h⟩
   |cons v r=>unfold Sh.pz at h;cases h
 |s::r,vs,x,hf,h=>by
  simp only[zq,Bool.and_eq_true] at hf
  cases vs with
  |nil=>unfold Sh.pz at h;cases h
  |cons v l=>
   unfold Sh.pz at h;split at h
   ·rename_i a b h1 h2
    have h:=Option.some.inj h;subst h;obtain ⟨g1,g2⟩:=Xw r l b hf.2 h2;refine ⟨by simp[g1],fun j u u' hu hu'=> ?_⟩
    cases j with
    |zero=>
     simp[Sh.encs] at hu hu';subst hu;subst hu'
     cases s<;>simp only[Sh.flat] at hf<;>first |(exact absurd hf.1 Bool.false_ne_true) |skip
     ·exact .inl (AV.P5 h1).symm
     ·exact .inl (AV.L6 h1).symm
     ·exact .inl (AV.P6 h1).symm
     ·rcases Tq h1 with h |⟨h,e⟩
      ·exact .inl h.symm
      ·exact .inr ⟨h,_,by rw[e];rfl⟩
    |succ j=>exact g2 j u u' (by simpa using hu) (by simpa [Sh.encs] using hu')
   ·cases h
theorem aeh {codes:List K.U} {base:Base} {Om:Option TypeId} {elT:K.U->Option TypeId} {cs:K.U->List (Sh K)} {mk:(c:K.U)->Sh.Ts (cs c)->K.El c×Bool} {un:(c:K.U)->K.El c->Sh.Ts (cs c)} {byte:(c:K.U)->Option ((K.El c->UInt8)×(UInt8->K.El c))}
 (hf:∀c,zq (cs c)=true) (hl:∀c,(cs c).length=K.sz c) (hu:∀c y x,mk c y=(x,true)->un c x=y) (hb:∀c f g,byte c=some (f,g)->(∀x,Sh.encs (D0 K) (cs c) (un c x)=[.int .u8 ((f x).toNat:Int)]) /\ ∀b,f (g b)=b):bz (af1 cs mk un byte codes base Om elT):={
 len c x:=by show (Sh.encs (D0 K) (cs c) (un c x)).length=_;rw[IQ,hl]
 closed c x:=(IP _ _ (hf c)).1
 one c x:=(IP _ _ (hf c)).2
 dec c l x h:=fun ρ S w vs hr=>by
  change (match Sh.pz (D0 K) (cs c) l with
   |some y=>some (mk c y)
   |none=>none)=some (x,true) at h
  split at h
  ·rename_i y hy
   show bF _ ρ S w (Sh.encs (D0 K) (cs c) (un c x)) vs
   rw[hu c y x (Option.some.inj h)];exact Z4 _ _ _ (hf c) hy _ hr
  ·cases h
 byte:=hb
 flat c x:=U8 _ _ _ (hf c)
 kinds c x:=U9 _ _ (hf c)
 ac6 c l x h:=by
  change (match Sh.pz (D0 K) (cs c) l with
   |some y=>some (mk c y)
   |none=>none)=some (x,true) at h
  split at h
  ·rename_i y hy
   obtain ⟨g1,g2⟩:=Xw _ _ _ (hf c) hy;refine ⟨by rw[g1,hl],fun j v v' h1 h2=>g2 j v v' h1 ?_⟩
   change (Sh.encs (D0 K) (cs c) (un c x))[j]? =some v' at h2;rw[hu c y x (Option.some.inj h)] at h2;exact h2
  ·cases h}
def JK (n:Int):Bool:=decide (0<=n)&&decide (n<256)
def Bj (n:Int):UInt8:=UInt8.ofNat n.toNat
theorem ab9 {n:Int×Unit} {x:UInt8} (h:(Bj n.1,JK n.1)=(x,true)):((x.toNat:Int),())=n:=by
 simp only[Prod.mk.injEq,JK,Bool.and_eq_true,decide_eq_true_eq] at h;obtain ⟨rfl,h0,h3⟩:=h;obtain ⟨a,b⟩:=n;dsimp only at h0 h3 ⊢;have h1:a.toNat<256:=by omega
 have h2:((Bj a).toNat:Int)=a:=by
  unfold Bj;rw[UInt8.toNat_ofNat'];simp only[Nat.reducePow];rw[Nat.mod_eq_of_lt h1];omega
 rw[h2]
def aU {α:Type _}:List (Nat×α)->Nat->Option α
 | [],_=>none
 |p::r,n=>cond (Nat.beq p.1 n) (some p.2) (aU r n)
def aV {α:Type _} (d:α):List (Nat×α)->Nat->α
 | [],_=>d
 |p::r,n=>cond (Nat.beq p.1 n) p.2 (aV d r n)
end Go.V
