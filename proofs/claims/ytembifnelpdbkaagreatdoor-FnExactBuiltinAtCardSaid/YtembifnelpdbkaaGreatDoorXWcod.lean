/-
  CODES THAT ARE LISTS OF CELLS: how a struct lies in cells, by the shapes of its cells.
-/
import Derived.Test.YtembifnelpdbkaaGreatDoorXWfun
set_option linter.unusedVariables false
namespace Go.V
open Go
variable {K :Gf} {D:lG K} {ρ ρ':List Value} {S S':Nat->Prop} {w w':World}
def Sh.flat :Sh K->Bool
 | .int _ | .bool | .str | .aZ _=>true
 |_=>false
def I7 : List (Sh K)->Bool
 | []=>true
 |s::r=>s.flat&&I7 r
def D0 (K:Gf):lG K:={cells:=fun _ _=>[],dec:=fun _ _=>none,byte:=fun _=>none,find:=fun _=>none}
def avJ (cs:K.U->List (Sh K)):List K.U->List (AV K)->Option K.U
 | [],_=>none
 |c::r,l=>match Sh.xA (D0 K) (cs c) l with
  |some _=>some c
  |none=>avJ cs r l
def aAm (cs:K.U->List (Sh K)) (mk:(c:K.U)->Sh.Ts (cs c)->K.El c×Bool) (un:(c:K.U)->K.El c->Sh.Ts (cs c)) (byte:(c:K.U)->Option ((K.El c->UInt8)×(UInt8->K.El c))) (codes:List K.U) (base:Base:=Base.aEn) (agN:Option TypeId:=none) (elT:K.U->Option TypeId:=fun _=>none):lG K:={
 base:=base
 agN:=agN
 elT:=elT
 cells c x:=Sh.encs (D0 K) (cs c) (un c x)
 dec c l:=match Sh.xA (D0 K) (cs c) l with
  |some y=>some (mk c y)
  |none=>none
 byte:=byte
 find l:=avJ cs codes l}
theorem ajm {c:K.U} {v:AV K} {l:List (K.El c)} (h:elems [] c v=some l) {u:Value} (hr:Rep D ρ S w v u):Rep D ρ S w (.aZ c l) u:=by
 unfold elems at h;split at h
 ·simp only[Option.some.injEq] at h;subst h;cases hr;exact .En _ _
 ·split at h
  ·rename_i he _;subst he;simp only[Option.some.injEq] at h;subst h;exact hr
  ·cases h
 ·simp at h
 ·cases h
theorem avK : ∀(l:List (Sh K)) (vs:List (AV K)) (x:Sh.Ts l),I7 l=true->Sh.xA (D0 K) l vs=some x->∀us,dM D ρ S w vs us->dM D ρ S w (Sh.encs (D0 K) l x) us
 | [],vs,x,hf,h,us,hr=>by
   cases vs with
   |nil=>exact hr
   |cons v r=>unfold Sh.xA at h;cases h
 |s::r,vs,x,hf,h,us,hr=>by
  simp only[I7,Bool.and_eq_true] at hf
  cases vs with
  |nil=>unfold Sh.xA at h;cases h
  |cons v l=>
   unfold Sh.xA at h;split at h
   ·rename_i a b h1 h2
    have h:=Option.some.inj h;subst h;obtain ⟨u,t,rfl,g1,g2⟩:=hr.uo;refine .cons ?_ (avK r l b hf.2 h2 t g2)
    cases s<;>simp only[Sh.flat] at hf<;>first |(exact absurd hf.1 Bool.false_ne_true) |skip
    ·rw[AV.ajn h1] at g1;exact g1
    ·rw[AV.ad6 h1] at g1;exact g1
    ·rw[AV.ajo h1] at g1;exact g1
    ·exact ajm h1 g1
   ·cases h
theorem Za : ∀(l:List (Sh K)) (x:Sh.Ts l),I7 l=true->lI (Sh.encs (D0 K) l x)=true /\ (Sh.encs (D0 K) l x).all AV.one=true
 | [],x,hf=>⟨rfl,rfl⟩
 |s::r,x,hf=>by
  simp only[I7,Bool.and_eq_true] at hf;obtain ⟨h1,h2⟩:=Za r x.2 hf.2;simp only[Sh.encs,lI,List.all_cons,Bool.and_eq_true];refine ⟨⟨?_,h1⟩, ?_,h2⟩<;>(cases s<;>simp only[Sh.flat] at hf<;>first |(exact absurd hf.1 Bool.false_ne_true) |rfl)
theorem apk : ∀(l:List (Sh K)) (x y:Sh.Ts l),I7 l=true->fB (Sh.encs (D0 K) l x)=fB (Sh.encs (D0 K) l y)
 | [],x,y,hf=>rfl
 |s::r,x,y,hf=>by
  simp only[I7,Bool.and_eq_true] at hf;simp only[Sh.encs,fB];rw[apk r x.2 y.2 hf.2]
  congr 1
  cases s<;>simp only[Sh.flat] at hf<;>first |(exact absurd hf.1 Bool.false_ne_true) |rfl
theorem apl : ∀(l:List (Sh K)) (x:Sh.Ts l),I7 l=true->∀(j:Nat) v,(Sh.encs (D0 K) l x)[j]? =some v->v≠ .iG /\ (v.Rq=false->oz v=false)
 | [],x,hf,j,v,h=>by simp[Sh.encs] at h
 |s::r,x,hf,j,v,h=>by
  simp only[I7,Bool.and_eq_true] at hf
  cases j with
  |zero=>
   simp[Sh.encs] at h;subst h
   cases s<;>simp only[Sh.flat] at hf<;>first |(exact absurd hf.1 Bool.false_ne_true) |exact ⟨fun e=>(by cases e),fun _=>rfl⟩ |exact ⟨fun e=>(by cases e),fun e=>by cases e⟩
  |succ j=>exact apl r x.2 hf.2 j v (by simpa [Sh.encs] using h)
theorem amS {c:K.U} {v:AV K} {l:List (K.El c)} (h:elems [] c v=some l):v= .aZ c l \/ (v= .iG /\ l=[]):=by
 unfold elems at h;split at h
 ·simp only[Option.some.injEq] at h;exact .inr ⟨rfl,h.symm⟩
 ·split at h
  ·rename_i he _;subst he;simp only[Option.some.injEq] at h;subst h;exact .inl rfl
  ·cases h
 ·simp at h
 ·cases h
theorem ase : ∀(l:List (Sh K)) (vs:List (AV K)) (x:Sh.Ts l),I7 l=true->Sh.xA (D0 K) l vs=some x->vs.length=l.length /\ ∀(j:Nat) v v',vs[j]? =some v->(Sh.encs (D0 K) l x)[j]? =some v'->v'=v \/ (v= .iG /\ ∃c',v'= .aZ c' [])
 | [],vs,x,hf,h=>by
   cases vs with
   |nil=>exact ⟨rfl,fun j v v' h=>by simp at h⟩
   |cons v r=>unfold Sh.xA at h;cases h
 |s::r,vs,x,hf,h=>by
  simp only[I7,Bool.and_eq_true] at hf
  cases vs with
  |nil=>unfold Sh.xA at h;cases h
  |cons v l=>
   unfold Sh.xA at h;split at h
   ·rename_i a b h1 h2
    have h:=Option.some.inj h;subst h;obtain ⟨g1,g2⟩:=ase r l b hf.2 h2;refine ⟨by simp[g1],fun j u u' hu hu'=> ?_⟩
    cases j with
    |zero=>
     simp[Sh.encs] at hu hu';subst hu;subst hu'
     cases s<;>simp only[Sh.flat] at hf<;>first |(exact absurd hf.1 Bool.false_ne_true) |skip
     ·exact .inl (AV.ajn h1).symm
     ·exact .inl (AV.ad6 h1).symm
     ·exact .inl (AV.ajo h1).symm
     ·rcases amS h1 with h |⟨h,e⟩
      ·exact .inl h.symm
      ·exact .inr ⟨h,_,by rw[e];rfl⟩
    |succ j=>exact g2 j u u' (by simpa using hu) (by simpa [Sh.encs] using hu')
   ·cases h
theorem aAS {codes:List K.U} {base:Base} {agN:Option TypeId} {elT:K.U->Option TypeId} {cs:K.U->List (Sh K)} {mk:(c:K.U)->Sh.Ts (cs c)->K.El c×Bool} {un:(c:K.U)->K.El c->Sh.Ts (cs c)} {byte:(c:K.U)->Option ((K.El c->UInt8)×(UInt8->K.El c))}
 (hf:∀c,I7 (cs c)=true) (hl:∀c,(cs c).length=K.sz c) (hu:∀c y x,mk c y=(x,true)->un c x=y) (hb:∀c f g,byte c=some (f,g)->(∀x,Sh.encs (D0 K) (cs c) (un c x)=[.int .u8 ((f x).toNat:Int)]) /\ ∀b,f (g b)=b):dL (aAm cs mk un byte codes base agN elT):={
 len c x:=by show (Sh.encs (D0 K) (cs c) (un c x)).length=_;rw[Zb,hl]
 closed c x:=(Za _ _ (hf c)).1
 one c x:=(Za _ _ (hf c)).2
 dec c l x h:=fun ρ S w vs hr=>by
  change (match Sh.xA (D0 K) (cs c) l with
   |some y=>some (mk c y)
   |none=>none)=some (x,true) at h
  split at h
  ·rename_i y hy
   show dM _ ρ S w (Sh.encs (D0 K) (cs c) (un c x)) vs
   rw[hu c y x (Option.some.inj h)];exact avK _ _ _ (hf c) hy _ hr
  ·cases h
 byte:=hb
 flat c x:=apk _ _ _ (hf c)
 kinds c x:=apl _ _ (hf c)
 aA3 c l x h:=by
  change (match Sh.xA (D0 K) (cs c) l with
   |some y=>some (mk c y)
   |none=>none)=some (x,true) at h
  split at h
  ·rename_i y hy
   obtain ⟨g1,g2⟩:=ase _ _ _ (hf c) hy;refine ⟨by rw[g1,hl],fun j v v' h1 h2=>g2 j v v' h1 ?_⟩
   change (Sh.encs (D0 K) (cs c) (un c x))[j]? =some v' at h2;rw[hu c y x (Option.some.inj h)] at h2;exact h2
  ·cases h}
def au0 (n:Int):Bool:=decide (0<=n)&&decide (n<256)
def au1 (n:Int):UInt8:=UInt8.ofNat n.toNat
theorem aye {n:Int×Unit} {x:UInt8} (h:(au1 n.1,au0 n.1)=(x,true)):((x.toNat:Int),())=n:=by
 simp only[Prod.mk.injEq,au0,Bool.and_eq_true,decide_eq_true_eq] at h;obtain ⟨rfl,h0,h3⟩:=h;obtain ⟨a,b⟩:=n;dsimp only at h0 h3 ⊢;have h1:a.toNat<256:=by omega
 have h2:((au1 a).toNat:Int)=a:=by
  unfold au1;rw[UInt8.toNat_ofNat'];simp only[Nat.reducePow];rw[Nat.mod_eq_of_lt h1];omega
 rw[h2]
def ry {α:Type _}:List (Nat×α)->Nat->Option α
 | [],_=>none
 |p::r,n=>cond (Nat.beq p.1 n) (some p.2) (ry r n)
def uX {α:Type _} (d:α):List (Nat×α)->Nat->α
 | [],_=>d
 |p::r,n=>cond (Nat.beq p.1 n) p.2 (uX d r n)
end Go.V
