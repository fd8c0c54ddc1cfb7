/-
  SHAPES: of arguments, of what a loop knows, of what is yielded: how unknowns lie in abstract values and objects, how they are read off, and that reading off loses nothing that is true.
-/
import Derived.Test.YtefdfjaifkhphaaGreatDoorXWloop
set_option linter.unusedVariables false
namespace Go.V
open Go
variable {K :yu} {D:iU K} {ρ ρ':List Value} {S S':Nat->Prop} {w w':World} {H H':List (Ob K)}
inductive Sh (K:yu) where
 |any
 |int (k:IntKind)
 |bool
 |str
 |bn (c:K.U)
 |el (c:K.U)
 |rp (c:K.U) (off:Nat)
 |nD
 |eu
 |ptr (h off:Nat)
 |own (h:Nat)
 |fn (g:Nat) (caps:List (Sh K))
 |agg (l:List (Sh K))
 |ik (l:List (Sh K))
 |np (h:Nat)
 |ep (h:Nat) (c:K.U) (off:Nat)
inductive dK (K:yu) where
 |dead
 |box (l:List (Sh K))
 |el (c:K.U)
 |arr (c:K.U)
 |OX (c:K.U)
 |tree (c:K.U)
mutual
def Sh.T :Sh K->Type
 | .int _=>Int
 | .bool=>Bool
 | .str=>List UInt8
 | .bn c=>List (K.El c)
 | .el c=>K.El c
 | .rp c _=>K.El c
 | .ep _ _ _=>Nat
 | .fn _ l=>Sh.Ts l
 | .agg l=>Sh.Ts l
 | .ik l=>Sh.Ts l
 |_=>Unit
def Sh.Ts :List (Sh K)->Type
 | []=>Unit
 |s::r=>Sh.T s×Sh.Ts r
end
def dK.T :dK K->Type
 | .dead=>Unit
 | .box l=>Sh.Ts l
 | .el c=>K.El c
 | .arr c=>List (K.El c)
 | .OX c=>List (K.El c)
 | .tree c=>List (K.El c)
def dK.Ts :List (dK K)->Type
 | []=>Unit
 |s::r=>dK.T s×dK.Ts r
mutual
def Sh.enc (D:iU K):(s:Sh K)->s.T->AV K
 | .any,_=> .any
 | .int k,n=> .int k n
 | .bool,b=> .bool b
 | .str,s=> .str s
 | .bn c,l=> .bn c l
 | .el c,x=> .agg (D.cells c x)
 | .rp c o,x=> .rp c x o
 | .nD,_=> .nD
 | .eu,_=> .eu
 | .ptr h o,_=> .ptr h o
 | .own h,_=> .sl h
 | .np h,_=> .np h
 | .ep h c o,i=> .ep h (K.sz c) i o
 | .fn g l,x=> .fn g (Sh.encs D l x)
 | .agg l,x=> .agg (Sh.encs D l x)
 | .ik l,x=> .ik (Sh.encs D l x)
def Sh.encs (D:iU K):(l:List (Sh K))->Sh.Ts l->List (AV K)
 | [],_=>[]
 |s::r,x=>Sh.enc D s x.1::Sh.encs D r x.2
end
def dK.enc (D:iU K):(s:dK K)->s.T->Ob K
 | .dead,_=> .dead
 | .box l,x=> .box (Sh.encs D l x)
 | .el c,x=> .box (D.cells c x)
 | .arr c,x=> .arr c x
 | .OX c,x=> .OX c x
 | .tree c,x=> .tree c x
def dK.encs (D:iU K):(l:List (dK K))->dK.Ts l->List (Ob K)
 | [],_=>[]
 |s::r,x=>dK.enc D s x.1::dK.encs D r x.2
def AV.getInt (k:IntKind):AV K->Option Int
 | .int k' n=>if k=k' then some n else none
 |_=>none
def AV.getBool :AV K->Option Bool
 | .bool b=>some b
 |_=>none
def AV.abI :AV K->Option (List UInt8)
 | .str s=>some s
 |_=>none
def AV.YY :AV K->Option (List (AV K))
 | .agg l=>some l
 |_=>none
def AV.abJ :AV K->Option (List (AV K))
 | .ik l=>some l
 |_=>none
def AV.getFn (g:Nat):AV K->Option (List (AV K))
 | .fn g' l=>if g=g' then some l else none
 |_=>none
def AV.aeO (c:K.U) (o:Nat):AV K->Option (K.El c)
 | .rp c' x o'=>if o=o' then match K.deq c' c with
   | .isTrue h=>some (h ▸ x)
   | .isFalse _=>none else none
 |_=>none
def AV.abK :AV K->Option Unit
 | .nD=>some ()
 |_=>none
def AV.YZ :AV K->Option Unit
 | .eu=>some ()
 |_=>none
def AV.aeP (h o:Nat):AV K->Option Unit
 | .ptr h' o'=>if h=h' then if o=o' then some () else none else none
 |_=>none
def AV.aeQ (h:Nat):AV K->Option Unit
 | .sl h'=>if h=h' then some () else none
 |_=>none
def AV.ag0 (h:Nat):AV K->Option Unit
 | .np h'=>if h=h' then some () else none
 |_=>none
def AV.aeR (h:Nat) (c:K.U) (o:Nat):AV K->Option Nat
 | .ep h' st i o'=>if h=h' then if K.sz c=st then if o=o' then some i else none else none else none
 |_=>none
theorem AV.aeS {h:Nat} {c:K.U} {o:Nat} {v:AV K} {n:Nat} (hh:v.aeR h c o=some n):v= .ep h (K.sz c) n o:=by
 unfold AV.aeR at hh;split at hh
 ·split at hh
  ·split at hh
   ·split at hh
    ·rename_i h1 h2 h3;subst h1;subst h2;subst h3
     simp only[Option.some.injEq] at hh;subst hh;rfl
    ·cases hh
   ·cases hh
  ·cases hh
 ·cases hh
theorem AV.P5 {k:IntKind} {v:AV K} {n:Int} (h:v.getInt k=some n):v= .int k n:=by
 unfold AV.getInt at h;split at h
 ·split at h
  ·rename_i hk;subst hk;simp only[Option.some.injEq] at h;subst h;rfl
  ·cases h
 ·cases h
theorem AV.L6 {v:AV K} {n:Bool} (h:v.getBool=some n):v= .bool n:=by
 unfold AV.getBool at h;split at h
 ·simp only[Option.some.injEq] at h;subst h;rfl
 ·cases h
theorem AV.P6 {v:AV K} {n:List UInt8} (h:v.abI=some n):v= .str n:=by
 unfold AV.abI at h;split at h
 ·simp only[Option.some.injEq] at h;subst h;rfl
 ·cases h
theorem AV.XN {v:AV K} {n:List (AV K)} (h:v.YY=some n):v= .agg n:=by
 unfold AV.YY at h;split at h
 ·simp only[Option.some.injEq] at h;subst h;rfl
 ·cases h
theorem AV.adk {v:AV K} {n:List (AV K)} (h:v.abJ=some n):v= .ik n:=by
 unfold AV.abJ at h;split at h
 ·simp only[Option.some.injEq] at h;subst h;rfl
 ·cases h
theorem AV.aeT {g:Nat} {v:AV K} {n:List (AV K)} (h:v.getFn g=some n):v= .fn g n:=by
 unfold AV.getFn at h;split at h
 ·split at h
  ·rename_i hk;subst hk;simp only[Option.some.injEq] at h;subst h;rfl
  ·cases h
 ·cases h
theorem AV.aeU {c:K.U} {o:Nat} {v:AV K} {n:K.El c} (h:v.aeO c o=some n):v= .rp c n o:=by
 unfold AV.aeO at h;split at h
 ·split at h
  ·rename_i hk;subst hk
   split at h
   ·rename_i he _;subst he;simp only[Option.some.injEq] at h;subst h;rfl
   ·cases h
  ·cases h
 ·cases h
theorem AV.adl {v:AV K} {n:Unit} (h:v.abK=some n):v= .nD:=by
 unfold AV.abK at h;split at h
 ·rfl
 ·cases h
theorem AV.abL {v:AV K} {n:Unit} (h:v.YZ=some n):v= .eu:=by
 unfold AV.YZ at h;split at h
 ·rfl
 ·cases h
theorem AV.aeV {a o:Nat} {v:AV K} {n:Unit} (h:v.aeP a o=some n):v= .ptr a o:=by
 unfold AV.aeP at h;split at h
 ·split at h
  ·split at h
   ·rename_i h1 h2;subst h1;subst h2;rfl
   ·cases h
  ·cases h
 ·cases h
theorem AV.aeW {a:Nat} {v:AV K} {n:Unit} (h:v.aeQ a=some n):v= .sl a:=by
 unfold AV.aeQ at h;split at h
 ·split at h
  ·rename_i h1;subst h1;rfl
  ·cases h
 ·cases h
theorem AV.acy {a:Nat} {v:AV K} {n:Unit} (h:v.ag0 a=some n):v= .np a:=by
 unfold AV.ag0 at h;split at h
 ·split at h
  ·rename_i h1;subst h1;rfl
  ·cases h
 ·cases h
def sure {α:Type}:Option (α×Bool)->Option α
 |some (x,true)=>some x
 |_=>none
theorem acz {α:Type} {o:Option (α×Bool)} {x:α} (h:sure o=some x):o=some (x,true):=by
 unfold sure at h;split at h
 ·simp only[Option.some.injEq] at h;subst h;rfl
 ·cases h
mutual
def Sh.dec (D:iU K):(s:Sh K)->AV K->Option s.T
 | .any,_=>some ()
 | .int k,v=>v.getInt k
 | .bool,v=>v.getBool
 | .str,v=>v.abI
 | .bn c,v=>elems [] c v
 | .el c,v=>match v.YY with
   |some l=>sure (D.dec c l)
   |none=>none
 | .rp c o,v=>v.aeO c o
 | .nD,v=>v.abK
 | .eu,v=>v.YZ
 | .ptr h o,v=>v.aeP h o
 | .own h,v=>v.aeQ h
 | .np h,v=>v.ag0 h
 | .ep h c o,v=>v.aeR h c o
 | .fn g l,v=>match v.getFn g with
   |some l'=>Sh.pz D l l'
   |none=>none
 | .agg l,v=>match v.YY with
   |some l'=>Sh.pz D l l'
   |none=>none
 | .ik l,v=>match v.abJ with
   |some l'=>Sh.pz D l l'
   |none=>none
def Sh.pz (D:iU K):(l:List (Sh K))->List (AV K)->Option (Sh.Ts l)
 | [],[]=>some ()
 |s::r,v::l=>match Sh.dec D s v,Sh.pz D r l with
  |some x,some y=>some (x,y)
  |_,_=>none
 |_,_=>none
end
def Ob.Qp :Ob K->Option (List (AV K))
 | .box l=>some l
 |_=>none
def Ob.abM (c:K.U):Ob K->Option (List (K.El c))
 | .arr c' l=>match K.deq c' c with
   | .isTrue h=>some (h ▸ l)
   | .isFalse _=>none
 |_=>none
def Ob.abN (c:K.U):Ob K->Option (List (K.El c))
 | .OX c' l=>match K.deq c' c with
   | .isTrue h=>some (h ▸ l)
   | .isFalse _=>none
 |_=>none
def Ob.Y0 (c:K.U):Ob K->Option (List (K.El c))
 | .tree c' l=>match K.deq c' c with
   | .isTrue h=>some (h ▸ l)
   | .isFalse _=>none
 |_=>none
theorem Ob.XO {v:Ob K} {n:List (AV K)} (h:v.Qp=some n):v= .box n:=by
 unfold Ob.Qp at h;split at h
 ·simp only[Option.some.injEq] at h;subst h;rfl
 ·cases h
theorem Ob.adm {c:K.U} {v:Ob K} {n:List (K.El c)} (h:v.abM c=some n):v= .arr c n:=by
 unfold Ob.abM at h;split at h
 ·split at h
  ·rename_i he _;subst he;simp only[Option.some.injEq] at h;subst h;rfl
  ·cases h
 ·cases h
theorem Ob.adn {c:K.U} {v:Ob K} {n:List (K.El c)} (h:v.abN c=some n):v= .OX c n:=by
 unfold Ob.abN at h;split at h
 ·split at h
  ·rename_i he _;subst he;simp only[Option.some.injEq] at h;subst h;rfl
  ·cases h
 ·cases h
theorem Ob.abO {c:K.U} {v:Ob K} {n:List (K.El c)} (h:v.Y0 c=some n):v= .tree c n:=by
 unfold Ob.Y0 at h;split at h
 ·split at h
  ·rename_i he _;subst he;simp only[Option.some.injEq] at h;subst h;rfl
  ·cases h
 ·cases h
def dK.dec (D:iU K):(s:dK K)->Ob K->Option s.T
 | .dead,_=>some ()
 | .box l,o=>match o.Qp with
   |some cs=>Sh.pz D l cs
   |none=>none
 | .el c,o=>match o.Qp with
   |some cs=>sure (D.dec c cs)
   |none=>none
 | .arr c,o=>o.abM c
 | .OX c,o=>o.abN c
 | .tree c,o=>o.Y0 c
def dK.pz (D:iU K):(l:List (dK K))->List (Ob K)->Option (dK.Ts l)
 | [],[]=>some ()
 |s::r,v::l=>match dK.dec D s v,dK.pz D r l with
  |some x,some y=>some (x,y)
  |_,_=>none
 |_,_=>none
theorem TA (hD:bz D) {c:K.U} {v:AV K} {l:List (K.El c)} (h:elems [] c v=some l) {u:Value} (hr:Rep D ρ S w v u):Rep D ρ S w (.bn c l) u:=by
 unfold elems at h;split at h
 ·simp only[Option.some.injEq] at h;subst h;cases hr;exact .uO _ _
 ·split at h
  ·rename_i he _;subst he;simp only[Option.some.injEq] at h;subst h;exact hr
  ·cases h
 ·simp at h
 ·cases h
mutual
theorem Sh.zZ (hD:bz D):∀(s:Sh K) (v:AV K) (x:s.T),Sh.dec D s v=some x->∀u,Rep D ρ S w v u->Rep D ρ S w (Sh.enc D s x) u
 | .any,v,x,h,u,hr=> .any u
 | .int k,v,x,h,u,hr=>by rw[AV.P5 h] at hr;exact hr
 | .bool,v,x,h,u,hr=>by rw[AV.L6 h] at hr;exact hr
 | .str,v,x,h,u,hr=>by rw[AV.P6 h] at hr;exact hr
 | .bn c,v,x,h,u,hr=>TA hD h hr
 | .el c,v,x,h,u,hr=>by
   unfold Sh.dec at h;split at h
   ·rename_i l hl
    rw[AV.XN hl] at hr
    cases hr with
    |agg hl hh=>
     have:=hD.dec c _ _ (acz h) ρ S w _ ⟨hl,hh⟩;exact .agg this.1 this.2
   ·cases h
 | .rp c o,v,x,h,u,hr=>by rw[AV.aeU h] at hr;exact hr
 | .nD,v,x,h,u,hr=>by rw[AV.adl h] at hr;exact hr
 | .eu,v,x,h,u,hr=>by rw[AV.abL h] at hr;exact hr
 | .ptr a b,v,x,h,u,hr=>by rw[AV.aeV h] at hr;exact hr
 | .own a,v,x,h,u,hr=>by rw[AV.aeW h] at hr;exact hr
 | .np a,v,x,h,u,hr=>by rw[AV.acy h] at hr;exact hr
 | .ep a c o,v,x,h,u,hr=>by rw[AV.aeS h] at hr;exact hr
 | .fn g l,v,x,h,u,hr=>by
   unfold Sh.dec at h;split at h
   ·rename_i l' hl
    rw[AV.aeT hl] at hr
    cases hr with
    |fn hl hh=>
     have:=Sh.qL hD l _ x h _ ⟨hl,hh⟩;exact .fn this.1 this.2
   ·cases h
 | .agg l,v,x,h,u,hr=>by
   unfold Sh.dec at h;split at h
   ·rename_i l' hl
    rw[AV.XN hl] at hr
    cases hr with
    |agg hl hh=>
     have:=Sh.qL hD l _ x h _ ⟨hl,hh⟩;exact .agg this.1 this.2
   ·cases h
 | .ik l,v,x,h,u,hr=>by
   unfold Sh.dec at h;split at h
   ·rename_i l' hl
    rw[AV.adk hl] at hr
    cases hr with
    |ik hl hh=>
     have:=Sh.qL hD l _ x h _ ⟨hl,hh⟩;exact .ik this.1 this.2
   ·cases h
theorem Sh.qL (hD:bz D):∀(l:List (Sh K)) (vs:List (AV K)) (x:Sh.Ts l),Sh.pz D l vs=some x->∀us,bF D ρ S w vs us->bF D ρ S w (Sh.encs D l x) us
 | [],vs,x,h,us,hr=>by
   cases vs with
   |nil=>exact hr
   |cons v r=>unfold Sh.pz at h;cases h
 |s::r,vs,x,h,us,hr=>by
  cases vs with
  |nil=>unfold Sh.pz at h;cases h
  |cons v l=>
   unfold Sh.pz at h;split at h
   ·rename_i a b h1 h2
    have h:=Option.some.inj h;subst h;obtain ⟨u,t,rfl,g1,g2⟩:=hr.oM;exact .cons (Sh.zZ hD s v a h1 u g1) (Sh.qL hD r l b h2 t g2)
   ·cases h
end
theorem Xi {l:List (AV K)} (h:iQ l=true):wu l=false:=by
 cases l with
 |nil=>rfl
 |cons v r=>
  simp only[iQ,Bool.and_eq_true] at h
  cases v<;>first |rfl |(simp[AV.closed] at h)
theorem aaI {l:List (Sh K)} {cs:List (AV K)} {x:Sh.Ts l} (h:Sh.pz D l cs=some x) (hn:wu (Sh.encs D l x)=true):wu cs=true:=by
 cases l with
 |nil=>unfold Sh.encs at hn;cases hn
 |cons s r=>
  cases cs with
  |nil=>unfold Sh.pz at h;cases h
  |cons v vs=>
   unfold Sh.pz at h;split at h
   ·rename_i a b h1 h2
    have h:=Option.some.inj h;subst h;change wu (Sh.enc D s a::Sh.encs D r b)=true at hn
    cases s
    all_goals first
     |exact absurd (show false=true from hn) (by simp)
     |(have h3:=AV.acy (v:=v) h1;rw[h3];rfl)
   ·cases h
theorem dK.zZ (hD:bz D) (s:dK K) (o:Ob K) (x:s.T) (h:dK.dec D s o=some x):((dK.enc D s x).live=true->o.live=true /\ ∀w r b,eH D w (dK.enc D s x) r b->eH D w o r b) /\ ∀r,oq D ρ S w o r->oq D ρ S w (dK.enc D s x) r:=by
 cases s with
 |dead=>exact ⟨fun h=>Bool.noConfusion h,fun _ _=>trivial⟩
 |box l=>
  change (match o.Qp with
   |some cs=>Sh.pz D l cs
   |none=>none)=some x at h
  split at h
  ·rename_i cs hcs
   rw[Ob.XO hcs];refine ⟨fun _=>⟨rfl,fun _ _ _ h=>h⟩,fun r hh=> ?_⟩
   obtain ⟨b,vs,T,e,h1,h2,h3⟩:=hh;exact ⟨b,vs,T,e,h1,Sh.qL hD l _ x h _ h2,fun hn=>h3 (aaI h hn)⟩
  ·cases h
 |el c=>
  change (match o.Qp with
   |some cs=>sure (D.dec c cs)
   |none=>none)=some x at h
  split at h
  ·rename_i cs hcs
   rw[Ob.XO hcs];refine ⟨fun _=>⟨rfl,fun _ _ _ h=>h⟩,fun r hh=> ?_⟩
   obtain ⟨b,vs,T,e,h1,h2,h3⟩:=hh;exact ⟨b,vs,T,e,h1,hD.dec c _ _ (acz h) ρ S w _ h2,fun hn=>by rw[Xi (hD.closed c x)] at hn;cases hn⟩
  ·cases h
 |arr c=>rw[Ob.adm h];exact ⟨fun h=>⟨h,fun _ _ _ h=>h⟩,fun _ h=>h⟩
 |OX c=>rw[Ob.adn h];exact ⟨fun h=>⟨h,fun _ _ _ h=>h⟩,fun _ h=>h⟩
 |tree c=>rw[Ob.abO h];exact ⟨fun h=>⟨h,fun _ _ _ h=>h⟩,fun _ h=>h⟩
theorem dK.OW :∀(l:List (dK K)) (os:List (Ob K)) (x:dK.Ts l),dK.pz D l os=some x->(dK.encs D l x).length=os.length /\ ∀(i:Nat) o',(dK.encs D l x)[i]? =some o'->∃o,os[i]? =some o /\ ∃(s:dK K) (y:s.T),dK.dec D s o=some y /\ o'=dK.enc D s y
 | [],os,x,h=>by
   cases os with
   |nil=>exact ⟨rfl,fun i o' h=>by simp[dK.encs] at h⟩
   |cons v r=>simp[dK.pz] at h
 |s::r,os,x,h=>by
  cases os with
  |nil=>simp[dK.pz] at h
  |cons v l=>
   simp only[dK.pz] at h;split at h
   ·rename_i a b h1 h2
    have h:=Option.some.inj h;subst h;obtain ⟨g1,g2⟩:=dK.OW r l b h2;refine ⟨by simp only[dK.encs,List.length_cons];rw[g1],fun i o' hi=> ?_⟩
    cases i with
    |zero=>simp[dK.encs] at hi;exact ⟨v,rfl,s,a,h1,hi.symm⟩
    |succ i=>simp[dK.encs] at hi;obtain ⟨o,q⟩:=g2 i o' hi;exact ⟨o,by simpa using q.1,q.2⟩
   ·cases h
structure Wk (D:iU K) (vs:List (AV K)) (H:List (Ob K)) (vs':List (AV K)) (H':List (Ob K)):Prop where
 len:H'.length=H.length
 agV:∀ρ S w us,bF D ρ S w vs us->bF D ρ S w vs' us
 heap:∀ρ S w,ay D ρ S w H->ay D ρ S w H'
 own:∀w ρ b,Own D w ρ H' b->Own D w ρ H b
theorem Wk.step {vs vs':List (AV K)} {n0:Nat} (h:Wk D vs H vs' H'):Step D n0 ρ S H w ρ S H' w:=
 ⟨rfl,rfl,rfl,Nat.le_refl _,fun _ _ _=>rfl,fun b hb=> .inl (h.own _ _ b hb),fun _ h=>h,fun _ h=> .inl h,fun _ _=>rfl⟩
theorem dK.aaJ {l:List (dK K)} {os:List (Ob K)} {x:dK.Ts l} (hD:bz D) (h:dK.pz D l os=some x) (w:World) (ρ:List Value) (b:Nat) (hb:Own D w ρ (dK.encs D l x) b):Own D w ρ os b:=by
 obtain ⟨i,o',r,h1,h2,h3,h4⟩:=hb;obtain ⟨o,q1,s,y,q2,rfl⟩:=(dK.OW l os x h).2 i o' h1;have q3:=(dK.zZ (ρ:=ρ) (S:=fun _=>False) (w:=w) hD s o y q2).1 h2
 exact ⟨i,o,r,q1,q3.1,h3,q3.2 _ _ _ h4⟩
theorem dK.qL {l:List (dK K)} {os:List (Ob K)} {x:dK.Ts l} (hD:bz D) (h:dK.pz D l os=some x) (hs:ay D ρ S w os):ay D ρ S w (dK.encs D l x):=by
 obtain ⟨g1,g2⟩:=dK.OW l os x h;refine ⟨by rw[g1];exact hs.len,fun i o' r h1 h2=> ?_,fun i j o o' r r' b h1 h2 h3 h4 c1 c2 c3 c4=> ?_,fun b hb=>hs.lt b (dK.aaJ hD h w ρ b hb),hs.slt,hs.base⟩
 ·obtain ⟨o,q1,s,y,q2,rfl⟩:=g2 i o' h1
  exact (dK.zZ hD s o y q2).2 r (hs.ob i o r q1 h2)
 ·obtain ⟨o1,q1,s,y,q2,rfl⟩:=g2 i o h1
  obtain ⟨o2,p1,s',y',p2,rfl⟩:=g2 j o' c1;have a1:=(dK.zZ (ρ:=ρ) (S:=S) (w:=w) hD s o1 y q2).1 h2;have a2:=(dK.zZ (ρ:=ρ) (S:=S) (w:=w) hD s' o2 y' p2).1 c2;exact hs.qi i j o1 o2 r r' b q1 a1.1 h3 (a1.2 _ _ _ h4) p1 a2.1 c3 (a2.2 _ _ _ c4)
structure gB (K:yu) where
 vs:List (Sh K)
 os:List (dK K)
def gB.T (c:gB K):Type:=Sh.Ts c.vs×dK.Ts c.os
def gB.dec (D:iU K) (c:gB K) (vs:List (AV K)) (H:List (Ob K)):Option c.T:=
 match Sh.pz D c.vs vs,dK.pz D c.os H with
 |some a,some b=>some (a,b)
 |_,_=>none
def gB.gW (D:iU K) (c:gB K) (x:c.T):List (AV K):=Sh.encs D c.vs x.1
def gB.gY (D:iU K) (c:gB K) (x:c.T):List (Ob K):=dK.encs D c.os x.2
theorem gB.VF (hD:bz D) {c:gB K} {vs:List (AV K)} {x:c.T} (h:c.dec D vs H=some x):Wk D vs H (c.gW D x) (c.gY D x):=by
 unfold gB.dec at h;split at h
 ·rename_i a b h1 h2
  have h:=Option.some.inj h;subst h;exact ⟨(dK.OW c.os H b h2).1,fun ρ S w us hr=>Sh.qL hD c.vs vs a h1 us hr,fun ρ S w hs=>dK.qL hD h2 hs,fun w ρ b' hb=>dK.aaJ hD h2 w ρ b' hb⟩
 ·cases h
end Go.V
