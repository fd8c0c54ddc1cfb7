/-
  SHAPES: of arguments, of what a loop knows, of what is yielded: how unknowns lie in abstract values and objects, how they are read off, and that reading off loses nothing that is true.
-/
import Derived.Test.YtcnhfiflhplokaaGreatDoorXWloop
set_option linter.unusedVariables false
namespace Go.V
open Go
variable {K :yG} {D:jl K} {ρ ρ':List Value} {S S':Nat->Prop} {w w':World} {H H':List (Ob K)}
inductive Sh (K:yG) where
 |any
 |int (k:IntKind)
 |bool
 |str
 |cO (c:K.U)
 |el (c:K.U)
 |rp (c:K.U) (off:Nat)
 |oG
 |eY
 |ptr (h off:Nat)
 |own (h:Nat)
 |fn (g:Nat) (caps:List (Sh K))
 |agg (l:List (Sh K))
 |mJ (l:List (Sh K))
 |np (h:Nat)
inductive dY (K:yG) where
 |dead
 |box (l:List (Sh K))
 |el (c:K.U)
 |arr (c:K.U)
 |WW (c:K.U)
 |tree (c:K.U)
mutual
def Sh.T :Sh K->Type
 | .int _=>Int
 | .bool=>Bool
 | .str=>List UInt8
 | .cO c=>List (K.El c)
 | .el c=>K.El c
 | .rp c _=>K.El c
 | .fn _ l=>Sh.Ts l
 | .agg l=>Sh.Ts l
 | .mJ l=>Sh.Ts l
 |_=>Unit
def Sh.Ts :List (Sh K)->Type
 | []=>Unit
 |s::r=>Sh.T s×Sh.Ts r
end
def dY.T :dY K->Type
 | .dead=>Unit
 | .box l=>Sh.Ts l
 | .el c=>K.El c
 | .arr c=>List (K.El c)
 | .WW c=>List (K.El c)
 | .tree c=>List (K.El c)
def dY.Ts :List (dY K)->Type
 | []=>Unit
 |s::r=>dY.T s×dY.Ts r
mutual
def Sh.enc (D:jl K):(s:Sh K)->s.T->AV K
 | .any,_=> .any
 | .int k,n=> .int k n
 | .bool,b=> .bool b
 | .str,s=> .str s
 | .cO c,l=> .cO c l
 | .el c,x=> .agg (D.cells c x)
 | .rp c o,x=> .rp c x o
 | .oG,_=> .oG
 | .eY,_=> .eY
 | .ptr h o,_=> .ptr h o
 | .own h,_=> .sl h
 | .np h,_=> .np h
 | .fn g l,x=> .fn g (Sh.encs D l x)
 | .agg l,x=> .agg (Sh.encs D l x)
 | .mJ l,x=> .mJ (Sh.encs D l x)
def Sh.encs (D:jl K):(l:List (Sh K))->Sh.Ts l->List (AV K)
 | [],_=>[]
 |s::r,x=>Sh.enc D s x.1::Sh.encs D r x.2
end
def dY.enc (D:jl K):(s:dY K)->s.T->Ob K
 | .dead,_=> .dead
 | .box l,x=> .box (Sh.encs D l x)
 | .el c,x=> .box (D.cells c x)
 | .arr c,x=> .arr c x
 | .WW c,x=> .WW c x
 | .tree c,x=> .tree c x
def dY.encs (D:jl K):(l:List (dY K))->dY.Ts l->List (Ob K)
 | [],_=>[]
 |s::r,x=>dY.enc D s x.1::dY.encs D r x.2
def AV.getInt (k:IntKind):AV K->Option Int
 | .int k' n=>if k=k' then some n else none
 |_=>none
def AV.getBool :AV K->Option Bool
 | .bool b=>some b
 |_=>none
def AV.acT :AV K->Option (List UInt8)
 | .str s=>some s
 |_=>none
def AV.ZY :AV K->Option (List (AV K))
 | .agg l=>some l
 |_=>none
def AV.acU :AV K->Option (List (AV K))
 | .mJ l=>some l
 |_=>none
def AV.getFn (g:Nat):AV K->Option (List (AV K))
 | .fn g' l=>if g=g' then some l else none
 |_=>none
def AV.aga (c:K.U) (o:Nat):AV K->Option (K.El c)
 | .rp c' x o'=>if o=o' then match K.deq c' c with
   | .isTrue h=>some (h ▸ x)
   | .isFalse _=>none else none
 |_=>none
def AV.acV :AV K->Option Unit
 | .oG=>some ()
 |_=>none
def AV.ZZ :AV K->Option Unit
 | .eY=>some ()
 |_=>none
def AV.agb (h o:Nat):AV K->Option Unit
 | .ptr h' o'=>if h=h' then if o=o' then some () else none else none
 |_=>none
def AV.agc (h:Nat):AV K->Option Unit
 | .sl h'=>if h=h' then some () else none
 |_=>none
def AV.aih (h:Nat):AV K->Option Unit
 | .np h'=>if h=h' then some () else none
 |_=>none
theorem AV.QD {k:IntKind} {v:AV K} {n:Int} (h:v.getInt k=some n):v= .int k n:=by
 unfold AV.getInt at h;split at h
 ·split at h
  ·rename_i hk;subst hk;simp only[Option.some.injEq] at h;subst h;rfl
  ·cases h
 ·cases h
theorem AV.NG {v:AV K} {n:Bool} (h:v.getBool=some n):v= .bool n:=by
 unfold AV.getBool at h;split at h
 ·simp only[Option.some.injEq] at h;subst h;rfl
 ·cases h
theorem AV.QE {v:AV K} {n:List UInt8} (h:v.acT=some n):v= .str n:=by
 unfold AV.acT at h;split at h
 ·simp only[Option.some.injEq] at h;subst h;rfl
 ·cases h
theorem AV.YK {v:AV K} {n:List (AV K)} (h:v.ZY=some n):v= .agg n:=by
 unfold AV.ZY at h;split at h
 ·simp only[Option.some.injEq] at h;subst h;rfl
 ·cases h
theorem AV.aex {v:AV K} {n:List (AV K)} (h:v.acU=some n):v= .mJ n:=by
 unfold AV.acU at h;split at h
 ·simp only[Option.some.injEq] at h;subst h;rfl
 ·cases h
theorem AV.agd {g:Nat} {v:AV K} {n:List (AV K)} (h:v.getFn g=some n):v= .fn g n:=by
 unfold AV.getFn at h;split at h
 ·split at h
  ·rename_i hk;subst hk;simp only[Option.some.injEq] at h;subst h;rfl
  ·cases h
 ·cases h
theorem AV.age {c:K.U} {o:Nat} {v:AV K} {n:K.El c} (h:v.aga c o=some n):v= .rp c n o:=by
 unfold AV.aga at h;split at h
 ·split at h
  ·rename_i hk;subst hk
   split at h
   ·rename_i he _;subst he;simp only[Option.some.injEq] at h;subst h;rfl
   ·cases h
  ·cases h
 ·cases h
theorem AV.aey {v:AV K} {n:Unit} (h:v.acV=some n):v= .oG:=by
 unfold AV.acV at h;split at h
 ·rfl
 ·cases h
theorem AV.acW {v:AV K} {n:Unit} (h:v.ZZ=some n):v= .eY:=by
 unfold AV.ZZ at h;split at h
 ·rfl
 ·cases h
theorem AV.agf {a o:Nat} {v:AV K} {n:Unit} (h:v.agb a o=some n):v= .ptr a o:=by
 unfold AV.agb at h;split at h
 ·split at h
  ·split at h
   ·rename_i h1 h2;subst h1;subst h2;rfl
   ·cases h
  ·cases h
 ·cases h
theorem AV.agh {a:Nat} {v:AV K} {n:Unit} (h:v.agc a=some n):v= .sl a:=by
 unfold AV.agc at h;split at h
 ·split at h
  ·rename_i h1;subst h1;rfl
  ·cases h
 ·cases h
theorem AV.adO {a:Nat} {v:AV K} {n:Unit} (h:v.aih a=some n):v= .np a:=by
 unfold AV.aih at h;split at h
 ·split at h
  ·rename_i h1;subst h1;rfl
  ·cases h
 ·cases h
def sure {α:Type}:Option (α×Bool)->Option α
 |some (x,true)=>some x
 |_=>none
theorem adP {α:Type} {o:Option (α×Bool)} {x:α} (h:sure o=some x):o=some (x,true):=by
 unfold sure at h;split at h
 ·simp only[Option.some.injEq] at h;subst h;rfl
 ·cases h
mutual
def Sh.dec (D:jl K):(s:Sh K)->AV K->Option s.T
 | .any,_=>some ()
 | .int k,v=>v.getInt k
 | .bool,v=>v.getBool
 | .str,v=>v.acT
 | .cO c,v=>elems [] c v
 | .el c,v=>match v.ZY with
   |some l=>sure (D.dec c l)
   |none=>none
 | .rp c o,v=>v.aga c o
 | .oG,v=>v.acV
 | .eY,v=>v.ZZ
 | .ptr h o,v=>v.agb h o
 | .own h,v=>v.agc h
 | .np h,v=>v.aih h
 | .fn g l,v=>match v.getFn g with
   |some l'=>Sh.qj D l l'
   |none=>none
 | .agg l,v=>match v.ZY with
   |some l'=>Sh.qj D l l'
   |none=>none
 | .mJ l,v=>match v.acU with
   |some l'=>Sh.qj D l l'
   |none=>none
def Sh.qj (D:jl K):(l:List (Sh K))->List (AV K)->Option (Sh.Ts l)
 | [],[]=>some ()
 |s::r,v::l=>match Sh.dec D s v,Sh.qj D r l with
  |some x,some y=>some (x,y)
  |_,_=>none
 |_,_=>none
end
def Ob.QW :Ob K->Option (List (AV K))
 | .box l=>some l
 |_=>none
def Ob.acX (c:K.U):Ob K->Option (List (K.El c))
 | .arr c' l=>match K.deq c' c with
   | .isTrue h=>some (h ▸ l)
   | .isFalse _=>none
 |_=>none
def Ob.acY (c:K.U):Ob K->Option (List (K.El c))
 | .WW c' l=>match K.deq c' c with
   | .isTrue h=>some (h ▸ l)
   | .isFalse _=>none
 |_=>none
def Ob.Z4 (c:K.U):Ob K->Option (List (K.El c))
 | .tree c' l=>match K.deq c' c with
   | .isTrue h=>some (h ▸ l)
   | .isFalse _=>none
 |_=>none
theorem Ob.YL {v:Ob K} {n:List (AV K)} (h:v.QW=some n):v= .box n:=by
 unfold Ob.QW at h;split at h
 ·simp only[Option.some.injEq] at h;subst h;rfl
 ·cases h
theorem Ob.aez {c:K.U} {v:Ob K} {n:List (K.El c)} (h:v.acX c=some n):v= .arr c n:=by
 unfold Ob.acX at h;split at h
 ·split at h
  ·rename_i he _;subst he;simp only[Option.some.injEq] at h;subst h;rfl
  ·cases h
 ·cases h
theorem Ob.aeA {c:K.U} {v:Ob K} {n:List (K.El c)} (h:v.acY c=some n):v= .WW c n:=by
 unfold Ob.acY at h;split at h
 ·split at h
  ·rename_i he _;subst he;simp only[Option.some.injEq] at h;subst h;rfl
  ·cases h
 ·cases h
theorem Ob.acZ {c:K.U} {v:Ob K} {n:List (K.El c)} (h:v.Z4 c=some n):v= .tree c n:=by
 unfold Ob.Z4 at h;split at h
 ·split at h
  ·rename_i he _;subst he;simp only[Option.some.injEq] at h;subst h;rfl
  ·cases h
 ·cases h
def dY.dec (D:jl K):(s:dY K)->Ob K->Option s.T
 | .dead,_=>some ()
 | .box l,o=>match o.QW with
   |some cs=>Sh.qj D l cs
   |none=>none
 | .el c,o=>match o.QW with
   |some cs=>sure (D.dec c cs)
   |none=>none
 | .arr c,o=>o.acX c
 | .WW c,o=>o.acY c
 | .tree c,o=>o.Z4 c
def dY.qj (D:jl K):(l:List (dY K))->List (Ob K)->Option (dY.Ts l)
 | [],[]=>some ()
 |s::r,v::l=>match dY.dec D s v,dY.qj D r l with
  |some x,some y=>some (x,y)
  |_,_=>none
 |_,_=>none
theorem Uj (hD:bU D) {c:K.U} {v:AV K} {l:List (K.El c)} (h:elems [] c v=some l) {u:Value} (hr:Rep D ρ S w v u):Rep D ρ S w (.cO c l) u:=by
 unfold elems at h;split at h
 ·simp only[Option.some.injEq] at h;subst h;cases hr;exact .vO _ _
 ·split at h
  ·rename_i he _;subst he;simp only[Option.some.injEq] at h;subst h;exact hr
  ·cases h
 ·simp at h
 ·cases h
mutual
theorem Sh.Az (hD:bU D):∀(s:Sh K) (v:AV K) (x:s.T),Sh.dec D s v=some x->∀u,Rep D ρ S w v u->Rep D ρ S w (Sh.enc D s x) u
 | .any,v,x,h,u,hr=> .any u
 | .int k,v,x,h,u,hr=>by rw[AV.QD h] at hr;exact hr
 | .bool,v,x,h,u,hr=>by rw[AV.NG h] at hr;exact hr
 | .str,v,x,h,u,hr=>by rw[AV.QE h] at hr;exact hr
 | .cO c,v,x,h,u,hr=>Uj hD h hr
 | .el c,v,x,h,u,hr=>by
   unfold Sh.dec at h;split at h
   ·rename_i l hl
    rw[AV.YK hl] at hr
    cases hr with
    |agg hl hh=>
     have:=hD.dec c _ _ (adP h) ρ S w _ ⟨hl,hh⟩;exact .agg this.1 this.2
   ·cases h
 | .rp c o,v,x,h,u,hr=>by rw[AV.age h] at hr;exact hr
 | .oG,v,x,h,u,hr=>by rw[AV.aey h] at hr;exact hr
 | .eY,v,x,h,u,hr=>by rw[AV.acW h] at hr;exact hr
 | .ptr a b,v,x,h,u,hr=>by rw[AV.agf h] at hr;exact hr
 | .own a,v,x,h,u,hr=>by rw[AV.agh h] at hr;exact hr
 | .np a,v,x,h,u,hr=>by rw[AV.adO h] at hr;exact hr
 | .fn g l,v,x,h,u,hr=>by
   unfold Sh.dec at h;split at h
   ·rename_i l' hl
    rw[AV.agd hl] at hr
    cases hr with
    |fn hl hh=>
     have:=Sh.rO hD l _ x h _ ⟨hl,hh⟩;exact .fn this.1 this.2
   ·cases h
 | .agg l,v,x,h,u,hr=>by
   unfold Sh.dec at h;split at h
   ·rename_i l' hl
    rw[AV.YK hl] at hr
    cases hr with
    |agg hl hh=>
     have:=Sh.rO hD l _ x h _ ⟨hl,hh⟩;exact .agg this.1 this.2
   ·cases h
 | .mJ l,v,x,h,u,hr=>by
   unfold Sh.dec at h;split at h
   ·rename_i l' hl
    rw[AV.aex hl] at hr
    cases hr with
    |mJ hl hh=>
     have:=Sh.rO hD l _ x h _ ⟨hl,hh⟩;exact .mJ this.1 this.2
   ·cases h
theorem Sh.rO (hD:bU D):∀(l:List (Sh K)) (vs:List (AV K)) (x:Sh.Ts l),Sh.qj D l vs=some x->∀us,bW D ρ S w vs us->bW D ρ S w (Sh.encs D l x) us
 | [],vs,x,h,us,hr=>by
   cases vs with
   |nil=>exact hr
   |cons v r=>unfold Sh.qj at h;cases h
 |s::r,vs,x,h,us,hr=>by
  cases vs with
  |nil=>unfold Sh.qj at h;cases h
  |cons v l=>
   unfold Sh.qj at h;split at h
   ·rename_i a b h1 h2
    have h:=Option.some.inj h;subst h;obtain ⟨u,t,rfl,g1,g2⟩:=hr.qh;exact .cons (Sh.Az hD s v a h1 u g1) (Sh.rO hD r l b h2 t g2)
   ·cases h
end
theorem X7 {l:List (AV K)} (h:iF l=true):wU l=false:=by
 cases l with
 |nil=>rfl
 |cons v r=>
  simp only[iF,Bool.and_eq_true] at h
  cases v<;>first |rfl |(simp[AV.closed] at h)
theorem abM {l:List (Sh K)} {cs:List (AV K)} {x:Sh.Ts l} (h:Sh.qj D l cs=some x) (hn:wU (Sh.encs D l x)=true):wU cs=true:=by
 cases l with
 |nil=>unfold Sh.encs at hn;cases hn
 |cons s r=>
  cases cs with
  |nil=>unfold Sh.qj at h;cases h
  |cons v vs=>
   unfold Sh.qj at h;split at h
   ·rename_i a b h1 h2
    have h:=Option.some.inj h;subst h;change wU (Sh.enc D s a::Sh.encs D r b)=true at hn
    cases s
    all_goals first
     |exact absurd (show false=true from hn) (by simp)
     |(have h3:=AV.adO (v:=v) h1;rw[h3];rfl)
   ·cases h
theorem dY.Az (hD:bU D) (s:dY K) (o:Ob K) (x:s.T) (h:dY.dec D s o=some x):((dY.enc D s x).live=true->o.live=true /\ ∀w r b,fC D w (dY.enc D s x) r b->fC D w o r b) /\ ∀r,oW D ρ S w o r->oW D ρ S w (dY.enc D s x) r:=by
 cases s with
 |dead=>exact ⟨fun h=>Bool.noConfusion h,fun _ _=>trivial⟩
 |box l=>
  change (match o.QW with
   |some cs=>Sh.qj D l cs
   |none=>none)=some x at h
  split at h
  ·rename_i cs hcs
   rw[Ob.YL hcs];refine ⟨fun _=>⟨rfl,fun _ _ _ h=>h⟩,fun r hh=> ?_⟩
   obtain ⟨b,vs,T,e,h1,h2,h3⟩:=hh;exact ⟨b,vs,T,e,h1,Sh.rO hD l _ x h _ h2,fun hn=>h3 (abM h hn)⟩
  ·cases h
 |el c=>
  change (match o.QW with
   |some cs=>sure (D.dec c cs)
   |none=>none)=some x at h
  split at h
  ·rename_i cs hcs
   rw[Ob.YL hcs];refine ⟨fun _=>⟨rfl,fun _ _ _ h=>h⟩,fun r hh=> ?_⟩
   obtain ⟨b,vs,T,e,h1,h2,h3⟩:=hh;exact ⟨b,vs,T,e,h1,hD.dec c _ _ (adP h) ρ S w _ h2,fun hn=>by rw[X7 (hD.closed c x)] at hn;cases hn⟩
  ·cases h
 |arr c=>rw[Ob.aez h];exact ⟨fun h=>⟨h,fun _ _ _ h=>h⟩,fun _ h=>h⟩
 |WW c=>rw[Ob.aeA h];exact ⟨fun h=>⟨h,fun _ _ _ h=>h⟩,fun _ h=>h⟩
 |tree c=>rw[Ob.acZ h];exact ⟨fun h=>⟨h,fun _ _ _ h=>h⟩,fun _ h=>h⟩
theorem dY.PU :∀(l:List (dY K)) (os:List (Ob K)) (x:dY.Ts l),dY.qj D l os=some x->(dY.encs D l x).length=os.length /\ ∀(i:Nat) o',(dY.encs D l x)[i]? =some o'->∃o,os[i]? =some o /\ ∃(s:dY K) (y:s.T),dY.dec D s o=some y /\ o'=dY.enc D s y
 | [],os,x,h=>by
   cases os with
   |nil=>exact ⟨rfl,fun i o' h=>by simp[dY.encs] at h⟩
   |cons v r=>simp[dY.qj] at h
 |s::r,os,x,h=>by
  cases os with
  |nil=>simp[dY.qj] at h
  |cons v l=>
   simp only[dY.qj] at h;split at h
   ·rename_i a b h1 h2
    have h:=Option.some.inj h;subst h;obtain ⟨g1,g2⟩:=dY.PU r l b h2;refine ⟨by simp only[dY.encs,List.length_cons];rw[g1],fun i o' hi=> ?_⟩
    cases i with
    |zero=>simp[dY.encs] at hi;exact ⟨v,rfl,s,a,h1,hi.symm⟩
    |succ i=>simp[dY.encs] at hi;obtain ⟨o,q⟩:=g2 i o' hi;exact ⟨o,by simpa using q.1,q.2⟩
   ·cases h
structure Wk (D:jl K) (vs:List (AV K)) (H:List (Ob K)) (vs':List (AV K)) (H':List (Ob K)):Prop where
 len:H'.length=H.length
 aia:∀ρ S w us,bW D ρ S w vs us->bW D ρ S w vs' us
 heap:∀ρ S w,ak D ρ S w H->ak D ρ S w H'
 own:∀w ρ b,Own D w ρ H' b->Own D w ρ H b
theorem Wk.step {vs vs':List (AV K)} {n0:Nat} (h:Wk D vs H vs' H'):Step D n0 ρ S H w ρ S H' w:=
 ⟨rfl,rfl,rfl,Nat.le_refl _,fun _ _ _=>rfl,fun b hb=> .inl (h.own _ _ b hb),fun _ h=>h,fun _ h=> .inl h,fun _ _=>rfl⟩
theorem dY.abN {l:List (dY K)} {os:List (Ob K)} {x:dY.Ts l} (hD:bU D) (h:dY.qj D l os=some x) (w:World) (ρ:List Value) (b:Nat) (hb:Own D w ρ (dY.encs D l x) b):Own D w ρ os b:=by
 obtain ⟨i,o',r,h1,h2,h3,h4⟩:=hb;obtain ⟨o,q1,s,y,q2,rfl⟩:=(dY.PU l os x h).2 i o' h1;have q3:=(dY.Az (ρ:=ρ) (S:=fun _=>False) (w:=w) hD s o y q2).1 h2
 exact ⟨i,o,r,q1,q3.1,h3,q3.2 _ _ _ h4⟩
theorem dY.rO {l:List (dY K)} {os:List (Ob K)} {x:dY.Ts l} (hD:bU D) (h:dY.qj D l os=some x) (hs:ak D ρ S w os):ak D ρ S w (dY.encs D l x):=by
 obtain ⟨g1,g2⟩:=dY.PU l os x h;refine ⟨by rw[g1];exact hs.len,fun i o' r h1 h2=> ?_,fun i j o o' r r' b h1 h2 h3 h4 c1 c2 c3 c4=> ?_,fun b hb=>hs.lt b (dY.abN hD h w ρ b hb),hs.slt,hs.base⟩
 ·obtain ⟨o,q1,s,y,q2,rfl⟩:=g2 i o' h1
  exact (dY.Az hD s o y q2).2 r (hs.ob i o r q1 h2)
 ·obtain ⟨o1,q1,s,y,q2,rfl⟩:=g2 i o h1
  obtain ⟨o2,p1,s',y',p2,rfl⟩:=g2 j o' c1;have a1:=(dY.Az (ρ:=ρ) (S:=S) (w:=w) hD s o1 y q2).1 h2;have a2:=(dY.Az (ρ:=ρ) (S:=S) (w:=w) hD s' o2 y' p2).1 c2;exact hs.rE i j o1 o2 r r' b q1 a1.1 h3 (a1.2 _ _ _ h4) p1 a2.1 c3 (a2.2 _ _ _ c4)
structure eQ (K:yG) where
 vs:List (Sh K)
 os:List (dY K)
def eQ.T (c:eQ K):Type:=Sh.Ts c.vs×dY.Ts c.os
def eQ.dec (D:jl K) (c:eQ K) (vs:List (AV K)) (H:List (Ob K)):Option c.T:=
 match Sh.qj D c.vs vs,dY.qj D c.os H with
 |some a,some b=>some (a,b)
 |_,_=>none
def eQ.fA (D:jl K) (c:eQ K) (x:c.T):List (AV K):=Sh.encs D c.vs x.1
def eQ.eP (D:jl K) (c:eQ K) (x:c.T):List (Ob K):=dY.encs D c.os x.2
theorem eQ.Wu (hD:bU D) {c:eQ K} {vs:List (AV K)} {x:c.T} (h:c.dec D vs H=some x):Wk D vs H (c.fA D x) (c.eP D x):=by
 unfold eQ.dec at h;split at h
 ·rename_i a b h1 h2
  have h:=Option.some.inj h;subst h;exact ⟨(dY.PU c.os H b h2).1,fun ρ S w us hr=>Sh.rO hD c.vs vs a h1 us hr,fun ρ S w hs=>dY.rO hD h2 hs,fun w ρ b' hb=>dY.abN hD h2 w ρ b' hb⟩
 ·cases h
end Go.V
