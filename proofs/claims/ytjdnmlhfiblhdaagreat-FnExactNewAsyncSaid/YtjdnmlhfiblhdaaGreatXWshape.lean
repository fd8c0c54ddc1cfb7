/-
  SHAPES: of arguments, of what a loop knows, of what is yielded: how unknowns lie in abstract values and objects, how they are read off, and that reading off loses nothing that is true.
-/
import Derived.Test.YtjdnmlhfiblhdaaGreatXWloop
set_option linter.unusedVariables false
namespace Go.V
open Go
variable {K :yG} {D:iV K} {ρ ρ':List Value} {S S':Nat->Prop} {w w':World} {H H':List (Ob K)}
inductive Sh (K:yG) where
 |any
 |int (k:IntKind)
 |bool
 |str
 |bD (c:K.U)
 |el (c:K.U)
 |rp (c:K.U) (off:Nat)
 |mW
 |eY
 |ptr (h off:Nat)
 |own (h:Nat)
 |fn (g:Nat) (caps:List (Sh K))
 |agg (l:List (Sh K))
 |pR (l:List (Sh K))
 |np (h:Nat)
inductive dY (K:yG) where
 |dead
 |box (l:List (Sh K))
 |el (c:K.U)
 |arr (c:K.U)
 |Xh (c:K.U)
 |tree (c:K.U)
mutual
def Sh.T :Sh K->Type
 | .int _=>Int
 | .bool=>Bool
 | .str=>List UInt8
 | .bD c=>List (K.El c)
 | .el c=>K.El c
 | .rp c _=>K.El c
 | .fn _ l=>Sh.Ts l
 | .agg l=>Sh.Ts l
 | .pR l=>Sh.Ts l
 |_=>Unit
def Sh.Ts :List (Sh K)->Type
 | []=>Unit
 |s::r=>Sh.T s×Sh.Ts r
end
def dY.T :dY K->Type
 | .dead=>Unit
 | .box l=>Sh.Ts l
 | .el c=>K.El c
 | .arr c=>List (K.El c)
 | .Xh c=>List (K.El c)
 | .tree c=>List (K.El c)
def dY.Ts :List (dY K)->Type
 | []=>Unit
 |s::r=>dY.T s×dY.Ts r
mutual
def Sh.enc (D:iV K):(s:Sh K)->s.T->AV K
 | .any,_=> .any
 | .int k,n=> .int k n
 | .bool,b=> .bool b
 | .str,s=> .str s
 | .bD c,l=> .bD c l
 | .el c,x=> .agg (D.cells c x)
 | .rp c o,x=> .rp c x o
 | .mW,_=> .mW
 | .eY,_=> .eY
 | .ptr h o,_=> .ptr h o
 | .own h,_=> .sl h
 | .np h,_=> .np h
 | .fn g l,x=> .fn g (Sh.encs D l x)
 | .agg l,x=> .agg (Sh.encs D l x)
 | .pR l,x=> .pR (Sh.encs D l x)
def Sh.encs (D:iV K):(l:List (Sh K))->Sh.Ts l->List (AV K)
 | [],_=>[]
 |s::r,x=>Sh.enc D s x.1::Sh.encs D r x.2
end
def dY.enc (D:iV K):(s:dY K)->s.T->Ob K
 | .dead,_=> .dead
 | .box l,x=> .box (Sh.encs D l x)
 | .el c,x=> .box (D.cells c x)
 | .arr c,x=> .arr c x
 | .Xh c,x=> .Xh c x
 | .tree c,x=> .tree c x
def dY.encs (D:iV K):(l:List (dY K))->dY.Ts l->List (Ob K)
 | [],_=>[]
 |s::r,x=>dY.enc D s x.1::dY.encs D r x.2
def AV.getInt (k:IntKind):AV K->Option Int
 | .int k' n=>if k=k' then some n else none
 |_=>none
def AV.getBool :AV K->Option Bool
 | .bool b=>some b
 |_=>none
def AV.aci :AV K->Option (List UInt8)
 | .str s=>some s
 |_=>none
def AV.Zz :AV K->Option (List (AV K))
 | .agg l=>some l
 |_=>none
def AV.acj :AV K->Option (List (AV K))
 | .pR l=>some l
 |_=>none
def AV.getFn (g:Nat):AV K->Option (List (AV K))
 | .fn g' l=>if g=g' then some l else none
 |_=>none
def AV.aeZ (c:K.U) (o:Nat):AV K->Option (K.El c)
 | .rp c' x o'=>if o=o' then match K.deq c' c with
   | .isTrue h=>some (h ▸ x)
   | .isFalse _=>none else none
 |_=>none
def AV.ack :AV K->Option Unit
 | .mW=>some ()
 |_=>none
def AV.ZA :AV K->Option Unit
 | .eY=>some ()
 |_=>none
def AV.ae0 (h o:Nat):AV K->Option Unit
 | .ptr h' o'=>if h=h' then if o=o' then some () else none else none
 |_=>none
def AV.ae1 (h:Nat):AV K->Option Unit
 | .sl h'=>if h=h' then some () else none
 |_=>none
def AV.agO (h:Nat):AV K->Option Unit
 | .np h'=>if h=h' then some () else none
 |_=>none
theorem AV.RQ {k:IntKind} {v:AV K} {n:Int} (h:v.getInt k=some n):v= .int k n:=by
 unfold AV.getInt at h;split at h
 ·split at h
  ·rename_i hk;subst hk;simp only[Option.some.injEq] at h;subst h;rfl
  ·cases h
 ·cases h
theorem AV.OA {v:AV K} {n:Bool} (h:v.getBool=some n):v= .bool n:=by
 unfold AV.getBool at h;split at h
 ·simp only[Option.some.injEq] at h;subst h;rfl
 ·cases h
theorem AV.RS {v:AV K} {n:List UInt8} (h:v.aci=some n):v= .str n:=by
 unfold AV.aci at h;split at h
 ·simp only[Option.some.injEq] at h;subst h;rfl
 ·cases h
theorem AV.YD {v:AV K} {n:List (AV K)} (h:v.Zz=some n):v= .agg n:=by
 unfold AV.Zz at h;split at h
 ·simp only[Option.some.injEq] at h;subst h;rfl
 ·cases h
theorem AV.adE {v:AV K} {n:List (AV K)} (h:v.acj=some n):v= .pR n:=by
 unfold AV.acj at h;split at h
 ·simp only[Option.some.injEq] at h;subst h;rfl
 ·cases h
theorem AV.ae2 {g:Nat} {v:AV K} {n:List (AV K)} (h:v.getFn g=some n):v= .fn g n:=by
 unfold AV.getFn at h;split at h
 ·split at h
  ·rename_i hk;subst hk;simp only[Option.some.injEq] at h;subst h;rfl
  ·cases h
 ·cases h
theorem AV.ae3 {c:K.U} {o:Nat} {v:AV K} {n:K.El c} (h:v.aeZ c o=some n):v= .rp c n o:=by
 unfold AV.aeZ at h;split at h
 ·split at h
  ·rename_i hk;subst hk
   split at h
   ·rename_i he _;subst he;simp only[Option.some.injEq] at h;subst h;rfl
   ·cases h
  ·cases h
 ·cases h
theorem AV.adF {v:AV K} {n:Unit} (h:v.ack=some n):v= .mW:=by
 unfold AV.ack at h;split at h
 ·rfl
 ·cases h
theorem AV.acm {v:AV K} {n:Unit} (h:v.ZA=some n):v= .eY:=by
 unfold AV.ZA at h;split at h
 ·rfl
 ·cases h
theorem AV.ae4 {a o:Nat} {v:AV K} {n:Unit} (h:v.ae0 a o=some n):v= .ptr a o:=by
 unfold AV.ae0 at h;split at h
 ·split at h
  ·split at h
   ·rename_i h1 h2;subst h1;subst h2;rfl
   ·cases h
  ·cases h
 ·cases h
theorem AV.ae5 {a:Nat} {v:AV K} {n:Unit} (h:v.ae1 a=some n):v= .sl a:=by
 unfold AV.ae1 at h;split at h
 ·split at h
  ·rename_i h1;subst h1;rfl
  ·cases h
 ·cases h
theorem AV.ac4 {a:Nat} {v:AV K} {n:Unit} (h:v.agO a=some n):v= .np a:=by
 unfold AV.agO at h;split at h
 ·split at h
  ·rename_i h1;subst h1;rfl
  ·cases h
 ·cases h
def sure {α:Type}:Option (α×Bool)->Option α
 |some (x,true)=>some x
 |_=>none
theorem ac5 {α:Type} {o:Option (α×Bool)} {x:α} (h:sure o=some x):o=some (x,true):=by
 unfold sure at h;split at h
 ·simp only[Option.some.injEq] at h;subst h;rfl
 ·cases h
mutual
def Sh.dec (D:iV K):(s:Sh K)->AV K->Option s.T
 | .any,_=>some ()
 | .int k,v=>v.getInt k
 | .bool,v=>v.getBool
 | .str,v=>v.aci
 | .bD c,v=>elems [] c v
 | .el c,v=>match v.Zz with
   |some l=>sure (D.dec c l)
   |none=>none
 | .rp c o,v=>v.aeZ c o
 | .mW,v=>v.ack
 | .eY,v=>v.ZA
 | .ptr h o,v=>v.ae0 h o
 | .own h,v=>v.ae1 h
 | .np h,v=>v.agO h
 | .fn g l,v=>match v.getFn g with
   |some l'=>Sh.o5 D l l'
   |none=>none
 | .agg l,v=>match v.Zz with
   |some l'=>Sh.o5 D l l'
   |none=>none
 | .pR l,v=>match v.acj with
   |some l'=>Sh.o5 D l l'
   |none=>none
def Sh.o5 (D:iV K):(l:List (Sh K))->List (AV K)->Option (Sh.Ts l)
 | [],[]=>some ()
 |s::r,v::l=>match Sh.dec D s v,Sh.o5 D r l with
  |some x,some y=>some (x,y)
  |_,_=>none
 |_,_=>none
end
def Ob.SH :Ob K->Option (List (AV K))
 | .box l=>some l
 |_=>none
def Ob.acn (c:K.U):Ob K->Option (List (K.El c))
 | .arr c' l=>match K.deq c' c with
   | .isTrue h=>some (h ▸ l)
   | .isFalse _=>none
 |_=>none
def Ob.aco (c:K.U):Ob K->Option (List (K.El c))
 | .Xh c' l=>match K.deq c' c with
   | .isTrue h=>some (h ▸ l)
   | .isFalse _=>none
 |_=>none
def Ob.ZB (c:K.U):Ob K->Option (List (K.El c))
 | .tree c' l=>match K.deq c' c with
   | .isTrue h=>some (h ▸ l)
   | .isFalse _=>none
 |_=>none
theorem Ob.YE {v:Ob K} {n:List (AV K)} (h:v.SH=some n):v= .box n:=by
 unfold Ob.SH at h;split at h
 ·simp only[Option.some.injEq] at h;subst h;rfl
 ·cases h
theorem Ob.adG {c:K.U} {v:Ob K} {n:List (K.El c)} (h:v.acn c=some n):v= .arr c n:=by
 unfold Ob.acn at h;split at h
 ·split at h
  ·rename_i he _;subst he;simp only[Option.some.injEq] at h;subst h;rfl
  ·cases h
 ·cases h
theorem Ob.adH {c:K.U} {v:Ob K} {n:List (K.El c)} (h:v.aco c=some n):v= .Xh c n:=by
 unfold Ob.aco at h;split at h
 ·split at h
  ·rename_i he _;subst he;simp only[Option.some.injEq] at h;subst h;rfl
  ·cases h
 ·cases h
theorem Ob.acp {c:K.U} {v:Ob K} {n:List (K.El c)} (h:v.ZB c=some n):v= .tree c n:=by
 unfold Ob.ZB at h;split at h
 ·split at h
  ·rename_i he _;subst he;simp only[Option.some.injEq] at h;subst h;rfl
  ·cases h
 ·cases h
def dY.dec (D:iV K):(s:dY K)->Ob K->Option s.T
 | .dead,_=>some ()
 | .box l,o=>match o.SH with
   |some cs=>Sh.o5 D l cs
   |none=>none
 | .el c,o=>match o.SH with
   |some cs=>sure (D.dec c cs)
   |none=>none
 | .arr c,o=>o.acn c
 | .Xh c,o=>o.aco c
 | .tree c,o=>o.ZB c
def dY.o5 (D:iV K):(l:List (dY K))->List (Ob K)->Option (dY.Ts l)
 | [],[]=>some ()
 |s::r,v::l=>match dY.dec D s v,dY.o5 D r l with
  |some x,some y=>some (x,y)
  |_,_=>none
 |_,_=>none
theorem UT (hD:bQ D) {c:K.U} {v:AV K} {l:List (K.El c)} (h:elems [] c v=some l) {u:Value} (hr:Rep D ρ S w v u):Rep D ρ S w (.bD c l) u:=by
 unfold elems at h;split at h
 ·simp only[Option.some.injEq] at h;subst h;cases hr;exact .vg _ _
 ·split at h
  ·rename_i he _;subst he;simp only[Option.some.injEq] at h;subst h;exact hr
  ·cases h
 ·simp at h
 ·cases h
mutual
theorem Sh.Bg (hD:bQ D):∀(s:Sh K) (v:AV K) (x:s.T),Sh.dec D s v=some x->∀u,Rep D ρ S w v u->Rep D ρ S w (Sh.enc D s x) u
 | .any,v,x,h,u,hr=> .any u
 | .int k,v,x,h,u,hr=>by rw[AV.RQ h] at hr;exact hr
 | .bool,v,x,h,u,hr=>by rw[AV.OA h] at hr;exact hr
 | .str,v,x,h,u,hr=>by rw[AV.RS h] at hr;exact hr
 | .bD c,v,x,h,u,hr=>UT hD h hr
 | .el c,v,x,h,u,hr=>by
   unfold Sh.dec at h;split at h
   ·rename_i l hl
    rw[AV.YD hl] at hr
    cases hr with
    |agg hl hh=>
     have:=hD.dec c _ _ (ac5 h) ρ S w _ ⟨hl,hh⟩;exact .agg this.1 this.2
   ·cases h
 | .rp c o,v,x,h,u,hr=>by rw[AV.ae3 h] at hr;exact hr
 | .mW,v,x,h,u,hr=>by rw[AV.adF h] at hr;exact hr
 | .eY,v,x,h,u,hr=>by rw[AV.acm h] at hr;exact hr
 | .ptr a b,v,x,h,u,hr=>by rw[AV.ae4 h] at hr;exact hr
 | .own a,v,x,h,u,hr=>by rw[AV.ae5 h] at hr;exact hr
 | .np a,v,x,h,u,hr=>by rw[AV.ac4 h] at hr;exact hr
 | .fn g l,v,x,h,u,hr=>by
   unfold Sh.dec at h;split at h
   ·rename_i l' hl
    rw[AV.ae2 hl] at hr
    cases hr with
    |fn hl hh=>
     have:=Sh.qW hD l _ x h _ ⟨hl,hh⟩;exact .fn this.1 this.2
   ·cases h
 | .agg l,v,x,h,u,hr=>by
   unfold Sh.dec at h;split at h
   ·rename_i l' hl
    rw[AV.YD hl] at hr
    cases hr with
    |agg hl hh=>
     have:=Sh.qW hD l _ x h _ ⟨hl,hh⟩;exact .agg this.1 this.2
   ·cases h
 | .pR l,v,x,h,u,hr=>by
   unfold Sh.dec at h;split at h
   ·rename_i l' hl
    rw[AV.adE hl] at hr
    cases hr with
    |pR hl hh=>
     have:=Sh.qW hD l _ x h _ ⟨hl,hh⟩;exact .pR this.1 this.2
   ·cases h
theorem Sh.qW (hD:bQ D):∀(l:List (Sh K)) (vs:List (AV K)) (x:Sh.Ts l),Sh.o5 D l vs=some x->∀us,bK D ρ S w vs us->bK D ρ S w (Sh.encs D l x) us
 | [],vs,x,h,us,hr=>by
   cases vs with
   |nil=>exact hr
   |cons v r=>unfold Sh.o5 at h;cases h
 |s::r,vs,x,h,us,hr=>by
  cases vs with
  |nil=>unfold Sh.o5 at h;cases h
  |cons v l=>
   unfold Sh.o5 at h;split at h
   ·rename_i a b h1 h2
    have h:=Option.some.inj h;subst h;obtain ⟨u,t,rfl,g1,g2⟩:=hr.jK;exact .cons (Sh.Bg hD s v a h1 u g1) (Sh.qW hD r l b h2 t g2)
   ·cases h
end
theorem X4 {l:List (AV K)} (h:iU l=true):wL l=false:=by
 cases l with
 |nil=>rfl
 |cons v r=>
  simp only[iU,Bool.and_eq_true] at h
  cases v<;>first |rfl |(simp[AV.closed] at h)
theorem abf {l:List (Sh K)} {cs:List (AV K)} {x:Sh.Ts l} (h:Sh.o5 D l cs=some x) (hn:wL (Sh.encs D l x)=true):wL cs=true:=by
 cases l with
 |nil=>unfold Sh.encs at hn;cases hn
 |cons s r=>
  cases cs with
  |nil=>unfold Sh.o5 at h;cases h
  |cons v vs=>
   unfold Sh.o5 at h;split at h
   ·rename_i a b h1 h2
    have h:=Option.some.inj h;subst h;change wL (Sh.enc D s a::Sh.encs D r b)=true at hn
    cases s
    all_goals first
     |exact absurd (show false=true from hn) (by simp)
     |(have h3:=AV.ac4 (v:=v) h1;rw[h3];rfl)
   ·cases h
theorem dY.Bg (hD:bQ D) (s:dY K) (o:Ob K) (x:s.T) (h:dY.dec D s o=some x):((dY.enc D s x).live=true->o.live=true /\ ∀w r b,eU D w (dY.enc D s x) r b->eU D w o r b) /\ ∀r,nY D ρ S w o r->nY D ρ S w (dY.enc D s x) r:=by
 cases s with
 |dead=>exact ⟨fun h=>Bool.noConfusion h,fun _ _=>trivial⟩
 |box l=>
  change (match o.SH with
   |some cs=>Sh.o5 D l cs
   |none=>none)=some x at h
  split at h
  ·rename_i cs hcs
   rw[Ob.YE hcs];refine ⟨fun _=>⟨rfl,fun _ _ _ h=>h⟩,fun r hh=> ?_⟩
   obtain ⟨b,vs,T,e,h1,h2,h3⟩:=hh;exact ⟨b,vs,T,e,h1,Sh.qW hD l _ x h _ h2,fun hn=>h3 (abf h hn)⟩
  ·cases h
 |el c=>
  change (match o.SH with
   |some cs=>sure (D.dec c cs)
   |none=>none)=some x at h
  split at h
  ·rename_i cs hcs
   rw[Ob.YE hcs];refine ⟨fun _=>⟨rfl,fun _ _ _ h=>h⟩,fun r hh=> ?_⟩
   obtain ⟨b,vs,T,e,h1,h2,h3⟩:=hh;exact ⟨b,vs,T,e,h1,hD.dec c _ _ (ac5 h) ρ S w _ h2,fun hn=>by rw[X4 (hD.closed c x)] at hn;cases hn⟩
  ·cases h
 |arr c=>rw[Ob.adG h];exact ⟨fun h=>⟨h,fun _ _ _ h=>h⟩,fun _ h=>h⟩
 |Xh c=>rw[Ob.adH h];exact ⟨fun h=>⟨h,fun _ _ _ h=>h⟩,fun _ h=>h⟩
 |tree c=>rw[Ob.acp h];exact ⟨fun h=>⟨h,fun _ _ _ h=>h⟩,fun _ h=>h⟩
theorem dY.QI :∀(l:List (dY K)) (os:List (Ob K)) (x:dY.Ts l),dY.o5 D l os=some x->(dY.encs D l x).length=os.length /\ ∀(i:Nat) o',(dY.encs D l x)[i]? =some o'->∃o,os[i]? =some o /\ ∃(s:dY K) (y:s.T),dY.dec D s o=some y /\ o'=dY.enc D s y
 | [],os,x,h=>by
   cases os with
   |nil=>exact ⟨rfl,fun i o' h=>by simp[dY.encs] at h⟩
   |cons v r=>simp[dY.o5] at h
 |s::r,os,x,h=>by
  cases os with
  |nil=>simp[dY.o5] at h
  |cons v l=>
   simp only[dY.o5] at h;split at h
   ·rename_i a b h1 h2
    have h:=Option.some.inj h;subst h;obtain ⟨g1,g2⟩:=dY.QI r l b h2;refine ⟨by simp only[dY.encs,List.length_cons];rw[g1],fun i o' hi=> ?_⟩
    cases i with
    |zero=>simp[dY.encs] at hi;exact ⟨v,rfl,s,a,h1,hi.symm⟩
    |succ i=>simp[dY.encs] at hi;obtain ⟨o,q⟩:=g2 i o' hi;exact ⟨o,by simpa using q.1,q.2⟩
   ·cases h
structure Wk (D:iV K) (vs:List (AV K)) (H:List (Ob K)) (vs':List (AV K)) (H':List (Ob K)):Prop where
 len:H'.length=H.length
 agJ:∀ρ S w us,bK D ρ S w vs us->bK D ρ S w vs' us
 heap:∀ρ S w,ax D ρ S w H->ax D ρ S w H'
 own:∀w ρ b,Own D w ρ H' b->Own D w ρ H b
theorem Wk.step {vs vs':List (AV K)} {n0:Nat} (h:Wk D vs H vs' H'):Step D n0 ρ S H w ρ S H' w:=
 ⟨rfl,rfl,rfl,Nat.le_refl _,fun _ _ _=>rfl,fun b hb=> .inl (h.own _ _ b hb),fun _ h=>h,fun _ h=> .inl h,fun _ _=>rfl⟩
theorem dY.abg {l:List (dY K)} {os:List (Ob K)} {x:dY.Ts l} (hD:bQ D) (h:dY.o5 D l os=some x) (w:World) (ρ:List Value) (b:Nat) (hb:Own D w ρ (dY.encs D l x) b):Own D w ρ os b:=by
 obtain ⟨i,o',r,h1,h2,h3,h4⟩:=hb;obtain ⟨o,q1,s,y,q2,rfl⟩:=(dY.QI l os x h).2 i o' h1;have q3:=(dY.Bg (ρ:=ρ) (S:=fun _=>False) (w:=w) hD s o y q2).1 h2
 exact ⟨i,o,r,q1,q3.1,h3,q3.2 _ _ _ h4⟩
theorem dY.qW {l:List (dY K)} {os:List (Ob K)} {x:dY.Ts l} (hD:bQ D) (h:dY.o5 D l os=some x) (hs:ax D ρ S w os):ax D ρ S w (dY.encs D l x):=by
 obtain ⟨g1,g2⟩:=dY.QI l os x h;refine ⟨by rw[g1];exact hs.len,fun i o' r h1 h2=> ?_,fun i j o o' r r' b h1 h2 h3 h4 c1 c2 c3 c4=> ?_,fun b hb=>hs.lt b (dY.abg hD h w ρ b hb),hs.slt,hs.base⟩
 ·obtain ⟨o,q1,s,y,q2,rfl⟩:=g2 i o' h1
  exact (dY.Bg hD s o y q2).2 r (hs.ob i o r q1 h2)
 ·obtain ⟨o1,q1,s,y,q2,rfl⟩:=g2 i o h1
  obtain ⟨o2,p1,s',y',p2,rfl⟩:=g2 j o' c1;have a1:=(dY.Bg (ρ:=ρ) (S:=S) (w:=w) hD s o1 y q2).1 h2;have a2:=(dY.Bg (ρ:=ρ) (S:=S) (w:=w) hD s' o2 y' p2).1 c2;exact hs.qP i j o1 o2 r r' b q1 a1.1 h3 (a1.2 _ _ _ h4) p1 a2.1 c3 (a2.2 _ _ _ c4)
structure dw (K:yG) where
 vs:List (Sh K)
 os:List (dY K)
def dw.T (c:dw K):Type:=Sh.Ts c.vs×dY.Ts c.os
def dw.dec (D:iV K) (c:dw K) (vs:List (AV K)) (H:List (Ob K)):Option c.T:=
 match Sh.o5 D c.vs vs,dY.o5 D c.os H with
 |some a,some b=>some (a,b)
 |_,_=>none
def dw.dC (D:iV K) (c:dw K) (x:c.T):List (AV K):=Sh.encs D c.vs x.1
def dw.dI (D:iV K) (c:dw K) (x:c.T):List (Ob K):=dY.encs D c.os x.2
theorem dw.WL (hD:bQ D) {c:dw K} {vs:List (AV K)} {x:c.T} (h:c.dec D vs H=some x):Wk D vs H (c.dC D x) (c.dI D x):=by
 unfold dw.dec at h;split at h
 ·rename_i a b h1 h2
  have h:=Option.some.inj h;subst h;exact ⟨(dY.QI c.os H b h2).1,fun ρ S w us hr=>Sh.qW hD c.vs vs a h1 us hr,fun ρ S w hs=>dY.qW hD h2 hs,fun w ρ b' hb=>dY.abg hD h2 w ρ b' hb⟩
 ·cases h
end Go.V
