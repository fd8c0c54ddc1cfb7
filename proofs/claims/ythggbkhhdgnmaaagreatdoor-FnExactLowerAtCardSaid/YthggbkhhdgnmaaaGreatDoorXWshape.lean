/-
  SHAPES: of arguments, of what a loop knows, of what is yielded: how unknowns lie in abstract values and objects, how they are read off, and that reading off loses nothing that is true.
-/
import Derived.Test.YthggbkhhdgnmaaaGreatDoorXWloop
set_option linter.unusedVariables false
namespace Go.V
open Go
variable{K :dt}{D:bN K}{ρ ρ':List Value}{S S':Nat->Prop}{w w':World}{H H':List (Ob K)}
inductive Sh (K:dt) where
 |any
 |int (k:IntKind)
 |bool
 |str
 |ah (c:K.U)
 |el (c:K.U)
 |rp (c:K.U) (off:Nat)
 |dJ
 |dk
 |ptr (h off:Nat)
 |own (h:Nat)
 |fn (g:Nat) (caps:List (Sh K))
 |agg (l:List (Sh K))
 |bT (l:List (Sh K))
 |np (h:Nat)
 |ep (h:Nat) (c:K.U) (off:Nat)
inductive aU (K:dt) where
 |dead
 |box (l:List (Sh K))
 |el (c:K.U)
 |arr (c:K.U)
 |hZ (c:K.U)
 |tree (c:K.U)
mutual
def Sh.T:Sh K->Type
 |.int _=>Int
 |.bool=>Bool
 |.str=>List UInt8
 |.ah c=>List (K.El c)
 |.el c=>K.El c
 |.rp c _=>K.El c
 |.ep _ _ _=>Nat
 |.fn _ l=>Sh.Ts l
 |.agg l=>Sh.Ts l
 |.bT l=>Sh.Ts l
 |_=>Unit
def Sh.Ts:List (Sh K)->Type
 |[]=>Unit
 |s::r=>Sh.T s×Sh.Ts r
end
def aU.T:aU K->Type
 |.dead=>Unit
 |.box l=>Sh.Ts l
 |.el c=>K.El c
 |.arr c=>List (K.El c)
 |.hZ c=>List (K.El c)
 |.tree c=>List (K.El c)
def aU.Ts:List (aU K)->Type
 |[]=>Unit
 |s::r=>aU.T s×aU.Ts r
mutual
def Sh.enc(D:bN K):(s:Sh K)->s.T->AV K
 |.any,_=>.any
 |.int k,n=>.int k n
 |.bool,b=>.bool b
 |.str,s=>.str s
 |.ah c,l=>.ah c l
 |.el c,x=>.agg (D.cells c x)
 |.rp c o,x=>.rp c x o
 |.dJ,_=>.dJ
 |.dk,_=>.dk
 |.ptr h o,_=>.ptr h o
 |.own h,_=>.sl h
 |.np h,_=>.np h
 |.ep h c o,i=>.ep h (K.sz c) i o
 |.fn g l,x=>.fn g (Sh.encs D l x)
 |.agg l,x=>.agg (Sh.encs D l x)
 |.bT l,x=>.bT (Sh.encs D l x)
def Sh.encs(D:bN K):(l:List (Sh K))->Sh.Ts l->List (AV K)
 |[],_=>[]
 |s::r,x=>Sh.enc D s x.1::Sh.encs D r x.2
end
def aU.enc(D:bN K):(s:aU K)->s.T->Ob K
 |.dead,_=>.dead
 |.box l,x=>.box (Sh.encs D l x)
 |.el c,x=>.box (D.cells c x)
 |.arr c,x=>.arr c x
 |.hZ c,x=>.hZ c x
 |.tree c,x=>.tree c x
def aU.encs(D:bN K):(l:List (aU K))->aU.Ts l->List (Ob K)
 |[],_=>[]
 |s::r,x=>aU.enc D s x.1::aU.encs D r x.2
def AV.getInt(k:IntKind):AV K->Option Int
 |.int k' n=>if k=k' then some n else none
 |_=>none
def AV.getBool:AV K->Option Bool
 |.bool b=>some b
 |_=>none
def AV.Rm:AV K->Option (List UInt8)
 |.str s=>some s
 |_=>none
def AV.LA:AV K->Option (List (AV K))
 |.agg l=>some l
 |_=>none
def AV.Rn:AV K->Option (List (AV K))
 |.bT l=>some l
 |_=>none
def AV.getFn(g:Nat):AV K->Option (List (AV K))
 |.fn g' l=>if g=g' then some l else none
 |_=>none
def AV.Ro(c:K.U)(o:Nat):AV K->Option (K.El c)
 |.rp c' x o'=>if o=o' then match K.jP c' c with
   |.isTrue h=>some (h ▸ x)
   |.isFalse _=>none else none
 |_=>none
def AV.Rq:AV K->Option Unit
 |.dJ=>some ()
 |_=>none
def AV.Rr:AV K->Option Unit
 |.dk=>some ()
 |_=>none
def AV.Rt(h o:Nat):AV K->Option Unit
 |.ptr h' o'=>if h=h' then if o=o' then some ()else none else none
 |_=>none
def AV.Ru(h:Nat):AV K->Option Unit
 |.sl h'=>if h=h' then some ()else none
 |_=>none
def AV.Rw(h:Nat):AV K->Option Unit
 |.np h'=>if h=h' then some ()else none
 |_=>none
def AV.Rx(h:Nat)(c:K.U)(o:Nat):AV K->Option Nat
 |.ep h' st i o'=>if h=h' then if K.sz c=st then if o=o' then some i else none else none else none
 |_=>none
theorem AV.aCG{h:Nat}{c:K.U}{o:Nat}{v:AV K}{n:Nat}(hh:v.Rx h c o=some n):v=.ep h (K.sz c) n o:=by
 unfold AV.Rx at hh;split at hh
 ·split at hh
  ·split at hh
   ·split at hh
    ·rename_i h1 h2 h3;subst h1;subst h2;subst h3;simp only[aA]at hh;subst hh;rfl
    ·cases hh
   ·cases hh
  ·cases hh
 ·cases hh
theorem AV.PM{k:IntKind}{v:AV K}{n:Int}(h:v.getInt k=some n):v=.int k n:=by
 unfold AV.getInt at h;split at h
 ·split at h
  ·rename_i hk;subst hk;simp only[aA]at h;subst h;rfl
  ·cases h
 ·cases h
theorem AV.PN{v:AV K}{n:Bool}(h:v.getBool=some n):v=.bool n:=by
 unfold AV.getBool at h;split at h
 ·simp only[aA]at h;subst h;rfl
 ·cases h
theorem AV.PO{v:AV K}{n:List UInt8}(h:v.Rm=some n):v=.str n:=by
 unfold AV.Rm at h;split at h
 ·simp only[aA]at h;subst h;rfl
 ·cases h
theorem AV.alP{v:AV K}{n:List (AV K)}(h:v.LA=some n):v=.agg n:=by
 unfold AV.LA at h;split at h
 ·simp only[aA]at h;subst h;rfl
 ·cases h
theorem AV.aCH{v:AV K}{n:List (AV K)}(h:v.Rn=some n):v=.bT n:=by
 unfold AV.Rn at h;split at h
 ·simp only[aA]at h;subst h;rfl
 ·cases h
theorem AV.aCI{g:Nat}{v:AV K}{n:List (AV K)}(h:v.getFn g=some n):v=.fn g n:=by
 unfold AV.getFn at h;split at h
 ·split at h
  ·rename_i hk;subst hk;simp only[aA]at h;subst h;rfl
  ·cases h
 ·cases h
theorem AV.aCJ{c:K.U}{o:Nat}{v:AV K}{n:K.El c}(h:v.Ro c o=some n):v=.rp c n o:=by
 unfold AV.Ro at h;split at h
 ·split at h
  ·rename_i hk;subst hk;split at h
   ·rename_i he _;subst he;simp only[aA]at h;subst h;rfl
   ·cases h
  ·cases h
 ·cases h
theorem AV.aCK{v:AV K}{n:Unit}(h:v.Rq=some n):v=.dJ:=by
 unfold AV.Rq at h;split at h
 ·rfl
 ·cases h
theorem AV.aCL{v:AV K}{n:Unit}(h:v.Rr=some n):v=.dk:=by
 unfold AV.Rr at h;split at h
 ·rfl
 ·cases h
theorem AV.aCM{a o:Nat}{v:AV K}{n:Unit}(h:v.Rt a o=some n):v=.ptr a o:=by
 unfold AV.Rt at h;split at h
 ·split at h
  ·split at h
   ·rename_i h1 h2;subst h1;subst h2;rfl
   ·cases h
  ·cases h
 ·cases h
theorem AV.aCN{a:Nat}{v:AV K}{n:Unit}(h:v.Ru a=some n):v=.sl a:=by
 unfold AV.Ru at h;split at h
 ·split at h
  ·rename_i h1;subst h1;rfl
  ·cases h
 ·cases h
theorem AV.alQ{a:Nat}{v:AV K}{n:Unit}(h:v.Rw a=some n):v=.np a:=by
 unfold AV.Rw at h;split at h
 ·split at h
  ·rename_i h1;subst h1;rfl
  ·cases h
 ·cases h
def sure{α:Type}:Option (α×Bool)->Option α
 |some (x,true)=>some x
 |_=>none
theorem alR{α:Type}{o:Option (α×Bool)}{x:α}(h:sure o=some x):o=some (x,true):=by
 unfold sure at h;split at h
 ·simp only[aA]at h;subst h;rfl
 ·cases h
mutual
def Sh.dec(D:bN K):(s:Sh K)->AV K->Option s.T
 |.any,_=>some ()
 |.int k,v=>v.getInt k
 |.bool,v=>v.getBool
 |.str,v=>v.Rm
 |.ah c,v=>elems [] c v
 |.el c,v=>match v.LA with
   |some l=>sure (D.dec c l)
   |none=>none
 |.rp c o,v=>v.Ro c o
 |.dJ,v=>v.Rq
 |.dk,v=>v.Rr
 |.ptr h o,v=>v.Rt h o
 |.own h,v=>v.Ru h
 |.np h,v=>v.Rw h
 |.ep h c o,v=>v.Rx h c o
 |.fn g l,v=>match v.getFn g with
   |some l'=>Sh.ej D l l'
   |none=>none
 |.agg l,v=>match v.LA with
   |some l'=>Sh.ej D l l'
   |none=>none
 |.bT l,v=>match v.Rn with
   |some l'=>Sh.ej D l l'
   |none=>none
def Sh.ej(D:bN K):(l:List (Sh K))->List (AV K)->Option (Sh.Ts l)
 |[],[]=>some ()
 |s::r,v::l=>match Sh.dec D s v,Sh.ej D r l with
  |some x,some y=>some (x,y)
  |_,_=>none
 |_,_=>none
end
def Ob.zX:Ob K->Option (List (AV K))
 |.box l=>some l
 |_=>none
def Ob.Ry(c:K.U):Ob K->Option (List (K.El c))
 |.arr c' l=>match K.jP c' c with
   |.isTrue h=>some (h ▸ l)
   |.isFalse _=>none
 |_=>none
def Ob.Rz(c:K.U):Ob K->Option (List (K.El c))
 |.hZ c' l=>match K.jP c' c with
   |.isTrue h=>some (h ▸ l)
   |.isFalse _=>none
 |_=>none
def Ob.RB(c:K.U):Ob K->Option (List (K.El c))
 |.tree c' l=>match K.jP c' c with
   |.isTrue h=>some (h ▸ l)
   |.isFalse _=>none
 |_=>none
theorem Ob.alS{v:Ob K}{n:List (AV K)}(h:v.zX=some n):v=.box n:=by
 unfold Ob.zX at h;split at h
 ·simp only[aA]at h;subst h;rfl
 ·cases h
theorem Ob.aCO{c:K.U}{v:Ob K}{n:List (K.El c)}(h:v.Ry c=some n):v=.arr c n:=by
 unfold Ob.Ry at h;split at h
 ·split at h
  ·rename_i he _;subst he;simp only[aA]at h;subst h;rfl
  ·cases h
 ·cases h
theorem Ob.aCP{c:K.U}{v:Ob K}{n:List (K.El c)}(h:v.Rz c=some n):v=.hZ c n:=by
 unfold Ob.Rz at h;split at h
 ·split at h
  ·rename_i he _;subst he;simp only[aA]at h;subst h;rfl
  ·cases h
 ·cases h
theorem Ob.aCQ{c:K.U}{v:Ob K}{n:List (K.El c)}(h:v.RB c=some n):v=.tree c n:=by
 unfold Ob.RB at h;split at h
 ·split at h
  ·rename_i he _;subst he;simp only[aA]at h;subst h;rfl
  ·cases h
 ·cases h
def aU.dec(D:bN K):(s:aU K)->Ob K->Option s.T
 |.dead,_=>some ()
 |.box l,o=>match o.zX with
   |some cs=>Sh.ej D l cs
   |none=>none
 |.el c,o=>match o.zX with
   |some cs=>sure (D.dec c cs)
   |none=>none
 |.arr c,o=>o.Ry c
 |.hZ c,o=>o.Rz c
 |.tree c,o=>o.RB c
def aU.ej(D:bN K):(l:List (aU K))->List (Ob K)->Option (aU.Ts l)
 |[],[]=>some ()
 |s::r,v::l=>match aU.dec D s v,aU.ej D r l with
  |some x,some y=>some (x,y)
  |_,_=>none
 |_,_=>none
theorem aCR(hD:bY D){c:K.U}{v:AV K}{l:List (K.El c)}(h:elems [] c v=some l){u:Value}(hr:Rep D ρ S w v u):Rep D ρ S w (.ah c l) u:=by
 unfold elems at h;split at h
 ·simp only[aA]at h;subst h;cases hr;exact .fw _ _
 ·split at h
  ·rename_i he _;subst he;simp only[aA]at h;subst h;exact hr
  ·cases h
 ·simp at h
 ·cases h
mutual
theorem Sh.zY(hD:bY D):∀(s:Sh K)(v:AV K)(x:s.T),Sh.dec D s v=some x->∀u,Rep D ρ S w v u->Rep D ρ S w (Sh.enc D s x) u
 |.any,v,x,h,u,hr=>.any u
 |.int k,v,x,h,u,hr=>by rw[AV.PM h]at hr;exact hr
 |.bool,v,x,h,u,hr=>by rw[AV.PN h]at hr;exact hr
 |.str,v,x,h,u,hr=>by rw[AV.PO h]at hr;exact hr
 |.ah c,v,x,h,u,hr=>aCR hD h hr
 |.el c,v,x,h,u,hr=>by
   unfold Sh.dec at h;split at h
   ·rename_i l hl;rw[AV.alP hl]at hr;cases hr with
    |agg hl hh=>
     have:=hD.dec c _ _ (alR h) ρ S w _ ⟨hl,hh⟩;exact .agg this.1 this.2
   ·cases h
 |.rp c o,v,x,h,u,hr=>by rw[AV.aCJ h]at hr;exact hr
 |.dJ,v,x,h,u,hr=>by rw[AV.aCK h]at hr;exact hr
 |.dk,v,x,h,u,hr=>by rw[AV.aCL h]at hr;exact hr
 |.ptr a b,v,x,h,u,hr=>by rw[AV.aCM h]at hr;exact hr
 |.own a,v,x,h,u,hr=>by rw[AV.aCN h]at hr;exact hr
 |.np a,v,x,h,u,hr=>by rw[AV.alQ h]at hr;exact hr
 |.ep a c o,v,x,h,u,hr=>by rw[AV.aCG h]at hr;exact hr
 |.fn g l,v,x,h,u,hr=>by
   unfold Sh.dec at h;split at h
   ·rename_i l' hl;rw[AV.aCI hl]at hr;cases hr with
    |fn hl hh=>
     have:=Sh.uc hD l _ x h _ ⟨hl,hh⟩;exact .fn this.1 this.2
   ·cases h
 |.agg l,v,x,h,u,hr=>by
   unfold Sh.dec at h;split at h
   ·rename_i l' hl;rw[AV.alP hl]at hr;cases hr with
    |agg hl hh=>
     have:=Sh.uc hD l _ x h _ ⟨hl,hh⟩;exact .agg this.1 this.2
   ·cases h
 |.bT l,v,x,h,u,hr=>by
   unfold Sh.dec at h;split at h
   ·rename_i l' hl;rw[AV.aCH hl]at hr;cases hr with
    |bT hl hh=>
     have:=Sh.uc hD l _ x h _ ⟨hl,hh⟩;exact .bT this.1 this.2
   ·cases h
theorem Sh.uc(hD:bY D):∀(l:List (Sh K))(vs:List (AV K))(x:Sh.Ts l),Sh.ej D l vs=some x->∀us,bG D ρ S w vs us->bG D ρ S w (Sh.encs D l x) us
 |[],vs,x,h,us,hr=>by
   cases vs with
   |nil=>exact hr
   |cons v r=>unfold Sh.ej at h;cases h
 |s::r,vs,x,h,us,hr=>by
  cases vs with
  |nil=>unfold Sh.ej at h;cases h
  |cons v l=>
   unfold Sh.ej at h;split at h
   ·rename_i a b h1 h2;have h:=ig h;subst h;obtain⟨u,t,rfl,g1,g2⟩:=hr.ij;exact .cons (Sh.zY hD s v a h1 u g1) (Sh.uc hD r l b h2 t g2)
   ·cases h
end
theorem aCS{l:List (AV K)}(h:gY l=true):k7 l=false:=by
 cases l with
 |nil=>rfl
 |cons v r=>
  simp only[gY,bJ]at h;cases v<;>first|rfl|(simp[AV.closed]at h)
theorem aCT{l:List (Sh K)}{cs:List (AV K)}{x:Sh.Ts l}(h:Sh.ej D l cs=some x)(hn:k7 (Sh.encs D l x)=true):k7 cs=true:=by
 cases l with
 |nil=>unfold Sh.encs at hn;cases hn
 |cons s r=>
  cases cs with
  |nil=>unfold Sh.ej at h;cases h
  |cons v vs=>
   unfold Sh.ej at h;split at h
   ·rename_i a b h1 h2;have h:=ig h;subst h;change k7 (Sh.enc D s a::Sh.encs D r b)=true at hn;cases s
    all_goals first
     |exact absurd (show false=true from hn) (by simp)
     |(have h3:=AV.alQ (v:=v) h1;rw[h3];rfl)
   ·cases h
theorem aU.zY(hD:bY D)(s:aU K)(o:Ob K)(x:s.T)(h:aU.dec D s o=some x):((aU.enc D s x).live=true->o.live=true/\∀w r b,cE D w (aU.enc D s x) r b->cE D w o r b)/\∀r,fN D ρ S w o r->fN D ρ S w (aU.enc D s x) r:=by
 cases s with
 |dead=>exact⟨fun h=>Bool.noConfusion h,fun _ _=>trivial⟩
 |box l=>
  change(match o.zX with
   |some cs=>Sh.ej D l cs
   |none=>none)=some x at h
  split at h
  ·rename_i cs hcs;rw[Ob.alS hcs];refine⟨fun _=>⟨rfl,fun _ _ _ h=>h⟩,fun r hh=>?_⟩;obtain⟨b,vs,T,e,h1,h2,h3⟩:=hh;exact⟨b,vs,T,e,h1,Sh.uc hD l _ x h _ h2,fun hn=>h3 (aCT h hn)⟩
  ·cases h
 |el c=>
  change(match o.zX with
   |some cs=>sure (D.dec c cs)
   |none=>none)=some x at h
  split at h
  ·rename_i cs hcs;rw[Ob.alS hcs];refine⟨fun _=>⟨rfl,fun _ _ _ h=>h⟩,fun r hh=>?_⟩;obtain⟨b,vs,T,e,h1,h2,h3⟩:=hh;exact⟨b,vs,T,e,h1,hD.dec c _ _ (alR h) ρ S w _ h2,fun hn=>by rw[aCS (hD.closed c x)]at hn;cases hn⟩
  ·cases h
 |arr c=>rw[Ob.aCO h];exact⟨fun h=>⟨h,fun _ _ _ h=>h⟩,fun _ h=>h⟩
 |hZ c=>rw[Ob.aCP h];exact⟨fun h=>⟨h,fun _ _ _ h=>h⟩,fun _ h=>h⟩
 |tree c=>rw[Ob.aCQ h];exact⟨fun h=>⟨h,fun _ _ _ h=>h⟩,fun _ h=>h⟩
theorem aU.LC:∀(l:List (aU K))(os:List (Ob K))(x:aU.Ts l),aU.ej D l os=some x->(aU.encs D l x).length=os.length/\∀(i:Nat) o',(aU.encs D l x)[i]?=some o'->∃o,os[i]?=some o/\∃(s:aU K)(y:s.T),aU.dec D s o=some y/\o'=aU.enc D s y
 |[],os,x,h=>by
   cases os with
   |nil=>exact⟨rfl,fun i o' h=>by simp[aU.encs]at h⟩
   |cons v r=>simp[aU.ej]at h
 |s::r,os,x,h=>by
  cases os with
  |nil=>simp[aU.ej]at h
  |cons v l=>
   simp only[aU.ej]at h;split at h
   ·rename_i a b h1 h2;have h:=ig h;subst h;obtain⟨g1,g2⟩:=aU.LC r l b h2;refine⟨by simp only[aU.encs,cD];rw[g1],fun i o' hi=>?_⟩;cases i with
    |zero=>simp[aU.encs]at hi;exact⟨v,rfl,s,a,h1,hi.symm⟩
    |succ i=>simp[aU.encs]at hi;obtain⟨o,q⟩:=g2 i o' hi;exact⟨o,by simpa using q.1,q.2⟩
   ·cases h
structure Wk (D:bN K) (vs:List (AV K)) (H:List (Ob K)) (vs':List (AV K)) (H':List (Ob K)):Prop where
 len:H'.length=H.length
 QV:∀ρ S w us,bG D ρ S w vs us->bG D ρ S w vs' us
 heap:∀ρ S w,aY D ρ S w H->aY D ρ S w H'
 own:∀w ρ b,Own D w ρ H' b->Own D w ρ H b
theorem Wk.step{vs vs':List (AV K)}{n0:Nat}(h:Wk D vs H vs' H'):Step D n0 ρ S H w ρ S H' w:=
 ⟨rfl,rfl,rfl,cr _,fun _ _ _=>rfl,fun b hb=>.inl (h.own _ _ b hb),fun _ h=>h,fun _ h=>.inl h,fun _ _=>rfl⟩
theorem aU.alT{l:List (aU K)}{os:List (Ob K)}{x:aU.Ts l}(hD:bY D)(h:aU.ej D l os=some x)(w:World)(ρ:List Value)(b:Nat)(hb:Own D w ρ (aU.encs D l x) b):Own D w ρ os b:=by
 obtain⟨i,o',r,h1,h2,h3,h4⟩:=hb;obtain⟨o,q1,s,y,q2,rfl⟩:=(aU.LC l os x h).2 i o' h1;have q3:=(aU.zY (ρ:=ρ) (S:=fun _=>False) (w:=w) hD s o y q2).1 h2;exact⟨i,o,r,q1,q3.1,h3,q3.2 _ _ _ h4⟩
theorem aU.uc{l:List (aU K)}{os:List (Ob K)}{x:aU.Ts l}(hD:bY D)(h:aU.ej D l os=some x)(hs:aY D ρ S w os):aY D ρ S w (aU.encs D l x):=by
 obtain⟨g1,g2⟩:=aU.LC l os x h;refine⟨by rw[g1];exact hs.len,fun i o' r h1 h2=>?_,fun i j o o' r r' b h1 h2 h3 h4 c1 c2 c3 c4=>?_,fun b hb=>hs.lt b (aU.alT hD h w ρ b hb),hs.slt,hs.base⟩
 ·obtain⟨o,q1,s,y,q2,rfl⟩:=g2 i o' h1;exact(aU.zY hD s o y q2).2 r (hs.ob i o r q1 h2)
 ·obtain⟨o1,q1,s,y,q2,rfl⟩:=g2 i o h1;obtain⟨o2,p1,s',y',p2,rfl⟩:=g2 j o' c1;have a1:=(aU.zY (ρ:=ρ) (S:=S) (w:=w) hD s o1 y q2).1 h2;have a2:=(aU.zY (ρ:=ρ) (S:=S) (w:=w) hD s' o2 y' p2).1 c2;exact hs.eC i j o1 o2 r r' b q1 a1.1 h3 (a1.2 _ _ _ h4) p1 a2.1 c3 (a2.2 _ _ _ c4)
structure aN (K:dt) where
 vs:List (Sh K)
 os:List (aU K)
def aN.T(c:aN K):Type:=Sh.Ts c.vs×aU.Ts c.os
def aN.dec(D:bN K)(c:aN K)(vs:List (AV K))(H:List (Ob K)):Option c.T:=
 match Sh.ej D c.vs vs,aU.ej D c.os H with
 |some a,some b=>some (a,b)
 |_,_=>none
def aN.lI(D:bN K)(c:aN K)(x:c.T):List (AV K):=Sh.encs D c.vs x.1
def aN.ju(D:bN K)(c:aN K)(x:c.T):List (Ob K):=aU.encs D c.os x.2
theorem aN.E8(hD:bY D){c:aN K}{vs:List (AV K)}{x:c.T}(h:c.dec D vs H=some x):Wk D vs H (c.lI D x) (c.ju D x):=by
 unfold aN.dec at h;split at h
 ·rename_i a b h1 h2;have h:=ig h;subst h;exact⟨(aU.LC c.os H b h2).1,fun ρ S w us hr=>Sh.uc hD c.vs vs a h1 us hr,fun ρ S w hs=>aU.uc hD h2 hs,fun w ρ b' hb=>aU.alT hD h2 w ρ b' hb⟩
 ·cases h
end Go.V
