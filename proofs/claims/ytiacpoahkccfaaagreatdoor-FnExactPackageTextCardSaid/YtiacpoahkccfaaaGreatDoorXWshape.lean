/-
  SHAPES: of arguments, of what a loop knows, of what is yielded: how unknowns lie in abstract values and objects, how they are read off, and that reading off loses nothing that is true.
-/
import Derived.Test.YtiacpoahkccfaaaGreatDoorXWloop
set_option linter.unusedVariables false
namespace Go.V
open Go
variable {K :dh}{D:bF K}{ρ ρ':List Value}{S S':Nat->Prop}{w w':World}{H H':List (Ob K)}
inductive Sh (K:dh) where
 |any
 |int (k:IntKind)
 |bool
 |str
 |an (c:K.U)
 |el (c:K.U)
 |rp (c:K.U) (off:Nat)
 |dA
 |dn
 |ptr (h off:Nat)
 |own (h:Nat)
 |fn (g:Nat) (caps:List (Sh K))
 |agg (l:List (Sh K))
 |bD (l:List (Sh K))
 |np (h:Nat)
 |ep (h:Nat) (c:K.U) (off:Nat)
inductive aY (K:dh) where
 |dead
 |box (l:List (Sh K))
 |el (c:K.U)
 |arr (c:K.U)
 |gU (c:K.U)
 |tree (c:K.U)
mutual
def Sh.T:Sh K->Type
 |.int _=>Int
 |.bool=>Bool
 |.str=>List UInt8
 |.an c=>List (K.El c)
 |.el c=>K.El c
 |.rp c _=>K.El c
 |.ep _ _ _=>Nat
 |.fn _ l=>Sh.Ts l
 |.agg l=>Sh.Ts l
 |.bD l=>Sh.Ts l
 |_=>Unit
def Sh.Ts:List (Sh K)->Type
 |[]=>Unit
 |s::r=>Sh.T s×Sh.Ts r
end
def aY.T:aY K->Type
 |.dead=>Unit
 |.box l=>Sh.Ts l
 |.el c=>K.El c
 |.arr c=>List (K.El c)
 |.gU c=>List (K.El c)
 |.tree c=>List (K.El c)
def aY.Ts:List (aY K)->Type
 |[]=>Unit
 |s::r=>aY.T s×aY.Ts r
mutual
def Sh.enc(D:bF K):(s:Sh K)->s.T->AV K
 |.any,_=>.any
 |.int k,n=>.int k n
 |.bool,b=>.bool b
 |.str,s=>.str s
 |.an c,l=>.an c l
 |.el c,x=>.agg (D.cells c x)
 |.rp c o,x=>.rp c x o
 |.dA,_=>.dA
 |.dn,_=>.dn
 |.ptr h o,_=>.ptr h o
 |.own h,_=>.sl h
 |.np h,_=>.np h
 |.ep h c o,i=>.ep h (K.sz c) i o
 |.fn g l,x=>.fn g (Sh.encs D l x)
 |.agg l,x=>.agg (Sh.encs D l x)
 |.bD l,x=>.bD (Sh.encs D l x)
def Sh.encs(D:bF K):(l:List (Sh K))->Sh.Ts l->List (AV K)
 |[],_=>[]
 |s::r,x=>Sh.enc D s x.1::Sh.encs D r x.2
end
def aY.enc(D:bF K):(s:aY K)->s.T->Ob K
 |.dead,_=>.dead
 |.box l,x=>.box (Sh.encs D l x)
 |.el c,x=>.box (D.cells c x)
 |.arr c,x=>.arr c x
 |.gU c,x=>.gU c x
 |.tree c,x=>.tree c x
def aY.encs(D:bF K):(l:List (aY K))->aY.Ts l->List (Ob K)
 |[],_=>[]
 |s::r,x=>aY.enc D s x.1::aY.encs D r x.2
def AV.getInt(k:IntKind):AV K->Option Int
 |.int k' n=>if k=k' then some n else none
 |_=>none
def AV.getBool:AV K->Option Bool
 |.bool b=>some b
 |_=>none
def AV.Kv:AV K->Option (List UInt8)
 |.str s=>some s
 |_=>none
def AV.En:AV K->Option (List (AV K))
 |.agg l=>some l
 |_=>none
def AV.Kw:AV K->Option (List (AV K))
 |.bD l=>some l
 |_=>none
def AV.getFn(g:Nat):AV K->Option (List (AV K))
 |.fn g' l=>if g=g' then some l else none
 |_=>none
def AV.Kx(c:K.U)(o:Nat):AV K->Option (K.El c)
 |.rp c' x o'=>if o=o' then match K.jI c' c with
   |.isTrue h=>some (h ▸ x)
   |.isFalse _=>none else none
 |_=>none
def AV.Ky:AV K->Option Unit
 |.dA=>some ()
 |_=>none
def AV.Kz:AV K->Option Unit
 |.dn=>some ()
 |_=>none
def AV.KA(h o:Nat):AV K->Option Unit
 |.ptr h' o'=>if h=h' then if o=o' then some ()else none else none
 |_=>none
def AV.KB(h:Nat):AV K->Option Unit
 |.sl h'=>if h=h' then some ()else none
 |_=>none
def AV.KC(h:Nat):AV K->Option Unit
 |.np h'=>if h=h' then some ()else none
 |_=>none
def AV.KD(h:Nat)(c:K.U)(o:Nat):AV K->Option Nat
 |.ep h' st i o'=>if h=h' then if K.sz c=st then if o=o' then some i else none else none else none
 |_=>none
theorem AV.afz{h:Nat}{c:K.U}{o:Nat}{v:AV K}{n:Nat}(hh:v.KD h c o=some n):v=.ep h (K.sz c) n o:=by
 unfold AV.KD at hh;split at hh
 ·split at hh
  ·split at hh
   ·split at hh
    ·rename_i h1 h2 h3;subst h1;subst h2;subst h3;simp only[ay]at hh;subst hh;rfl
    ·cases hh
   ·cases hh
  ·cases hh
 ·cases hh
theorem AV.ID{k:IntKind}{v:AV K}{n:Int}(h:v.getInt k=some n):v=.int k n:=by
 unfold AV.getInt at h;split at h
 ·split at h
  ·rename_i hk;subst hk;simp only[ay]at h;subst h;rfl
  ·cases h
 ·cases h
theorem AV.IE{v:AV K}{n:Bool}(h:v.getBool=some n):v=.bool n:=by
 unfold AV.getBool at h;split at h
 ·simp only[ay]at h;subst h;rfl
 ·cases h
theorem AV.IF{v:AV K}{n:List UInt8}(h:v.Kv=some n):v=.str n:=by
 unfold AV.Kv at h;split at h
 ·simp only[ay]at h;subst h;rfl
 ·cases h
theorem AV.QE{v:AV K}{n:List (AV K)}(h:v.En=some n):v=.agg n:=by
 unfold AV.En at h;split at h
 ·simp only[ay]at h;subst h;rfl
 ·cases h
theorem AV.afA{v:AV K}{n:List (AV K)}(h:v.Kw=some n):v=.bD n:=by
 unfold AV.Kw at h;split at h
 ·simp only[ay]at h;subst h;rfl
 ·cases h
theorem AV.afB{g:Nat}{v:AV K}{n:List (AV K)}(h:v.getFn g=some n):v=.fn g n:=by
 unfold AV.getFn at h;split at h
 ·split at h
  ·rename_i hk;subst hk;simp only[ay]at h;subst h;rfl
  ·cases h
 ·cases h
theorem AV.afC{c:K.U}{o:Nat}{v:AV K}{n:K.El c}(h:v.Kx c o=some n):v=.rp c n o:=by
 unfold AV.Kx at h;split at h
 ·split at h
  ·rename_i hk;subst hk;split at h
   ·rename_i he _;subst he;simp only[ay]at h;subst h;rfl
   ·cases h
  ·cases h
 ·cases h
theorem AV.afD{v:AV K}{n:Unit}(h:v.Ky=some n):v=.dA:=by
 unfold AV.Ky at h;split at h
 ·rfl
 ·cases h
theorem AV.afE{v:AV K}{n:Unit}(h:v.Kz=some n):v=.dn:=by
 unfold AV.Kz at h;split at h
 ·rfl
 ·cases h
theorem AV.afF{a o:Nat}{v:AV K}{n:Unit}(h:v.KA a o=some n):v=.ptr a o:=by
 unfold AV.KA at h;split at h
 ·split at h
  ·split at h
   ·rename_i h1 h2;subst h1;subst h2;rfl
   ·cases h
  ·cases h
 ·cases h
theorem AV.afG{a:Nat}{v:AV K}{n:Unit}(h:v.KB a=some n):v=.sl a:=by
 unfold AV.KB at h;split at h
 ·split at h
  ·rename_i h1;subst h1;rfl
  ·cases h
 ·cases h
theorem AV.QF{a:Nat}{v:AV K}{n:Unit}(h:v.KC a=some n):v=.np a:=by
 unfold AV.KC at h;split at h
 ·split at h
  ·rename_i h1;subst h1;rfl
  ·cases h
 ·cases h
def sure{α:Type}:Option (α×Bool)->Option α
 |some (x,true)=>some x
 |_=>none
theorem QG{α:Type}{o:Option (α×Bool)}{x:α}(h:sure o=some x):o=some (x,true):=by
 unfold sure at h;split at h
 ·simp only[ay]at h;subst h;rfl
 ·cases h
mutual
def Sh.dec(D:bF K):(s:Sh K)->AV K->Option s.T
 |.any,_=>some ()
 |.int k,v=>v.getInt k
 |.bool,v=>v.getBool
 |.str,v=>v.Kv
 |.an c,v=>elems [] c v
 |.el c,v=>match v.En with
   |some l=>sure (D.dec c l)
   |none=>none
 |.rp c o,v=>v.Kx c o
 |.dA,v=>v.Ky
 |.dn,v=>v.Kz
 |.ptr h o,v=>v.KA h o
 |.own h,v=>v.KB h
 |.np h,v=>v.KC h
 |.ep h c o,v=>v.KD h c o
 |.fn g l,v=>match v.getFn g with
   |some l'=>Sh.eg D l l'
   |none=>none
 |.agg l,v=>match v.En with
   |some l'=>Sh.eg D l l'
   |none=>none
 |.bD l,v=>match v.Kw with
   |some l'=>Sh.eg D l l'
   |none=>none
def Sh.eg(D:bF K):(l:List (Sh K))->List (AV K)->Option (Sh.Ts l)
 |[],[]=>some ()
 |s::r,v::l=>match Sh.dec D s v,Sh.eg D r l with
  |some x,some y=>some (x,y)
  |_,_=>none
 |_,_=>none
end
def Ob.xl:Ob K->Option (List (AV K))
 |.box l=>some l
 |_=>none
def Ob.KE(c:K.U):Ob K->Option (List (K.El c))
 |.arr c' l=>match K.jI c' c with
   |.isTrue h=>some (h ▸ l)
   |.isFalse _=>none
 |_=>none
def Ob.KF(c:K.U):Ob K->Option (List (K.El c))
 |.gU c' l=>match K.jI c' c with
   |.isTrue h=>some (h ▸ l)
   |.isFalse _=>none
 |_=>none
def Ob.KG(c:K.U):Ob K->Option (List (K.El c))
 |.tree c' l=>match K.jI c' c with
   |.isTrue h=>some (h ▸ l)
   |.isFalse _=>none
 |_=>none
theorem Ob.QH{v:Ob K}{n:List (AV K)}(h:v.xl=some n):v=.box n:=by
 unfold Ob.xl at h;split at h
 ·simp only[ay]at h;subst h;rfl
 ·cases h
theorem Ob.afH{c:K.U}{v:Ob K}{n:List (K.El c)}(h:v.KE c=some n):v=.arr c n:=by
 unfold Ob.KE at h;split at h
 ·split at h
  ·rename_i he _;subst he;simp only[ay]at h;subst h;rfl
  ·cases h
 ·cases h
theorem Ob.afI{c:K.U}{v:Ob K}{n:List (K.El c)}(h:v.KF c=some n):v=.gU c n:=by
 unfold Ob.KF at h;split at h
 ·split at h
  ·rename_i he _;subst he;simp only[ay]at h;subst h;rfl
  ·cases h
 ·cases h
theorem Ob.afJ{c:K.U}{v:Ob K}{n:List (K.El c)}(h:v.KG c=some n):v=.tree c n:=by
 unfold Ob.KG at h;split at h
 ·split at h
  ·rename_i he _;subst he;simp only[ay]at h;subst h;rfl
  ·cases h
 ·cases h
def aY.dec(D:bF K):(s:aY K)->Ob K->Option s.T
 |.dead,_=>some ()
 |.box l,o=>match o.xl with
   |some cs=>Sh.eg D l cs
   |none=>none
 |.el c,o=>match o.xl with
   |some cs=>sure (D.dec c cs)
   |none=>none
 |.arr c,o=>o.KE c
 |.gU c,o=>o.KF c
 |.tree c,o=>o.KG c
def aY.eg(D:bF K):(l:List (aY K))->List (Ob K)->Option (aY.Ts l)
 |[],[]=>some ()
 |s::r,v::l=>match aY.dec D s v,aY.eg D r l with
  |some x,some y=>some (x,y)
  |_,_=>none
 |_,_=>none
theorem afK(hD:bQ D){c:K.U}{v:AV K}{l:List (K.El c)}(h:elems [] c v=some l){u:Value}(hr:Rep D ρ S w v u):Rep D ρ S w (.an c l) u:=by
 unfold elems at h;split at h
 ·simp only[ay]at h;subst h;cases hr;exact .fj _ _
 ·split at h
  ·rename_i he _;subst he;simp only[ay]at h;subst h;exact hr
  ·cases h
 ·simp at h
 ·cases h
mutual
theorem Sh.xm(hD:bQ D):∀(s:Sh K)(v:AV K)(x:s.T),Sh.dec D s v=some x->∀u,Rep D ρ S w v u->Rep D ρ S w (Sh.enc D s x) u
 |.any,v,x,h,u,hr=>.any u
 |.int k,v,x,h,u,hr=>by rw[AV.ID h]at hr;exact hr
 |.bool,v,x,h,u,hr=>by rw[AV.IE h]at hr;exact hr
 |.str,v,x,h,u,hr=>by rw[AV.IF h]at hr;exact hr
 |.an c,v,x,h,u,hr=>afK hD h hr
 |.el c,v,x,h,u,hr=>by
   unfold Sh.dec at h;split at h
   ·rename_i l hl;rw[AV.QE hl]at hr;cases hr with
    |agg hl hh=>
     have:=hD.dec c _ _ (QG h) ρ S w _ ⟨hl,hh⟩;exact .agg this.1 this.2
   ·cases h
 |.rp c o,v,x,h,u,hr=>by rw[AV.afC h]at hr;exact hr
 |.dA,v,x,h,u,hr=>by rw[AV.afD h]at hr;exact hr
 |.dn,v,x,h,u,hr=>by rw[AV.afE h]at hr;exact hr
 |.ptr a b,v,x,h,u,hr=>by rw[AV.afF h]at hr;exact hr
 |.own a,v,x,h,u,hr=>by rw[AV.afG h]at hr;exact hr
 |.np a,v,x,h,u,hr=>by rw[AV.QF h]at hr;exact hr
 |.ep a c o,v,x,h,u,hr=>by rw[AV.afz h]at hr;exact hr
 |.fn g l,v,x,h,u,hr=>by
   unfold Sh.dec at h;split at h
   ·rename_i l' hl;rw[AV.afB hl]at hr;cases hr with
    |fn hl hh=>
     have:=Sh.sf hD l _ x h _ ⟨hl,hh⟩;exact .fn this.1 this.2
   ·cases h
 |.agg l,v,x,h,u,hr=>by
   unfold Sh.dec at h;split at h
   ·rename_i l' hl;rw[AV.QE hl]at hr;cases hr with
    |agg hl hh=>
     have:=Sh.sf hD l _ x h _ ⟨hl,hh⟩;exact .agg this.1 this.2
   ·cases h
 |.bD l,v,x,h,u,hr=>by
   unfold Sh.dec at h;split at h
   ·rename_i l' hl;rw[AV.afA hl]at hr;cases hr with
    |bD hl hh=>
     have:=Sh.sf hD l _ x h _ ⟨hl,hh⟩;exact .bD this.1 this.2
   ·cases h
theorem Sh.sf(hD:bQ D):∀(l:List (Sh K))(vs:List (AV K))(x:Sh.Ts l),Sh.eg D l vs=some x->∀us,bc D ρ S w vs us->bc D ρ S w (Sh.encs D l x) us
 |[],vs,x,h,us,hr=>by
   cases vs with
   |nil=>exact hr
   |cons v r=>unfold Sh.eg at h;cases h
 |s::r,vs,x,h,us,hr=>by
  cases vs with
  |nil=>unfold Sh.eg at h;cases h
  |cons v l=>
   unfold Sh.eg at h;split at h
   ·rename_i a b h1 h2;have h:=iP h;subst h;obtain⟨u,t,rfl,g1,g2⟩:=hr.gB;exact .cons (Sh.xm hD s v a h1 u g1) (Sh.sf hD r l b h2 t g2)
   ·cases h
end
theorem afL{l:List (AV K)}(h:ia l=true):kC l=false:=by
 cases l with
 |nil=>rfl
 |cons v r=>
  simp only[ia,cC]at h;cases v<;>first|rfl|(simp[AV.closed]at h)
theorem afM{l:List (Sh K)}{cs:List (AV K)}{x:Sh.Ts l}(h:Sh.eg D l cs=some x)(hn:kC (Sh.encs D l x)=true):kC cs=true:=by
 cases l with
 |nil=>unfold Sh.encs at hn;cases hn
 |cons s r=>
  cases cs with
  |nil=>unfold Sh.eg at h;cases h
  |cons v vs=>
   unfold Sh.eg at h;split at h
   ·rename_i a b h1 h2;have h:=iP h;subst h;change kC (Sh.enc D s a::Sh.encs D r b)=true at hn;cases s
    all_goals first
     |exact absurd (show false=true from hn) (by simp)
     |(have h3:=AV.QF (v:=v) h1;rw[h3];rfl)
   ·cases h
theorem aY.xm(hD:bQ D)(s:aY K)(o:Ob K)(x:s.T)(h:aY.dec D s o=some x):((aY.enc D s x).live=true->o.live=true/\∀w r b,cG D w (aY.enc D s x) r b->cG D w o r b)/\∀r,fY D ρ S w o r->fY D ρ S w (aY.enc D s x) r:=by
 cases s with
 |dead=>exact⟨fun h=>Bool.noConfusion h,fun _ _=>trivial⟩
 |box l=>
  change(match o.xl with
   |some cs=>Sh.eg D l cs
   |none=>none)=some x at h
  split at h
  ·rename_i cs hcs;rw[Ob.QH hcs];refine⟨fun _=>⟨rfl,fun _ _ _ h=>h⟩,fun r hh=>?_⟩;obtain⟨b,vs,T,e,h1,h2,h3⟩:=hh;exact⟨b,vs,T,e,h1,Sh.sf hD l _ x h _ h2,fun hn=>h3 (afM h hn)⟩
  ·cases h
 |el c=>
  change(match o.xl with
   |some cs=>sure (D.dec c cs)
   |none=>none)=some x at h
  split at h
  ·rename_i cs hcs;rw[Ob.QH hcs];refine⟨fun _=>⟨rfl,fun _ _ _ h=>h⟩,fun r hh=>?_⟩;obtain⟨b,vs,T,e,h1,h2,h3⟩:=hh;exact⟨b,vs,T,e,h1,hD.dec c _ _ (QG h) ρ S w _ h2,fun hn=>by rw[afL (hD.closed c x)]at hn;cases hn⟩
  ·cases h
 |arr c=>rw[Ob.afH h];exact⟨fun h=>⟨h,fun _ _ _ h=>h⟩,fun _ h=>h⟩
 |gU c=>rw[Ob.afI h];exact⟨fun h=>⟨h,fun _ _ _ h=>h⟩,fun _ h=>h⟩
 |tree c=>rw[Ob.afJ h];exact⟨fun h=>⟨h,fun _ _ _ h=>h⟩,fun _ h=>h⟩
theorem aY.Eo:∀(l:List (aY K))(os:List (Ob K))(x:aY.Ts l),aY.eg D l os=some x->(aY.encs D l x).length=os.length/\∀(i:Nat) o',(aY.encs D l x)[i]?=some o'->∃o,os[i]?=some o/\∃(s:aY K)(y:s.T),aY.dec D s o=some y/\o'=aY.enc D s y
 |[],os,x,h=>by
   cases os with
   |nil=>exact⟨rfl,fun i o' h=>by simp[aY.encs]at h⟩
   |cons v r=>simp[aY.eg]at h
 |s::r,os,x,h=>by
  cases os with
  |nil=>simp[aY.eg]at h
  |cons v l=>
   simp only[aY.eg]at h;split at h
   ·rename_i a b h1 h2;have h:=iP h;subst h;obtain⟨g1,g2⟩:=aY.Eo r l b h2;refine⟨by simp only[aY.encs,aU];rw[g1],fun i o' hi=>?_⟩;cases i with
    |zero=>simp[aY.encs]at hi;exact⟨v,rfl,s,a,h1,hi.symm⟩
    |succ i=>simp[aY.encs]at hi;obtain⟨o,q⟩:=g2 i o' hi;exact⟨o,by simpa using q.1,q.2⟩
   ·cases h
structure Wk (D:bF K) (vs:List (AV K)) (H:List (Ob K)) (vs':List (AV K)) (H':List (Ob K)):Prop where
 len:H'.length=H.length
 JS:∀ρ S w us,bc D ρ S w vs us->bc D ρ S w vs' us
 heap:∀ρ S w,aT D ρ S w H->aT D ρ S w H'
 own:∀w ρ b,Own D w ρ H' b->Own D w ρ H b
theorem Wk.step{vs vs':List (AV K)}{n0:Nat}(h:Wk D vs H vs' H'):Step D n0 ρ S H w ρ S H' w:=
 ⟨rfl,rfl,rfl,cw _,fun _ _ _=>rfl,fun b hb=>.inl (h.own _ _ b hb),fun _ h=>h,fun _ h=>.inl h,fun _ _=>rfl⟩
theorem aY.QI{l:List (aY K)}{os:List (Ob K)}{x:aY.Ts l}(hD:bQ D)(h:aY.eg D l os=some x)(w:World)(ρ:List Value)(b:Nat)(hb:Own D w ρ (aY.encs D l x) b):Own D w ρ os b:=by
 obtain⟨i,o',r,h1,h2,h3,h4⟩:=hb;obtain⟨o,q1,s,y,q2,rfl⟩:=(aY.Eo l os x h).2 i o' h1;have q3:=(aY.xm (ρ:=ρ) (S:=fun _=>False) (w:=w) hD s o y q2).1 h2;exact⟨i,o,r,q1,q3.1,h3,q3.2 _ _ _ h4⟩
theorem aY.sf{l:List (aY K)}{os:List (Ob K)}{x:aY.Ts l}(hD:bQ D)(h:aY.eg D l os=some x)(hs:aT D ρ S w os):aT D ρ S w (aY.encs D l x):=by
 obtain⟨g1,g2⟩:=aY.Eo l os x h;refine⟨by rw[g1];exact hs.len,fun i o' r h1 h2=>?_,fun i j o o' r r' b h1 h2 h3 h4 c1 c2 c3 c4=>?_,fun b hb=>hs.lt b (aY.QI hD h w ρ b hb),hs.slt,hs.base⟩
 ·obtain⟨o,q1,s,y,q2,rfl⟩:=g2 i o' h1;exact(aY.xm hD s o y q2).2 r (hs.ob i o r q1 h2)
 ·obtain⟨o1,q1,s,y,q2,rfl⟩:=g2 i o h1;obtain⟨o2,p1,s',y',p2,rfl⟩:=g2 j o' c1;have a1:=(aY.xm (ρ:=ρ) (S:=S) (w:=w) hD s o1 y q2).1 h2;have a2:=(aY.xm (ρ:=ρ) (S:=S) (w:=w) hD s' o2 y' p2).1 c2;exact hs.eM i j o1 o2 r r' b q1 a1.1 h3 (a1.2 _ _ _ h4) p1 a2.1 c3 (a2.2 _ _ _ c4)
structure aL (K:dh) where
 vs:List (Sh K)
 os:List (aY K)
def aL.T(c:aL K):Type:=Sh.Ts c.vs×aY.Ts c.os
def aL.dec(D:bF K)(c:aL K)(vs:List (AV K))(H:List (Ob K)):Option c.T:=
 match Sh.eg D c.vs vs,aY.eg D c.os H with
 |some a,some b=>some (a,b)
 |_,_=>none
def aL.ma(D:bF K)(c:aL K)(x:c.T):List (AV K):=Sh.encs D c.vs x.1
def aL.mJ(D:bF K)(c:aL K)(x:c.T):List (Ob K):=aY.encs D c.os x.2
theorem aL.zL(hD:bQ D){c:aL K}{vs:List (AV K)}{x:c.T}(h:c.dec D vs H=some x):Wk D vs H (c.ma D x) (c.mJ D x):=by
 unfold aL.dec at h;split at h
 ·rename_i a b h1 h2;have h:=iP h;subst h;exact⟨(aY.Eo c.os H b h2).1,fun ρ S w us hr=>Sh.sf hD c.vs vs a h1 us hr,fun ρ S w hs=>aY.sf hD h2 hs,fun w ρ b' hb=>aY.QI hD h2 w ρ b' hb⟩
 ·cases h
end Go.V
