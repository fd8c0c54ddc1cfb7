/-
  SHAPES: of arguments, of what a loop knows, of what is yielded: how unknowns lie in abstract values and objects, how they are read off, and that reading off loses nothing that is true.
-/
import Derived.Test.YtjgokmknlclpgaaGreatDoorXWloop
set_option linter.unusedVariables false
namespace Go.V
open Go
variable{K :Jc}{D:nz K}{ρ ρ':List Value}{S S':Nat->Prop}{w w':World}{H H':List (Ob K)}
inductive Sh (K:Jc) where
 |any
 |int (k:IntKind)
 |bool
 |str
 |bY (c:K.U)
 |el (c:K.U)
 |rp (c:K.U) (off:Nat)
 |vP
 |jf
 |ptr (h off:Nat)
 |own (h:Nat)
 |fn (g:Nat) (caps:List (Sh K))
 |agg (l:List (Sh K))
 |sO (l:List (Sh K))
 |np (h:Nat)
 |ep (h:Nat) (c:K.U) (off:Nat)
inductive ja (K:Jc) where
 |dead
 |box (l:List (Sh K))
 |el (c:K.U)
 |arr (c:K.U)
 |fro (c:K.U)
 |tree (c:K.U)
mutual
def Sh.T:Sh K->Type
 |.int _=>Int
 |.bool=>Bool
 |.str=>List UInt8
 |.bY c=>List (K.El c)
 |.el c=>K.El c
 |.rp c _=>K.El c
 |.ep _ _ _=>Nat
 |.fn _ l=>Sh.Ts l
 |.agg l=>Sh.Ts l
 |.sO l=>Sh.Ts l
 |_=>Unit
def Sh.Ts:List (Sh K)->Type
 |[]=>Unit
 |s::r=>Sh.T s×Sh.Ts r
end
def ja.T:ja K->Type
 |.dead=>Unit
 |.box l=>Sh.Ts l
 |.el c=>K.El c
 |.arr c=>List (K.El c)
 |.fro c=>List (K.El c)
 |.tree c=>List (K.El c)
def ja.Ts:List (ja K)->Type
 |[]=>Unit
 |s::r=>ja.T s×ja.Ts r
mutual
def Sh.enc(D:nz K):(s:Sh K)->s.T->AV K
 |.any,_=>.any
 |.int k,n=>.int k n
 |.bool,b=>.bool b
 |.str,s=>.str s
 |.bY c,l=>.bY c l
 |.el c,x=>.agg (D.cells c x)
 |.rp c o,x=>.rp c x o
 |.vP,_=>.vP
 |.jf,_=>.jf
 |.ptr h o,_=>.ptr h o
 |.own h,_=>.sl h
 |.np h,_=>.np h
 |.ep h c o,i=>.ep h (K.sz c) i o
 |.fn g l,x=>.fn g (Sh.encs D l x)
 |.agg l,x=>.agg (Sh.encs D l x)
 |.sO l,x=>.sO (Sh.encs D l x)
def Sh.encs(D:nz K):(l:List (Sh K))->Sh.Ts l->List (AV K)
 |[],_=>[]
 |s::r,x=>Sh.enc D s x.1::Sh.encs D r x.2
end
def ja.enc(D:nz K):(s:ja K)->s.T->Ob K
 |.dead,_=>.dead
 |.box l,x=>.box (Sh.encs D l x)
 |.el c,x=>.box (D.cells c x)
 |.arr c,x=>.arr c x
 |.fro c,x=>.fro c x
 |.tree c,x=>.tree c x
def ja.encs(D:nz K):(l:List (ja K))->ja.Ts l->List (Ob K)
 |[],_=>[]
 |s::r,x=>ja.enc D s x.1::ja.encs D r x.2
def AV.getInt(k:IntKind):AV K->Option Int
 |.int k' n=>if k=k' then some n else none
 |_=>none
def AV.getBool:AV K->Option Bool
 |.bool b=>some b
 |_=>none
def AV.azw:AV K->Option (List UInt8)
 |.str s=>some s
 |_=>none
def AV.avK:AV K->Option (List (AV K))
 |.agg l=>some l
 |_=>none
def AV.azx:AV K->Option (List (AV K))
 |.sO l=>some l
 |_=>none
def AV.getFn(g:Nat):AV K->Option (List (AV K))
 |.fn g' l=>if g=g' then some l else none
 |_=>none
def AV.aDS(c:K.U)(o:Nat):AV K->Option (K.El c)
 |.rp c' x o'=>if o=o' then match K.deq c' c with
   |.isTrue h=>some (h ▸ x)
   |.isFalse _=>none else none
 |_=>none
def AV.azy:AV K->Option Unit
 |.vP=>some ()
 |_=>none
def AV.avL:AV K->Option Unit
 |.jf=>some ()
 |_=>none
def AV.aDT(h o:Nat):AV K->Option Unit
 |.ptr h' o'=>if h=h' then if o=o' then some ()else none else none
 |_=>none
def AV.aDU(h:Nat):AV K->Option Unit
 |.sl h'=>if h=h' then some ()else none
 |_=>none
def AV.aIx(h:Nat):AV K->Option Unit
 |.np h'=>if h=h' then some ()else none
 |_=>none
def AV.aDV(h:Nat)(c:K.U)(o:Nat):AV K->Option Nat
 |.ep h' st i o'=>if h=h' then if K.sz c=st then if o=o' then some i else none else none else none
 |_=>none
theorem AV.aDW{h:Nat}{c:K.U}{o:Nat}{v:AV K}{n:Nat}(hh:v.aDV h c o=some n):v=.ep h (K.sz c) n o:=by
 unfold AV.aDV at hh;split at hh
 ·split at hh
  ·split at hh
   ·split at hh
    ·rename_i h1 h2 h3;subst h1;subst h2;subst h3;simp only[dS]at hh;subst hh;rfl
    ·cases hh
   ·cases hh
  ·cases hh
 ·cases hh
theorem AV.alo{k:IntKind}{v:AV K}{n:Int}(h:v.getInt k=some n):v=.int k n:=by
 unfold AV.getInt at h;split at h
 ·split at h
  ·rename_i hk;subst hk;simp only[dS]at h;subst h;rfl
  ·cases h
 ·cases h
theorem AV.agZ{v:AV K}{n:Bool}(h:v.getBool=some n):v=.bool n:=by
 unfold AV.getBool at h;split at h
 ·simp only[dS]at h;subst h;rfl
 ·cases h
theorem AV.alp{v:AV K}{n:List UInt8}(h:v.azw=some n):v=.str n:=by
 unfold AV.azw at h;split at h
 ·simp only[dS]at h;subst h;rfl
 ·cases h
theorem AV.auf{v:AV K}{n:List (AV K)}(h:v.avK=some n):v=.agg n:=by
 unfold AV.avK at h;split at h
 ·simp only[dS]at h;subst h;rfl
 ·cases h
theorem AV.aBQ{v:AV K}{n:List (AV K)}(h:v.azx=some n):v=.sO n:=by
 unfold AV.azx at h;split at h
 ·simp only[dS]at h;subst h;rfl
 ·cases h
theorem AV.aDX{g:Nat}{v:AV K}{n:List (AV K)}(h:v.getFn g=some n):v=.fn g n:=by
 unfold AV.getFn at h;split at h
 ·split at h
  ·rename_i hk;subst hk;simp only[dS]at h;subst h;rfl
  ·cases h
 ·cases h
theorem AV.aDY{c:K.U}{o:Nat}{v:AV K}{n:K.El c}(h:v.aDS c o=some n):v=.rp c n o:=by
 unfold AV.aDS at h;split at h
 ·split at h
  ·rename_i hk;subst hk;split at h
   ·rename_i he _;subst he;simp only[dS]at h;subst h;rfl
   ·cases h
  ·cases h
 ·cases h
theorem AV.aBR{v:AV K}{n:Unit}(h:v.azy=some n):v=.vP:=by
 unfold AV.azy at h;split at h
 ·rfl
 ·cases h
theorem AV.azz{v:AV K}{n:Unit}(h:v.avL=some n):v=.jf:=by
 unfold AV.avL at h;split at h
 ·rfl
 ·cases h
theorem AV.aDZ{a o:Nat}{v:AV K}{n:Unit}(h:v.aDT a o=some n):v=.ptr a o:=by
 unfold AV.aDT at h;split at h
 ·split at h
  ·split at h
   ·rename_i h1 h2;subst h1;subst h2;rfl
   ·cases h
  ·cases h
 ·cases h
theorem AV.aD0{a:Nat}{v:AV K}{n:Unit}(h:v.aDU a=some n):v=.sl a:=by
 unfold AV.aDU at h;split at h
 ·split at h
  ·rename_i h1;subst h1;rfl
  ·cases h
 ·cases h
theorem AV.aAG{a:Nat}{v:AV K}{n:Unit}(h:v.aIx a=some n):v=.np a:=by
 unfold AV.aIx at h;split at h
 ·split at h
  ·rename_i h1;subst h1;rfl
  ·cases h
 ·cases h
def sure{α:Type}:Option (α×Bool)->Option α
 |some (x,true)=>some x
 |_=>none
theorem aAH{α:Type}{o:Option (α×Bool)}{x:α}(h:sure o=some x):o=some (x,true):=by
 unfold sure at h;split at h
 ·simp only[dS]at h;subst h;rfl
 ·cases h
mutual
def Sh.dec(D:nz K):(s:Sh K)->AV K->Option s.T
 |.any,_=>some ()
 |.int k,v=>v.getInt k
 |.bool,v=>v.getBool
 |.str,v=>v.azw
 |.bY c,v=>elems [] c v
 |.el c,v=>match v.avK with
   |some l=>sure (D.dec c l)
   |none=>none
 |.rp c o,v=>v.aDS c o
 |.vP,v=>v.azy
 |.jf,v=>v.avL
 |.ptr h o,v=>v.aDT h o
 |.own h,v=>v.aDU h
 |.np h,v=>v.aIx h
 |.ep h c o,v=>v.aDV h c o
 |.fn g l,v=>match v.getFn g with
   |some l'=>Sh.zC D l l'
   |none=>none
 |.agg l,v=>match v.avK with
   |some l'=>Sh.zC D l l'
   |none=>none
 |.sO l,v=>match v.azx with
   |some l'=>Sh.zC D l l'
   |none=>none
def Sh.zC(D:nz K):(l:List (Sh K))->List (AV K)->Option (Sh.Ts l)
 |[],[]=>some ()
 |s::r,v::l=>match Sh.dec D s v,Sh.zC D r l with
  |some x,some y=>some (x,y)
  |_,_=>none
 |_,_=>none
end
def Ob.alK:Ob K->Option (List (AV K))
 |.box l=>some l
 |_=>none
def Ob.azA(c:K.U):Ob K->Option (List (K.El c))
 |.arr c' l=>match K.deq c' c with
   |.isTrue h=>some (h ▸ l)
   |.isFalse _=>none
 |_=>none
def Ob.azB(c:K.U):Ob K->Option (List (K.El c))
 |.fro c' l=>match K.deq c' c with
   |.isTrue h=>some (h ▸ l)
   |.isFalse _=>none
 |_=>none
def Ob.avM(c:K.U):Ob K->Option (List (K.El c))
 |.tree c' l=>match K.deq c' c with
   |.isTrue h=>some (h ▸ l)
   |.isFalse _=>none
 |_=>none
theorem Ob.aug{v:Ob K}{n:List (AV K)}(h:v.alK=some n):v=.box n:=by
 unfold Ob.alK at h;split at h
 ·simp only[dS]at h;subst h;rfl
 ·cases h
theorem Ob.aBS{c:K.U}{v:Ob K}{n:List (K.El c)}(h:v.azA c=some n):v=.arr c n:=by
 unfold Ob.azA at h;split at h
 ·split at h
  ·rename_i he _;subst he;simp only[dS]at h;subst h;rfl
  ·cases h
 ·cases h
theorem Ob.aBT{c:K.U}{v:Ob K}{n:List (K.El c)}(h:v.azB c=some n):v=.fro c n:=by
 unfold Ob.azB at h;split at h
 ·split at h
  ·rename_i he _;subst he;simp only[dS]at h;subst h;rfl
  ·cases h
 ·cases h
theorem Ob.azC{c:K.U}{v:Ob K}{n:List (K.El c)}(h:v.avM c=some n):v=.tree c n:=by
 unfold Ob.avM at h;split at h
 ·split at h
  ·rename_i he _;subst he;simp only[dS]at h;subst h;rfl
  ·cases h
 ·cases h
def ja.dec(D:nz K):(s:ja K)->Ob K->Option s.T
 |.dead,_=>some ()
 |.box l,o=>match o.alK with
   |some cs=>Sh.zC D l cs
   |none=>none
 |.el c,o=>match o.alK with
   |some cs=>sure (D.dec c cs)
   |none=>none
 |.arr c,o=>o.azA c
 |.fro c,o=>o.azB c
 |.tree c,o=>o.avM c
def ja.zC(D:nz K):(l:List (ja K))->List (Ob K)->Option (ja.Ts l)
 |[],[]=>some ()
 |s::r,v::l=>match ja.dec D s v,ja.zC D r l with
  |some x,some y=>some (x,y)
  |_,_=>none
 |_,_=>none
theorem aom(hD:dX D){c:K.U}{v:AV K}{l:List (K.El c)}(h:elems [] c v=some l){u:Value}(hr:Rep D ρ S w v u):Rep D ρ S w (.bY c l) u:=by
 unfold elems at h;split at h
 ·simp only[dS]at h;subst h;cases hr;exact .GM _ _
 ·split at h
  ·rename_i he _;subst he;simp only[dS]at h;subst h;exact hr
  ·cases h
 ·simp at h
 ·cases h
mutual
theorem Sh.NS(hD:dX D):∀(s:Sh K)(v:AV K)(x:s.T),Sh.dec D s v=some x->∀u,Rep D ρ S w v u->Rep D ρ S w (Sh.enc D s x) u
 |.any,v,x,h,u,hr=>.any u
 |.int k,v,x,h,u,hr=>by rw[AV.alo h]at hr;exact hr
 |.bool,v,x,h,u,hr=>by rw[AV.agZ h]at hr;exact hr
 |.str,v,x,h,u,hr=>by rw[AV.alp h]at hr;exact hr
 |.bY c,v,x,h,u,hr=>aom hD h hr
 |.el c,v,x,h,u,hr=>by
   unfold Sh.dec at h;split at h
   ·rename_i l hl;rw[AV.auf hl]at hr;cases hr with
    |agg hl hh=>
     have:=hD.dec c _ _ (aAH h) ρ S w _ ⟨hl,hh⟩;exact .agg this.1 this.2
   ·cases h
 |.rp c o,v,x,h,u,hr=>by rw[AV.aDY h]at hr;exact hr
 |.vP,v,x,h,u,hr=>by rw[AV.aBR h]at hr;exact hr
 |.jf,v,x,h,u,hr=>by rw[AV.azz h]at hr;exact hr
 |.ptr a b,v,x,h,u,hr=>by rw[AV.aDZ h]at hr;exact hr
 |.own a,v,x,h,u,hr=>by rw[AV.aD0 h]at hr;exact hr
 |.np a,v,x,h,u,hr=>by rw[AV.aAG h]at hr;exact hr
 |.ep a c o,v,x,h,u,hr=>by rw[AV.aDW h]at hr;exact hr
 |.fn g l,v,x,h,u,hr=>by
   unfold Sh.dec at h;split at h
   ·rename_i l' hl;rw[AV.aDX hl]at hr;cases hr with
    |fn hl hh=>
     have:=Sh.BO hD l _ x h _ ⟨hl,hh⟩;exact .fn this.1 this.2
   ·cases h
 |.agg l,v,x,h,u,hr=>by
   unfold Sh.dec at h;split at h
   ·rename_i l' hl;rw[AV.auf hl]at hr;cases hr with
    |agg hl hh=>
     have:=Sh.BO hD l _ x h _ ⟨hl,hh⟩;exact .agg this.1 this.2
   ·cases h
 |.sO l,v,x,h,u,hr=>by
   unfold Sh.dec at h;split at h
   ·rename_i l' hl;rw[AV.aBQ hl]at hr;cases hr with
    |sO hl hh=>
     have:=Sh.BO hD l _ x h _ ⟨hl,hh⟩;exact .sO this.1 this.2
   ·cases h
theorem Sh.BO(hD:dX D):∀(l:List (Sh K))(vs:List (AV K))(x:Sh.Ts l),Sh.zC D l vs=some x->∀us,ed D ρ S w vs us->ed D ρ S w (Sh.encs D l x) us
 |[],vs,x,h,us,hr=>by
   cases vs with
   |nil=>exact hr
   |cons v r=>unfold Sh.zC at h;cases h
 |s::r,vs,x,h,us,hr=>by
  cases vs with
  |nil=>unfold Sh.zC at h;cases h
  |cons v l=>
   unfold Sh.zC at h;split at h
   ·rename_i a b h1 h2;have h:=VG h;subst h;obtain⟨u,t,rfl,g1,g2⟩:=hr.wX;exact .cons (Sh.NS hD s v a h1 u g1) (Sh.BO hD r l b h2 t g2)
   ·cases h
end
theorem as9{l:List (AV K)}(h:nD l=true):GR l=false:=by
 cases l with
 |nil=>rfl
 |cons v r=>
  simp only[nD,lS]at h;cases v<;>first|rfl|(simp[AV.closed]at h)
theorem ax4{l:List (Sh K)}{cs:List (AV K)}{x:Sh.Ts l}(h:Sh.zC D l cs=some x)(hn:GR (Sh.encs D l x)=true):GR cs=true:=by
 cases l with
 |nil=>unfold Sh.encs at hn;cases hn
 |cons s r=>
  cases cs with
  |nil=>unfold Sh.zC at h;cases h
  |cons v vs=>
   unfold Sh.zC at h;split at h
   ·rename_i a b h1 h2;have h:=VG h;subst h;change GR (Sh.enc D s a::Sh.encs D r b)=true at hn;cases s
    all_goals first
     |exact absurd (show false=true from hn) (by simp)
     |(have h3:=AV.aAG (v:=v) h1;rw[h3];rfl)
   ·cases h
theorem ja.NS(hD:dX D)(s:ja K)(o:Ob K)(x:s.T)(h:ja.dec D s o=some x):((ja.enc D s x).live=true->o.live=true/\∀w r b,jo D w (ja.enc D s x) r b->jo D w o r b)/\∀r,yu D ρ S w o r->yu D ρ S w (ja.enc D s x) r:=by
 cases s with
 |dead=>exact⟨fun h=>Bool.noConfusion h,fun _ _=>trivial⟩
 |box l=>
  change(match o.alK with
   |some cs=>Sh.zC D l cs
   |none=>none)=some x at h
  split at h
  ·rename_i cs hcs;rw[Ob.aug hcs];refine⟨fun _=>⟨rfl,fun _ _ _ h=>h⟩,fun r hh=>?_⟩;obtain⟨b,vs,T,e,h1,h2,h3⟩:=hh;exact⟨b,vs,T,e,h1,Sh.BO hD l _ x h _ h2,fun hn=>h3 (ax4 h hn)⟩
  ·cases h
 |el c=>
  change(match o.alK with
   |some cs=>sure (D.dec c cs)
   |none=>none)=some x at h
  split at h
  ·rename_i cs hcs;rw[Ob.aug hcs];refine⟨fun _=>⟨rfl,fun _ _ _ h=>h⟩,fun r hh=>?_⟩;obtain⟨b,vs,T,e,h1,h2,h3⟩:=hh;exact⟨b,vs,T,e,h1,hD.dec c _ _ (aAH h) ρ S w _ h2,fun hn=>by rw[as9 (hD.closed c x)]at hn;cases hn⟩
  ·cases h
 |arr c=>rw[Ob.aBS h];exact⟨fun h=>⟨h,fun _ _ _ h=>h⟩,fun _ h=>h⟩
 |fro c=>rw[Ob.aBT h];exact⟨fun h=>⟨h,fun _ _ _ h=>h⟩,fun _ h=>h⟩
 |tree c=>rw[Ob.azC h];exact⟨fun h=>⟨h,fun _ _ _ h=>h⟩,fun _ h=>h⟩
theorem ja.ajJ:∀(l:List (ja K))(os:List (Ob K))(x:ja.Ts l),ja.zC D l os=some x->(ja.encs D l x).length=os.length/\∀(i:Nat) o',(ja.encs D l x)[i]?=some o'->∃o,os[i]?=some o/\∃(s:ja K)(y:s.T),ja.dec D s o=some y/\o'=ja.enc D s y
 |[],os,x,h=>by
   cases os with
   |nil=>exact⟨rfl,fun i o' h=>by simp[ja.encs]at h⟩
   |cons v r=>simp[ja.zC]at h
 |s::r,os,x,h=>by
  cases os with
  |nil=>simp[ja.zC]at h
  |cons v l=>
   simp only[ja.zC]at h;split at h
   ·rename_i a b h1 h2;have h:=VG h;subst h;obtain⟨g1,g2⟩:=ja.ajJ r l b h2;refine⟨by simp only[ja.encs,jA];rw[g1],fun i o' hi=>?_⟩;cases i with
    |zero=>simp[ja.encs]at hi;exact⟨v,rfl,s,a,h1,hi.symm⟩
    |succ i=>simp[ja.encs]at hi;obtain⟨o,q⟩:=g2 i o' hi;exact⟨o,by simpa using q.1,q.2⟩
   ·cases h
structure Wk (D:nz K) (vs:List (AV K)) (H:List (Ob K)) (vs':List (AV K)) (H':List (Ob K)):Prop where
 len:H'.length=H.length
 aIr:∀ρ S w us,ed D ρ S w vs us->ed D ρ S w vs' us
 heap:∀ρ S w,aP D ρ S w H->aP D ρ S w H'
 own:∀w ρ b,Own D w ρ H' b->Own D w ρ H b
theorem Wk.step{vs vs':List (AV K)}{n0:Nat}(h:Wk D vs H vs' H'):Step D n0 ρ S H w ρ S H' w:=
 ⟨rfl,rfl,rfl,iM _,fun _ _ _=>rfl,fun b hb=>.inl (h.own _ _ b hb),fun _ h=>h,fun _ h=>.inl h,fun _ _=>rfl⟩
theorem ja.ax5{l:List (ja K)}{os:List (Ob K)}{x:ja.Ts l}(hD:dX D)(h:ja.zC D l os=some x)(w:World)(ρ:List Value)(b:Nat)(hb:Own D w ρ (ja.encs D l x) b):Own D w ρ os b:=by
 obtain⟨i,o',r,h1,h2,h3,h4⟩:=hb;obtain⟨o,q1,s,y,q2,rfl⟩:=(ja.ajJ l os x h).2 i o' h1;have q3:=(ja.NS (ρ:=ρ) (S:=fun _=>False) (w:=w) hD s o y q2).1 h2;exact⟨i,o,r,q1,q3.1,h3,q3.2 _ _ _ h4⟩
theorem ja.BO{l:List (ja K)}{os:List (Ob K)}{x:ja.Ts l}(hD:dX D)(h:ja.zC D l os=some x)(hs:aP D ρ S w os):aP D ρ S w (ja.encs D l x):=by
 obtain⟨g1,g2⟩:=ja.ajJ l os x h;refine⟨by rw[g1];exact hs.len,fun i o' r h1 h2=>?_,fun i j o o' r r' b h1 h2 h3 h4 c1 c2 c3 c4=>?_,fun b hb=>hs.lt b (ja.ax5 hD h w ρ b hb),hs.slt,hs.base⟩
 ·obtain⟨o,q1,s,y,q2,rfl⟩:=g2 i o' h1;exact(ja.NS hD s o y q2).2 r (hs.ob i o r q1 h2)
 ·obtain⟨o1,q1,s,y,q2,rfl⟩:=g2 i o h1;obtain⟨o2,p1,s',y',p2,rfl⟩:=g2 j o' c1;have a1:=(ja.NS (ρ:=ρ) (S:=S) (w:=w) hD s o1 y q2).1 h2;have a2:=(ja.NS (ρ:=ρ) (S:=S) (w:=w) hD s' o2 y' p2).1 c2;exact hs.Ak i j o1 o2 r r' b q1 a1.1 h3 (a1.2 _ _ _ h4) p1 a2.1 c3 (a2.2 _ _ _ c4)
structure fP (K:Jc) where
 vs:List (Sh K)
 os:List (ja K)
def fP.T(c:fP K):Type:=Sh.Ts c.vs×ja.Ts c.os
def fP.dec(D:nz K)(c:fP K)(vs:List (AV K))(H:List (Ob K)):Option c.T:=
 match Sh.zC D c.vs vs,ja.zC D c.os H with
 |some a,some b=>some (a,b)
 |_,_=>none
def fP.akL(D:nz K)(c:fP K)(x:c.T):List (AV K):=Sh.encs D c.vs x.1
def fP.aaX(D:nz K)(c:fP K)(x:c.T):List (Ob K):=ja.encs D c.os x.2
theorem fP.ard(hD:dX D){c:fP K}{vs:List (AV K)}{x:c.T}(h:c.dec D vs H=some x):Wk D vs H (c.akL D x) (c.aaX D x):=by
 unfold fP.dec at h;split at h
 ·rename_i a b h1 h2;have h:=VG h;subst h;exact⟨(ja.ajJ c.os H b h2).1,fun ρ S w us hr=>Sh.BO hD c.vs vs a h1 us hr,fun ρ S w hs=>ja.BO hD h2 hs,fun w ρ b' hb=>ja.ax5 hD h2 w ρ b' hb⟩
 ·cases h
end Go.V
