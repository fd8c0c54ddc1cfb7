/-
  SHAPES: of arguments, of what a loop knows, of what is yielded: how unknowns lie in abstract values and objects, how they are read off, and that reading off loses nothing that is true.
-/
import Derived.Test.YtbeijibjinbgcaaGreatDoorXWloop
set_option linter.unusedVariables false
namespace Go.V
open Go
variable {K :cA}{D:bj K}{ρ ρ':List Value}{S S':Nat->Prop}{w w':World}{H H':List (Ob K)}
inductive Sh (K:cA) where
 |any
 |int (k:IntKind)
 |bool
 |str
 |ah (c:K.U)
 |el (c:K.U)
 |rp (c:K.U) (off:Nat)
 |cG
 |cF
 |ptr (h off:Nat)
 |own (h:Nat)
 |fn (g:Nat) (caps:List (Sh K))
 |agg (l:List (Sh K))
 |bu (l:List (Sh K))
 |np (h:Nat)
 |ep (h:Nat) (c:K.U) (off:Nat)
inductive aB (K:cA) where
 |dead
 |box (l:List (Sh K))
 |el (c:K.U)
 |arr (c:K.U)
 |fg (c:K.U)
 |tree (c:K.U)
mutual
def Sh.T:Sh K->Type
 |.int _=>Int
 |.bool=>Bool
 |.str=>List UInt8
 |.ah c=>List (K.El c)
 |.el c=>K.El c
 |.rp c _=>K.El c
 |.ep _ _ _=>Nat
 |.fn _ l=>Sh.Ts l
 |.agg l=>Sh.Ts l
 |.bu l=>Sh.Ts l
 |_=>Unit
def Sh.Ts:List (Sh K)->Type
 |[]=>Unit
 |s::r=>Sh.T s×Sh.Ts r
end
def aB.T:aB K->Type
 |.dead=>Unit
 |.box l=>Sh.Ts l
 |.el c=>K.El c
 |.arr c=>List (K.El c)
 |.fg c=>List (K.El c)
 |.tree c=>List (K.El c)
def aB.Ts:List (aB K)->Type
 |[]=>Unit
 |s::r=>aB.T s×aB.Ts r
mutual
def Sh.enc(D:bj K):(s:Sh K)->s.T->AV K
 |.any,_=>.any
 |.int k,n=>.int k n
 |.bool,b=>.bool b
 |.str,s=>.str s
 |.ah c,l=>.ah c l
 |.el c,x=>.agg (D.cells c x)
 |.rp c o,x=>.rp c x o
 |.cG,_=>.cG
 |.cF,_=>.cF
 |.ptr h o,_=>.ptr h o
 |.own h,_=>.sl h
 |.np h,_=>.np h
 |.ep h c o,i=>.ep h (K.sz c) i o
 |.fn g l,x=>.fn g (Sh.encs D l x)
 |.agg l,x=>.agg (Sh.encs D l x)
 |.bu l,x=>.bu (Sh.encs D l x)
def Sh.encs(D:bj K):(l:List (Sh K))->Sh.Ts l->List (AV K)
 |[],_=>[]
 |s::r,x=>Sh.enc D s x.1::Sh.encs D r x.2
end
def aB.enc(D:bj K):(s:aB K)->s.T->Ob K
 |.dead,_=>.dead
 |.box l,x=>.box (Sh.encs D l x)
 |.el c,x=>.box (D.cells c x)
 |.arr c,x=>.arr c x
 |.fg c,x=>.fg c x
 |.tree c,x=>.tree c x
def aB.encs(D:bj K):(l:List (aB K))->aB.Ts l->List (Ob K)
 |[],_=>[]
 |s::r,x=>aB.enc D s x.1::aB.encs D r x.2
def AV.getInt(k:IntKind):AV K->Option Int
 |.int k' n=>if k=k' then some n else none
 |_=>none
def AV.getBool:AV K->Option Bool
 |.bool b=>some b
 |_=>none
def AV.JZ:AV K->Option (List UInt8)
 |.str s=>some s
 |_=>none
def AV.Dp:AV K->Option (List (AV K))
 |.agg l=>some l
 |_=>none
def AV.J0:AV K->Option (List (AV K))
 |.bu l=>some l
 |_=>none
def AV.getFn(g:Nat):AV K->Option (List (AV K))
 |.fn g' l=>if g=g' then some l else none
 |_=>none
def AV.J1(c:K.U)(o:Nat):AV K->Option (K.El c)
 |.rp c' x o'=>if o=o' then match K.ig c' c with
   |.isTrue h=>some (h ▸ x)
   |.isFalse _=>none else none
 |_=>none
def AV.J2:AV K->Option Unit
 |.cG=>some ()
 |_=>none
def AV.J3:AV K->Option Unit
 |.cF=>some ()
 |_=>none
def AV.J4(h o:Nat):AV K->Option Unit
 |.ptr h' o'=>if h=h' then if o=o' then some ()else none else none
 |_=>none
def AV.J5(h:Nat):AV K->Option Unit
 |.sl h'=>if h=h' then some ()else none
 |_=>none
def AV.J6(h:Nat):AV K->Option Unit
 |.np h'=>if h=h' then some ()else none
 |_=>none
def AV.J7(h:Nat)(c:K.U)(o:Nat):AV K->Option Nat
 |.ep h' st i o'=>if h=h' then if K.sz c=st then if o=o' then some i else none else none else none
 |_=>none
theorem AV.alu{h:Nat}{c:K.U}{o:Nat}{v:AV K}{n:Nat}(hh:v.J7 h c o=some n):v=.ep h (K.sz c) n o:=by
 unfold AV.J7 at hh;split at hh
 ·split at hh
  ·split at hh
   ·split at hh
    ·rename_i h1 h2 h3;subst h1;subst h2;subst h3;simp only[av]at hh;subst hh;rfl
    ·cases hh
   ·cases hh
  ·cases hh
 ·cases hh
theorem AV.Im{k:IntKind}{v:AV K}{n:Int}(h:v.getInt k=some n):v=.int k n:=by
 unfold AV.getInt at h;split at h
 ·split at h
  ·rename_i hk;subst hk;simp only[av]at h;subst h;rfl
  ·cases h
 ·cases h
theorem AV.Io{v:AV K}{n:Bool}(h:v.getBool=some n):v=.bool n:=by
 unfold AV.getBool at h;split at h
 ·simp only[av]at h;subst h;rfl
 ·cases h
theorem AV.Ip{v:AV K}{n:List UInt8}(h:v.JZ=some n):v=.str n:=by
 unfold AV.JZ at h;split at h
 ·simp only[av]at h;subst h;rfl
 ·cases h
theorem AV.XH{v:AV K}{n:List (AV K)}(h:v.Dp=some n):v=.agg n:=by
 unfold AV.Dp at h;split at h
 ·simp only[av]at h;subst h;rfl
 ·cases h
theorem AV.alv{v:AV K}{n:List (AV K)}(h:v.J0=some n):v=.bu n:=by
 unfold AV.J0 at h;split at h
 ·simp only[av]at h;subst h;rfl
 ·cases h
theorem AV.alx{g:Nat}{v:AV K}{n:List (AV K)}(h:v.getFn g=some n):v=.fn g n:=by
 unfold AV.getFn at h;split at h
 ·split at h
  ·rename_i hk;subst hk;simp only[av]at h;subst h;rfl
  ·cases h
 ·cases h
theorem AV.aly{c:K.U}{o:Nat}{v:AV K}{n:K.El c}(h:v.J1 c o=some n):v=.rp c n o:=by
 unfold AV.J1 at h;split at h
 ·split at h
  ·rename_i hk;subst hk;split at h
   ·rename_i he _;subst he;simp only[av]at h;subst h;rfl
   ·cases h
  ·cases h
 ·cases h
theorem AV.alz{v:AV K}{n:Unit}(h:v.J2=some n):v=.cG:=by
 unfold AV.J2 at h;split at h
 ·rfl
 ·cases h
theorem AV.alA{v:AV K}{n:Unit}(h:v.J3=some n):v=.cF:=by
 unfold AV.J3 at h;split at h
 ·rfl
 ·cases h
theorem AV.alB{a o:Nat}{v:AV K}{n:Unit}(h:v.J4 a o=some n):v=.ptr a o:=by
 unfold AV.J4 at h;split at h
 ·split at h
  ·split at h
   ·rename_i h1 h2;subst h1;subst h2;rfl
   ·cases h
  ·cases h
 ·cases h
theorem AV.alC{a:Nat}{v:AV K}{n:Unit}(h:v.J5 a=some n):v=.sl a:=by
 unfold AV.J5 at h;split at h
 ·split at h
  ·rename_i h1;subst h1;rfl
  ·cases h
 ·cases h
theorem AV.XI{a:Nat}{v:AV K}{n:Unit}(h:v.J6 a=some n):v=.np a:=by
 unfold AV.J6 at h;split at h
 ·split at h
  ·rename_i h1;subst h1;rfl
  ·cases h
 ·cases h
def sure{α:Type}:Option (α×Bool)->Option α
 |some (x,true)=>some x
 |_=>none
theorem XJ{α:Type}{o:Option (α×Bool)}{x:α}(h:sure o=some x):o=some (x,true):=by
 unfold sure at h;split at h
 ·simp only[av]at h;subst h;rfl
 ·cases h
mutual
def Sh.dec(D:bj K):(s:Sh K)->AV K->Option s.T
 |.any,_=>some ()
 |.int k,v=>v.getInt k
 |.bool,v=>v.getBool
 |.str,v=>v.JZ
 |.ah c,v=>elems [] c v
 |.el c,v=>match v.Dp with
   |some l=>sure (D.dec c l)
   |none=>none
 |.rp c o,v=>v.J1 c o
 |.cG,v=>v.J2
 |.cF,v=>v.J3
 |.ptr h o,v=>v.J4 h o
 |.own h,v=>v.J5 h
 |.np h,v=>v.J6 h
 |.ep h c o,v=>v.J7 h c o
 |.fn g l,v=>match v.getFn g with
   |some l'=>Sh.dk D l l'
   |none=>none
 |.agg l,v=>match v.Dp with
   |some l'=>Sh.dk D l l'
   |none=>none
 |.bu l,v=>match v.J0 with
   |some l'=>Sh.dk D l l'
   |none=>none
def Sh.dk(D:bj K):(l:List (Sh K))->List (AV K)->Option (Sh.Ts l)
 |[],[]=>some ()
 |s::r,v::l=>match Sh.dec D s v,Sh.dk D r l with
  |some x,some y=>some (x,y)
  |_,_=>none
 |_,_=>none
end
def Ob.wU:Ob K->Option (List (AV K))
 |.box l=>some l
 |_=>none
def Ob.J8(c:K.U):Ob K->Option (List (K.El c))
 |.arr c' l=>match K.ig c' c with
   |.isTrue h=>some (h ▸ l)
   |.isFalse _=>none
 |_=>none
def Ob.J9(c:K.U):Ob K->Option (List (K.El c))
 |.fg c' l=>match K.ig c' c with
   |.isTrue h=>some (h ▸ l)
   |.isFalse _=>none
 |_=>none
def Ob.Ko(c:K.U):Ob K->Option (List (K.El c))
 |.tree c' l=>match K.ig c' c with
   |.isTrue h=>some (h ▸ l)
   |.isFalse _=>none
 |_=>none
theorem Ob.XK{v:Ob K}{n:List (AV K)}(h:v.wU=some n):v=.box n:=by
 unfold Ob.wU at h;split at h
 ·simp only[av]at h;subst h;rfl
 ·cases h
theorem Ob.alD{c:K.U}{v:Ob K}{n:List (K.El c)}(h:v.J8 c=some n):v=.arr c n:=by
 unfold Ob.J8 at h;split at h
 ·split at h
  ·rename_i he _;subst he;simp only[av]at h;subst h;rfl
  ·cases h
 ·cases h
theorem Ob.alE{c:K.U}{v:Ob K}{n:List (K.El c)}(h:v.J9 c=some n):v=.fg c n:=by
 unfold Ob.J9 at h;split at h
 ·split at h
  ·rename_i he _;subst he;simp only[av]at h;subst h;rfl
  ·cases h
 ·cases h
theorem Ob.alF{c:K.U}{v:Ob K}{n:List (K.El c)}(h:v.Ko c=some n):v=.tree c n:=by
 unfold Ob.Ko at h;split at h
 ·split at h
  ·rename_i he _;subst he;simp only[av]at h;subst h;rfl
  ·cases h
 ·cases h
def aB.dec(D:bj K):(s:aB K)->Ob K->Option s.T
 |.dead,_=>some ()
 |.box l,o=>match o.wU with
   |some cs=>Sh.dk D l cs
   |none=>none
 |.el c,o=>match o.wU with
   |some cs=>sure (D.dec c cs)
   |none=>none
 |.arr c,o=>o.J8 c
 |.fg c,o=>o.J9 c
 |.tree c,o=>o.Ko c
def aB.dk(D:bj K):(l:List (aB K))->List (Ob K)->Option (aB.Ts l)
 |[],[]=>some ()
 |s::r,v::l=>match aB.dec D s v,aB.dk D r l with
  |some x,some y=>some (x,y)
  |_,_=>none
 |_,_=>none
theorem alG(hD:bo D){c:K.U}{v:AV K}{l:List (K.El c)}(h:elems [] c v=some l){u:Value}(hr:Rep D ρ S w v u):Rep D ρ S w (.ah c l) u:=by
 unfold elems at h;split at h
 ·simp only[av]at h;subst h;cases hr;exact .dK _ _
 ·split at h
  ·rename_i he _;subst he;simp only[av]at h;subst h;exact hr
  ·cases h
 ·simp at h
 ·cases h
mutual
theorem Sh.wV(hD:bo D):∀(s:Sh K)(v:AV K)(x:s.T),Sh.dec D s v=some x->∀u,Rep D ρ S w v u->Rep D ρ S w (Sh.enc D s x) u
 |.any,v,x,h,u,hr=>.any u
 |.int k,v,x,h,u,hr=>by rw[AV.Im h]at hr;exact hr
 |.bool,v,x,h,u,hr=>by rw[AV.Io h]at hr;exact hr
 |.str,v,x,h,u,hr=>by rw[AV.Ip h]at hr;exact hr
 |.ah c,v,x,h,u,hr=>alG hD h hr
 |.el c,v,x,h,u,hr=>by
   unfold Sh.dec at h;split at h
   ·rename_i l hl;rw[AV.XH hl]at hr;cases hr with
    |agg hl hh=>
     have:=hD.dec c _ _ (XJ h) ρ S w _ ⟨hl,hh⟩;exact .agg this.1 this.2
   ·cases h
 |.rp c o,v,x,h,u,hr=>by rw[AV.aly h]at hr;exact hr
 |.cG,v,x,h,u,hr=>by rw[AV.alz h]at hr;exact hr
 |.cF,v,x,h,u,hr=>by rw[AV.alA h]at hr;exact hr
 |.ptr a b,v,x,h,u,hr=>by rw[AV.alB h]at hr;exact hr
 |.own a,v,x,h,u,hr=>by rw[AV.alC h]at hr;exact hr
 |.np a,v,x,h,u,hr=>by rw[AV.XI h]at hr;exact hr
 |.ep a c o,v,x,h,u,hr=>by rw[AV.alu h]at hr;exact hr
 |.fn g l,v,x,h,u,hr=>by
   unfold Sh.dec at h;split at h
   ·rename_i l' hl;rw[AV.alx hl]at hr;cases hr with
    |fn hl hh=>
     have:=Sh.qh hD l _ x h _ ⟨hl,hh⟩;exact .fn this.1 this.2
   ·cases h
 |.agg l,v,x,h,u,hr=>by
   unfold Sh.dec at h;split at h
   ·rename_i l' hl;rw[AV.XH hl]at hr;cases hr with
    |agg hl hh=>
     have:=Sh.qh hD l _ x h _ ⟨hl,hh⟩;exact .agg this.1 this.2
   ·cases h
 |.bu l,v,x,h,u,hr=>by
   unfold Sh.dec at h;split at h
   ·rename_i l' hl;rw[AV.alv hl]at hr;cases hr with
    |bu hl hh=>
     have:=Sh.qh hD l _ x h _ ⟨hl,hh⟩;exact .bu this.1 this.2
   ·cases h
theorem Sh.qh(hD:bo D):∀(l:List (Sh K))(vs:List (AV K))(x:Sh.Ts l),Sh.dk D l vs=some x->∀us,aV D ρ S w vs us->aV D ρ S w (Sh.encs D l x) us
 |[],vs,x,h,us,hr=>by
   cases vs with
   |nil=>exact hr
   |cons v r=>unfold Sh.dk at h;cases h
 |s::r,vs,x,h,us,hr=>by
  cases vs with
  |nil=>unfold Sh.dk at h;cases h
  |cons v l=>
   unfold Sh.dk at h;split at h
   ·rename_i a b h1 h2;have h:=mm h;subst h;obtain⟨u,t,rfl,g1,g2⟩:=hr.gB;exact .cons (Sh.wV hD s v a h1 u g1) (Sh.qh hD r l b h2 t g2)
   ·cases h
end
theorem alH{l:List (AV K)}(h:fl l=true):jm l=false:=by
 cases l with
 |nil=>rfl
 |cons v r=>
  simp only[fl,bk]at h;cases v<;>first|rfl|(simp[AV.closed]at h)
theorem alI{l:List (Sh K)}{cs:List (AV K)}{x:Sh.Ts l}(h:Sh.dk D l cs=some x)(hn:jm (Sh.encs D l x)=true):jm cs=true:=by
 cases l with
 |nil=>unfold Sh.encs at hn;cases hn
 |cons s r=>
  cases cs with
  |nil=>unfold Sh.dk at h;cases h
  |cons v vs=>
   unfold Sh.dk at h;split at h
   ·rename_i a b h1 h2;have h:=mm h;subst h;change jm (Sh.enc D s a::Sh.encs D r b)=true at hn;cases s
    all_goals first
     |exact absurd (show false=true from hn) (by simp)
     |(have h3:=AV.XI (v:=v) h1;rw[h3];rfl)
   ·cases h
theorem aB.wV(hD:bo D)(s:aB K)(o:Ob K)(x:s.T)(h:aB.dec D s o=some x):((aB.enc D s x).live=true->o.live=true/\∀w r b,bS D w (aB.enc D s x) r b->bS D w o r b)/\∀r,eP D ρ S w o r->eP D ρ S w (aB.enc D s x) r:=by
 cases s with
 |dead=>exact⟨fun h=>Bool.noConfusion h,fun _ _=>trivial⟩
 |box l=>
  change(match o.wU with
   |some cs=>Sh.dk D l cs
   |none=>none)=some x at h
  split at h
  ·rename_i cs hcs;rw[Ob.XK hcs];refine⟨fun _=>⟨rfl,fun _ _ _ h=>h⟩,fun r hh=>?_⟩;obtain⟨b,vs,T,e,h1,h2,h3⟩:=hh;exact⟨b,vs,T,e,h1,Sh.qh hD l _ x h _ h2,fun hn=>h3 (alI h hn)⟩
  ·cases h
 |el c=>
  change(match o.wU with
   |some cs=>sure (D.dec c cs)
   |none=>none)=some x at h
  split at h
  ·rename_i cs hcs;rw[Ob.XK hcs];refine⟨fun _=>⟨rfl,fun _ _ _ h=>h⟩,fun r hh=>?_⟩;obtain⟨b,vs,T,e,h1,h2,h3⟩:=hh;exact⟨b,vs,T,e,h1,hD.dec c _ _ (XJ h) ρ S w _ h2,fun hn=>by rw[alH (hD.closed c x)]at hn;cases hn⟩
  ·cases h
 |arr c=>rw[Ob.alD h];exact⟨fun h=>⟨h,fun _ _ _ h=>h⟩,fun _ h=>h⟩
 |fg c=>rw[Ob.alE h];exact⟨fun h=>⟨h,fun _ _ _ h=>h⟩,fun _ h=>h⟩
 |tree c=>rw[Ob.alF h];exact⟨fun h=>⟨h,fun _ _ _ h=>h⟩,fun _ h=>h⟩
theorem aB.Dq:∀(l:List (aB K))(os:List (Ob K))(x:aB.Ts l),aB.dk D l os=some x->(aB.encs D l x).length=os.length/\∀(i:Nat) o',(aB.encs D l x)[i]?=some o'->∃o,os[i]?=some o/\∃(s:aB K)(y:s.T),aB.dec D s o=some y/\o'=aB.enc D s y
 |[],os,x,h=>by
   cases os with
   |nil=>exact⟨rfl,fun i o' h=>by simp[aB.encs]at h⟩
   |cons v r=>simp[aB.dk]at h
 |s::r,os,x,h=>by
  cases os with
  |nil=>simp[aB.dk]at h
  |cons v l=>
   simp only[aB.dk]at h;split at h
   ·rename_i a b h1 h2;have h:=mm h;subst h;obtain⟨g1,g2⟩:=aB.Dq r l b h2;refine⟨by simp only[aB.encs,cr];rw[g1],fun i o' hi=>?_⟩;cases i with
    |zero=>simp[aB.encs]at hi;exact⟨v,rfl,s,a,h1,hi.symm⟩
    |succ i=>simp[aB.encs]at hi;obtain⟨o,q⟩:=g2 i o' hi;exact⟨o,by simpa using q.1,q.2⟩
   ·cases h
structure Wk (D:bj K) (vs:List (AV K)) (H:List (Ob K)) (vs':List (AV K)) (H':List (Ob K)):Prop where
 len:H'.length=H.length
 JB:∀ρ S w us,aV D ρ S w vs us->aV D ρ S w vs' us
 heap:∀ρ S w,aS D ρ S w H->aS D ρ S w H'
 own:∀w ρ b,Own D w ρ H' b->Own D w ρ H b
theorem Wk.step{vs vs':List (AV K)}{n0:Nat}(h:Wk D vs H vs' H'):Step D n0 ρ S H w ρ S H' w:=
 ⟨rfl,rfl,rfl,cH _,fun _ _ _=>rfl,fun b hb=>.inl (h.own _ _ b hb),fun _ h=>h,fun _ h=>.inl h,fun _ _=>rfl⟩
theorem aB.XL{l:List (aB K)}{os:List (Ob K)}{x:aB.Ts l}(hD:bo D)(h:aB.dk D l os=some x)(w:World)(ρ:List Value)(b:Nat)(hb:Own D w ρ (aB.encs D l x) b):Own D w ρ os b:=by
 obtain⟨i,o',r,h1,h2,h3,h4⟩:=hb;obtain⟨o,q1,s,y,q2,rfl⟩:=(aB.Dq l os x h).2 i o' h1;have q3:=(aB.wV (ρ:=ρ) (S:=fun _=>False) (w:=w) hD s o y q2).1 h2;exact⟨i,o,r,q1,q3.1,h3,q3.2 _ _ _ h4⟩
theorem aB.qh{l:List (aB K)}{os:List (Ob K)}{x:aB.Ts l}(hD:bo D)(h:aB.dk D l os=some x)(hs:aS D ρ S w os):aS D ρ S w (aB.encs D l x):=by
 obtain⟨g1,g2⟩:=aB.Dq l os x h;refine⟨by rw[g1];exact hs.len,fun i o' r h1 h2=>?_,fun i j o o' r r' b h1 h2 h3 h4 c1 c2 c3 c4=>?_,fun b hb=>hs.lt b (aB.XL hD h w ρ b hb),hs.slt,hs.base⟩
 ·obtain⟨o,q1,s,y,q2,rfl⟩:=g2 i o' h1;exact(aB.wV hD s o y q2).2 r (hs.ob i o r q1 h2)
 ·obtain⟨o1,q1,s,y,q2,rfl⟩:=g2 i o h1;obtain⟨o2,p1,s',y',p2,rfl⟩:=g2 j o' c1;have a1:=(aB.wV (ρ:=ρ) (S:=S) (w:=w) hD s o1 y q2).1 h2;have a2:=(aB.wV (ρ:=ρ) (S:=S) (w:=w) hD s' o2 y' p2).1 c2;exact hs.dx i j o1 o2 r r' b q1 a1.1 h3 (a1.2 _ _ _ h4) p1 a2.1 c3 (a2.2 _ _ _ c4)
structure ax (K:cA) where
 vs:List (Sh K)
 os:List (aB K)
def ax.T(c:ax K):Type:=Sh.Ts c.vs×aB.Ts c.os
def ax.dec(D:bj K)(c:ax K)(vs:List (AV K))(H:List (Ob K)):Option c.T:=
 match Sh.dk D c.vs vs,aB.dk D c.os H with
 |some a,some b=>some (a,b)
 |_,_=>none
def ax.aU(D:bj K)(c:ax K)(x:c.T):List (AV K):=Sh.encs D c.vs x.1
def ax.aY(D:bj K)(c:ax K)(x:c.T):List (Ob K):=aB.encs D c.os x.2
theorem ax.zk(hD:bo D){c:ax K}{vs:List (AV K)}{x:c.T}(h:c.dec D vs H=some x):Wk D vs H (c.aU D x) (c.aY D x):=by
 unfold ax.dec at h;split at h
 ·rename_i a b h1 h2;have h:=mm h;subst h;exact⟨(aB.Dq c.os H b h2).1,fun ρ S w us hr=>Sh.qh hD c.vs vs a h1 us hr,fun ρ S w hs=>aB.qh hD h2 hs,fun w ρ b' hb=>aB.XL hD h2 w ρ b' hb⟩
 ·cases h
end Go.V
