/-
  SHAPES: of arguments, of what a loop knows, of what is yielded: how unknowns lie in abstract values and objects, how they are read off, and that reading off loses nothing that is true.
-/
import Derived.Test.YtghkckfhaljjjaaGreatDoorXWloop
set_option linter.unusedVariables false
namespace Go.V
open Go
variable {K :dh}{D:bH K}{ρ ρ':List Value}{S S':Nat->Prop}{w w':World}{H H':List (Ob K)}
inductive Sh (K:dh) where
 |any
 |int (k:IntKind)
 |bool
 |str
 |an (c:K.U)
 |el (c:K.U)
 |rp (c:K.U) (off:Nat)
 |dx
 |dn
 |ptr (h off:Nat)
 |own (h:Nat)
 |fn (g:Nat) (caps:List (Sh K))
 |agg (l:List (Sh K))
 |bC (l:List (Sh K))
 |np (h:Nat)
 |ep (h:Nat) (c:K.U) (off:Nat)
inductive aW (K:dh) where
 |dead
 |box (l:List (Sh K))
 |el (c:K.U)
 |arr (c:K.U)
 |gK (c:K.U)
 |tree (c:K.U)
mutual
def Sh.T:Sh K->Type
 |.int _=>Int
 |.bool=>Bool
 |.str=>List UInt8
 |.an c=>List (K.El c)
 |.el c=>K.El c
 |.rp c _=>K.El c
 |.ep _ _ _=>Nat
 |.fn _ l=>Sh.Ts l
 |.agg l=>Sh.Ts l
 |.bC l=>Sh.Ts l
 |_=>Unit
def Sh.Ts:List (Sh K)->Type
 |[]=>Unit
 |s::r=>Sh.T s×Sh.Ts r
end
def aW.T:aW K->Type
 |.dead=>Unit
 |.box l=>Sh.Ts l
 |.el c=>K.El c
 |.arr c=>List (K.El c)
 |.gK c=>List (K.El c)
 |.tree c=>List (K.El c)
def aW.Ts:List (aW K)->Type
 |[]=>Unit
 |s::r=>aW.T s×aW.Ts r
mutual
def Sh.enc(D:bH K):(s:Sh K)->s.T->AV K
 |.any,_=>.any
 |.int k,n=>.int k n
 |.bool,b=>.bool b
 |.str,s=>.str s
 |.an c,l=>.an c l
 |.el c,x=>.agg (D.cells c x)
 |.rp c o,x=>.rp c x o
 |.dx,_=>.dx
 |.dn,_=>.dn
 |.ptr h o,_=>.ptr h o
 |.own h,_=>.sl h
 |.np h,_=>.np h
 |.ep h c o,i=>.ep h (K.sz c) i o
 |.fn g l,x=>.fn g (Sh.encs D l x)
 |.agg l,x=>.agg (Sh.encs D l x)
 |.bC l,x=>.bC (Sh.encs D l x)
def Sh.encs(D:bH K):(l:List (Sh K))->Sh.Ts l->List (AV K)
 |[],_=>[]
 |s::r,x=>Sh.enc D s x.1::Sh.encs D r x.2
end
def aW.enc(D:bH K):(s:aW K)->s.T->Ob K
 |.dead,_=>.dead
 |.box l,x=>.box (Sh.encs D l x)
 |.el c,x=>.box (D.cells c x)
 |.arr c,x=>.arr c x
 |.gK c,x=>.gK c x
 |.tree c,x=>.tree c x
def aW.encs(D:bH K):(l:List (aW K))->aW.Ts l->List (Ob K)
 |[],_=>[]
 |s::r,x=>aW.enc D s x.1::aW.encs D r x.2
def AV.getInt(k:IntKind):AV K->Option Int
 |.int k' n=>if k=k' then some n else none
 |_=>none
def AV.getBool:AV K->Option Bool
 |.bool b=>some b
 |_=>none
def AV.KE:AV K->Option (List UInt8)
 |.str s=>some s
 |_=>none
def AV.Eg:AV K->Option (List (AV K))
 |.agg l=>some l
 |_=>none
def AV.KF:AV K->Option (List (AV K))
 |.bC l=>some l
 |_=>none
def AV.getFn(g:Nat):AV K->Option (List (AV K))
 |.fn g' l=>if g=g' then some l else none
 |_=>none
def AV.KG(c:K.U)(o:Nat):AV K->Option (K.El c)
 |.rp c' x o'=>if o=o' then match K.jS c' c with
   |.isTrue h=>some (h ▸ x)
   |.isFalse _=>none else none
 |_=>none
def AV.KH:AV K->Option Unit
 |.dx=>some ()
 |_=>none
def AV.KI:AV K->Option Unit
 |.dn=>some ()
 |_=>none
def AV.KJ(h o:Nat):AV K->Option Unit
 |.ptr h' o'=>if h=h' then if o=o' then some ()else none else none
 |_=>none
def AV.KL(h:Nat):AV K->Option Unit
 |.sl h'=>if h=h' then some ()else none
 |_=>none
def AV.KN(h:Nat):AV K->Option Unit
 |.np h'=>if h=h' then some ()else none
 |_=>none
def AV.KO(h:Nat)(c:K.U)(o:Nat):AV K->Option Nat
 |.ep h' st i o'=>if h=h' then if K.sz c=st then if o=o' then some i else none else none else none
 |_=>none
theorem AV.af7{h:Nat}{c:K.U}{o:Nat}{v:AV K}{n:Nat}(hh:v.KO h c o=some n):v=.ep h (K.sz c) n o:=by
 unfold AV.KO at hh;split at hh
 ·split at hh
  ·split at hh
   ·split at hh
    ·rename_i h1 h2 h3;subst h1;subst h2;subst h3;simp only[av]at hh;subst hh;rfl
    ·cases hh
   ·cases hh
  ·cases hh
 ·cases hh
theorem AV.IE{k:IntKind}{v:AV K}{n:Int}(h:v.getInt k=some n):v=.int k n:=by
 unfold AV.getInt at h;split at h
 ·split at h
  ·rename_i hk;subst hk;simp only[av]at h;subst h;rfl
  ·cases h
 ·cases h
theorem AV.IF{v:AV K}{n:Bool}(h:v.getBool=some n):v=.bool n:=by
 unfold AV.getBool at h;split at h
 ·simp only[av]at h;subst h;rfl
 ·cases h
theorem AV.IG{v:AV K}{n:List UInt8}(h:v.KE=some n):v=.str n:=by
 unfold AV.KE at h;split at h
 ·simp only[av]at h;subst h;rfl
 ·cases h
theorem AV.QQ{v:AV K}{n:List (AV K)}(h:v.Eg=some n):v=.agg n:=by
 unfold AV.Eg at h;split at h
 ·simp only[av]at h;subst h;rfl
 ·cases h
theorem AV.af8{v:AV K}{n:List (AV K)}(h:v.KF=some n):v=.bC n:=by
 unfold AV.KF at h;split at h
 ·simp only[av]at h;subst h;rfl
 ·cases h
theorem AV.af9{g:Nat}{v:AV K}{n:List (AV K)}(h:v.getFn g=some n):v=.fn g n:=by
 unfold AV.getFn at h;split at h
 ·split at h
  ·rename_i hk;subst hk;simp only[av]at h;subst h;rfl
  ·cases h
 ·cases h
theorem AV.aga{c:K.U}{o:Nat}{v:AV K}{n:K.El c}(h:v.KG c o=some n):v=.rp c n o:=by
 unfold AV.KG at h;split at h
 ·split at h
  ·rename_i hk;subst hk;split at h
   ·rename_i he _;subst he;simp only[av]at h;subst h;rfl
   ·cases h
  ·cases h
 ·cases h
theorem AV.agb{v:AV K}{n:Unit}(h:v.KH=some n):v=.dx:=by
 unfold AV.KH at h;split at h
 ·rfl
 ·cases h
theorem AV.agc{v:AV K}{n:Unit}(h:v.KI=some n):v=.dn:=by
 unfold AV.KI at h;split at h
 ·rfl
 ·cases h
theorem AV.agd{a o:Nat}{v:AV K}{n:Unit}(h:v.KJ a o=some n):v=.ptr a o:=by
 unfold AV.KJ at h;split at h
 ·split at h
  ·split at h
   ·rename_i h1 h2;subst h1;subst h2;rfl
   ·cases h
  ·cases h
 ·cases h
theorem AV.age{a:Nat}{v:AV K}{n:Unit}(h:v.KL a=some n):v=.sl a:=by
 unfold AV.KL at h;split at h
 ·split at h
  ·rename_i h1;subst h1;rfl
  ·cases h
 ·cases h
theorem AV.QR{a:Nat}{v:AV K}{n:Unit}(h:v.KN a=some n):v=.np a:=by
 unfold AV.KN at h;split at h
 ·split at h
  ·rename_i h1;subst h1;rfl
  ·cases h
 ·cases h
def sure{α:Type}:Option (α×Bool)->Option α
 |some (x,true)=>some x
 |_=>none
theorem QS{α:Type}{o:Option (α×Bool)}{x:α}(h:sure o=some x):o=some (x,true):=by
 unfold sure at h;split at h
 ·simp only[av]at h;subst h;rfl
 ·cases h
mutual
def Sh.dec(D:bH K):(s:Sh K)->AV K->Option s.T
 |.any,_=>some ()
 |.int k,v=>v.getInt k
 |.bool,v=>v.getBool
 |.str,v=>v.KE
 |.an c,v=>elems [] c v
 |.el c,v=>match v.Eg with
   |some l=>sure (D.dec c l)
   |none=>none
 |.rp c o,v=>v.KG c o
 |.dx,v=>v.KH
 |.dn,v=>v.KI
 |.ptr h o,v=>v.KJ h o
 |.own h,v=>v.KL h
 |.np h,v=>v.KN h
 |.ep h c o,v=>v.KO h c o
 |.fn g l,v=>match v.getFn g with
   |some l'=>Sh.d5 D l l'
   |none=>none
 |.agg l,v=>match v.Eg with
   |some l'=>Sh.d5 D l l'
   |none=>none
 |.bC l,v=>match v.KF with
   |some l'=>Sh.d5 D l l'
   |none=>none
def Sh.d5(D:bH K):(l:List (Sh K))->List (AV K)->Option (Sh.Ts l)
 |[],[]=>some ()
 |s::r,v::l=>match Sh.dec D s v,Sh.d5 D r l with
  |some x,some y=>some (x,y)
  |_,_=>none
 |_,_=>none
end
def Ob.wQ:Ob K->Option (List (AV K))
 |.box l=>some l
 |_=>none
def Ob.KP(c:K.U):Ob K->Option (List (K.El c))
 |.arr c' l=>match K.jS c' c with
   |.isTrue h=>some (h ▸ l)
   |.isFalse _=>none
 |_=>none
def Ob.KQ(c:K.U):Ob K->Option (List (K.El c))
 |.gK c' l=>match K.jS c' c with
   |.isTrue h=>some (h ▸ l)
   |.isFalse _=>none
 |_=>none
def Ob.KR(c:K.U):Ob K->Option (List (K.El c))
 |.tree c' l=>match K.jS c' c with
   |.isTrue h=>some (h ▸ l)
   |.isFalse _=>none
 |_=>none
theorem Ob.QT{v:Ob K}{n:List (AV K)}(h:v.wQ=some n):v=.box n:=by
 unfold Ob.wQ at h;split at h
 ·simp only[av]at h;subst h;rfl
 ·cases h
theorem Ob.agf{c:K.U}{v:Ob K}{n:List (K.El c)}(h:v.KP c=some n):v=.arr c n:=by
 unfold Ob.KP at h;split at h
 ·split at h
  ·rename_i he _;subst he;simp only[av]at h;subst h;rfl
  ·cases h
 ·cases h
theorem Ob.agh{c:K.U}{v:Ob K}{n:List (K.El c)}(h:v.KQ c=some n):v=.gK c n:=by
 unfold Ob.KQ at h;split at h
 ·split at h
  ·rename_i he _;subst he;simp only[av]at h;subst h;rfl
  ·cases h
 ·cases h
theorem Ob.agi{c:K.U}{v:Ob K}{n:List (K.El c)}(h:v.KR c=some n):v=.tree c n:=by
 unfold Ob.KR at h;split at h
 ·split at h
  ·rename_i he _;subst he;simp only[av]at h;subst h;rfl
  ·cases h
 ·cases h
def aW.dec(D:bH K):(s:aW K)->Ob K->Option s.T
 |.dead,_=>some ()
 |.box l,o=>match o.wQ with
   |some cs=>Sh.d5 D l cs
   |none=>none
 |.el c,o=>match o.wQ with
   |some cs=>sure (D.dec c cs)
   |none=>none
 |.arr c,o=>o.KP c
 |.gK c,o=>o.KQ c
 |.tree c,o=>o.KR c
def aW.d5(D:bH K):(l:List (aW K))->List (Ob K)->Option (aW.Ts l)
 |[],[]=>some ()
 |s::r,v::l=>match aW.dec D s v,aW.d5 D r l with
  |some x,some y=>some (x,y)
  |_,_=>none
 |_,_=>none
theorem agj(hD:bR D){c:K.U}{v:AV K}{l:List (K.El c)}(h:elems [] c v=some l){u:Value}(hr:Rep D ρ S w v u):Rep D ρ S w (.an c l) u:=by
 unfold elems at h;split at h
 ·simp only[av]at h;subst h;cases hr;exact .fc _ _
 ·split at h
  ·rename_i he _;subst he;simp only[av]at h;subst h;exact hr
  ·cases h
 ·simp at h
 ·cases h
mutual
theorem Sh.wR(hD:bR D):∀(s:Sh K)(v:AV K)(x:s.T),Sh.dec D s v=some x->∀u,Rep D ρ S w v u->Rep D ρ S w (Sh.enc D s x) u
 |.any,v,x,h,u,hr=>.any u
 |.int k,v,x,h,u,hr=>by rw[AV.IE h]at hr;exact hr
 |.bool,v,x,h,u,hr=>by rw[AV.IF h]at hr;exact hr
 |.str,v,x,h,u,hr=>by rw[AV.IG h]at hr;exact hr
 |.an c,v,x,h,u,hr=>agj hD h hr
 |.el c,v,x,h,u,hr=>by
   unfold Sh.dec at h;split at h
   ·rename_i l hl;rw[AV.QQ hl]at hr;cases hr with
    |agg hl hh=>
     have:=hD.dec c _ _ (QS h) ρ S w _ ⟨hl,hh⟩;exact .agg this.1 this.2
   ·cases h
 |.rp c o,v,x,h,u,hr=>by rw[AV.aga h]at hr;exact hr
 |.dx,v,x,h,u,hr=>by rw[AV.agb h]at hr;exact hr
 |.dn,v,x,h,u,hr=>by rw[AV.agc h]at hr;exact hr
 |.ptr a b,v,x,h,u,hr=>by rw[AV.agd h]at hr;exact hr
 |.own a,v,x,h,u,hr=>by rw[AV.age h]at hr;exact hr
 |.np a,v,x,h,u,hr=>by rw[AV.QR h]at hr;exact hr
 |.ep a c o,v,x,h,u,hr=>by rw[AV.af7 h]at hr;exact hr
 |.fn g l,v,x,h,u,hr=>by
   unfold Sh.dec at h;split at h
   ·rename_i l' hl;rw[AV.af9 hl]at hr;cases hr with
    |fn hl hh=>
     have:=Sh.rR hD l _ x h _ ⟨hl,hh⟩;exact .fn this.1 this.2
   ·cases h
 |.agg l,v,x,h,u,hr=>by
   unfold Sh.dec at h;split at h
   ·rename_i l' hl;rw[AV.QQ hl]at hr;cases hr with
    |agg hl hh=>
     have:=Sh.rR hD l _ x h _ ⟨hl,hh⟩;exact .agg this.1 this.2
   ·cases h
 |.bC l,v,x,h,u,hr=>by
   unfold Sh.dec at h;split at h
   ·rename_i l' hl;rw[AV.af8 hl]at hr;cases hr with
    |bC hl hh=>
     have:=Sh.rR hD l _ x h _ ⟨hl,hh⟩;exact .bC this.1 this.2
   ·cases h
theorem Sh.rR(hD:bR D):∀(l:List (Sh K))(vs:List (AV K))(x:Sh.Ts l),Sh.d5 D l vs=some x->∀us,bh D ρ S w vs us->bh D ρ S w (Sh.encs D l x) us
 |[],vs,x,h,us,hr=>by
   cases vs with
   |nil=>exact hr
   |cons v r=>unfold Sh.d5 at h;cases h
 |s::r,vs,x,h,us,hr=>by
  cases vs with
  |nil=>unfold Sh.d5 at h;cases h
  |cons v l=>
   unfold Sh.d5 at h;split at h
   ·rename_i a b h1 h2;have h:=fA h;subst h;obtain⟨u,t,rfl,g1,g2⟩:=hr.gp;exact .cons (Sh.wR hD s v a h1 u g1) (Sh.rR hD r l b h2 t g2)
   ·cases h
end
theorem agk{l:List (AV K)}(h:g9 l=true):ku l=false:=by
 cases l with
 |nil=>rfl
 |cons v r=>
  simp only[g9,cG]at h;cases v<;>first|rfl|(simp[AV.closed]at h)
theorem agl{l:List (Sh K)}{cs:List (AV K)}{x:Sh.Ts l}(h:Sh.d5 D l cs=some x)(hn:ku (Sh.encs D l x)=true):ku cs=true:=by
 cases l with
 |nil=>unfold Sh.encs at hn;cases hn
 |cons s r=>
  cases cs with
  |nil=>unfold Sh.d5 at h;cases h
  |cons v vs=>
   unfold Sh.d5 at h;split at h
   ·rename_i a b h1 h2;have h:=fA h;subst h;change ku (Sh.enc D s a::Sh.encs D r b)=true at hn;cases s
    all_goals first
     |exact absurd (show false=true from hn) (by simp)
     |(have h3:=AV.QR (v:=v) h1;rw[h3];rfl)
   ·cases h
theorem aW.wR(hD:bR D)(s:aW K)(o:Ob K)(x:s.T)(h:aW.dec D s o=some x):((aW.enc D s x).live=true->o.live=true/\∀w r b,cJ D w (aW.enc D s x) r b->cJ D w o r b)/\∀r,gJ D ρ S w o r->gJ D ρ S w (aW.enc D s x) r:=by
 cases s with
 |dead=>exact⟨fun h=>Bool.noConfusion h,fun _ _=>trivial⟩
 |box l=>
  change(match o.wQ with
   |some cs=>Sh.d5 D l cs
   |none=>none)=some x at h
  split at h
  ·rename_i cs hcs;rw[Ob.QT hcs];refine⟨fun _=>⟨rfl,fun _ _ _ h=>h⟩,fun r hh=>?_⟩;obtain⟨b,vs,T,e,h1,h2,h3⟩:=hh;exact⟨b,vs,T,e,h1,Sh.rR hD l _ x h _ h2,fun hn=>h3 (agl h hn)⟩
  ·cases h
 |el c=>
  change(match o.wQ with
   |some cs=>sure (D.dec c cs)
   |none=>none)=some x at h
  split at h
  ·rename_i cs hcs;rw[Ob.QT hcs];refine⟨fun _=>⟨rfl,fun _ _ _ h=>h⟩,fun r hh=>?_⟩;obtain⟨b,vs,T,e,h1,h2,h3⟩:=hh;exact⟨b,vs,T,e,h1,hD.dec c _ _ (QS h) ρ S w _ h2,fun hn=>by rw[agk (hD.closed c x)]at hn;cases hn⟩
  ·cases h
 |arr c=>rw[Ob.agf h];exact⟨fun h=>⟨h,fun _ _ _ h=>h⟩,fun _ h=>h⟩
 |gK c=>rw[Ob.agh h];exact⟨fun h=>⟨h,fun _ _ _ h=>h⟩,fun _ h=>h⟩
 |tree c=>rw[Ob.agi h];exact⟨fun h=>⟨h,fun _ _ _ h=>h⟩,fun _ h=>h⟩
theorem aW.Eh:∀(l:List (aW K))(os:List (Ob K))(x:aW.Ts l),aW.d5 D l os=some x->(aW.encs D l x).length=os.length/\∀(i:Nat) o',(aW.encs D l x)[i]?=some o'->∃o,os[i]?=some o/\∃(s:aW K)(y:s.T),aW.dec D s o=some y/\o'=aW.enc D s y
 |[],os,x,h=>by
   cases os with
   |nil=>exact⟨rfl,fun i o' h=>by simp[aW.encs]at h⟩
   |cons v r=>simp[aW.d5]at h
 |s::r,os,x,h=>by
  cases os with
  |nil=>simp[aW.d5]at h
  |cons v l=>
   simp only[aW.d5]at h;split at h
   ·rename_i a b h1 h2;have h:=fA h;subst h;obtain⟨g1,g2⟩:=aW.Eh r l b h2;refine⟨by simp only[aW.encs,ak];rw[g1],fun i o' hi=>?_⟩;cases i with
    |zero=>simp[aW.encs]at hi;exact⟨v,rfl,s,a,h1,hi.symm⟩
    |succ i=>simp[aW.encs]at hi;obtain⟨o,q⟩:=g2 i o' hi;exact⟨o,by simpa using q.1,q.2⟩
   ·cases h
structure Wk (D:bH K) (vs:List (AV K)) (H:List (Ob K)) (vs':List (AV K)) (H':List (Ob K)):Prop where
 len:H'.length=H.length
 J0:∀ρ S w us,bh D ρ S w vs us->bh D ρ S w vs' us
 heap:∀ρ S w,aS D ρ S w H->aS D ρ S w H'
 own:∀w ρ b,Own D w ρ H' b->Own D w ρ H b
theorem Wk.step{vs vs':List (AV K)}{n0:Nat}(h:Wk D vs H vs' H'):Step D n0 ρ S H w ρ S H' w:=
 ⟨rfl,rfl,rfl,fh _,fun _ _ _=>rfl,fun b hb=>.inl (h.own _ _ b hb),fun _ h=>h,fun _ h=>.inl h,fun _ _=>rfl⟩
theorem aW.QU{l:List (aW K)}{os:List (Ob K)}{x:aW.Ts l}(hD:bR D)(h:aW.d5 D l os=some x)(w:World)(ρ:List Value)(b:Nat)(hb:Own D w ρ (aW.encs D l x) b):Own D w ρ os b:=by
 obtain⟨i,o',r,h1,h2,h3,h4⟩:=hb;obtain⟨o,q1,s,y,q2,rfl⟩:=(aW.Eh l os x h).2 i o' h1;have q3:=(aW.wR (ρ:=ρ) (S:=fun _=>False) (w:=w) hD s o y q2).1 h2;exact⟨i,o,r,q1,q3.1,h3,q3.2 _ _ _ h4⟩
theorem aW.rR{l:List (aW K)}{os:List (Ob K)}{x:aW.Ts l}(hD:bR D)(h:aW.d5 D l os=some x)(hs:aS D ρ S w os):aS D ρ S w (aW.encs D l x):=by
 obtain⟨g1,g2⟩:=aW.Eh l os x h;refine⟨by rw[g1];exact hs.len,fun i o' r h1 h2=>?_,fun i j o o' r r' b h1 h2 h3 h4 c1 c2 c3 c4=>?_,fun b hb=>hs.lt b (aW.QU hD h w ρ b hb),hs.slt,hs.base⟩
 ·obtain⟨o,q1,s,y,q2,rfl⟩:=g2 i o' h1;exact(aW.wR hD s o y q2).2 r (hs.ob i o r q1 h2)
 ·obtain⟨o1,q1,s,y,q2,rfl⟩:=g2 i o h1;obtain⟨o2,p1,s',y',p2,rfl⟩:=g2 j o' c1;have a1:=(aW.wR (ρ:=ρ) (S:=S) (w:=w) hD s o1 y q2).1 h2;have a2:=(aW.wR (ρ:=ρ) (S:=S) (w:=w) hD s' o2 y' p2).1 c2;exact hs.eV i j o1 o2 r r' b q1 a1.1 h3 (a1.2 _ _ _ h4) p1 a2.1 c3 (a2.2 _ _ _ c4)
structure aK (K:dh) where
 vs:List (Sh K)
 os:List (aW K)
def aK.T(c:aK K):Type:=Sh.Ts c.vs×aW.Ts c.os
def aK.dec(D:bH K)(c:aK K)(vs:List (AV K))(H:List (Ob K)):Option c.T:=
 match Sh.d5 D c.vs vs,aW.d5 D c.os H with
 |some a,some b=>some (a,b)
 |_,_=>none
def aK.lX(D:bH K)(c:aK K)(x:c.T):List (AV K):=Sh.encs D c.vs x.1
def aK.mz(D:bH K)(c:aK K)(x:c.T):List (Ob K):=aW.encs D c.os x.2
theorem aK.zk(hD:bR D){c:aK K}{vs:List (AV K)}{x:c.T}(h:c.dec D vs H=some x):Wk D vs H (c.lX D x) (c.mz D x):=by
 unfold aK.dec at h;split at h
 ·rename_i a b h1 h2;have h:=fA h;subst h;exact⟨(aW.Eh c.os H b h2).1,fun ρ S w us hr=>Sh.rR hD c.vs vs a h1 us hr,fun ρ S w hs=>aW.rR hD h2 hs,fun w ρ b' hb=>aW.QU hD h2 w ρ b' hb⟩
 ·cases h
end Go.V
