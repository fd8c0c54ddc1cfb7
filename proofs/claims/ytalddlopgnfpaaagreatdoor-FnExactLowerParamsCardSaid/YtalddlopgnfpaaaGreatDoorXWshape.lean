/-
  SHAPES: of arguments, of what a loop knows, of what is yielded: how unknowns lie in abstract values and objects, how they are read off, and that reading off loses nothing that is true.
-/
import Derived.Test.YtalddlopgnfpaaaGreatDoorXWloop
set_option linter.unusedVariables false
namespace Go.V
open Go
variable {K :cE}{D:bc K}{ρ ρ':List Value}{S S':Nat->Prop}{w w':World}{H H':List (Ob K)}
inductive Sh (K:cE) where
 |any
 |int (k:IntKind)
 |bool
 |str
 |aj (c:K.U)
 |el (c:K.U)
 |rp (c:K.U) (off:Nat)
 |cL
 |cB
 |ptr (h off:Nat)
 |own (h:Nat)
 |fn (g:Nat) (caps:List (Sh K))
 |agg (l:List (Sh K))
 |aV (l:List (Sh K))
 |np (h:Nat)
 |ep (h:Nat) (c:K.U) (off:Nat)
inductive az (K:cE) where
 |dead
 |box (l:List (Sh K))
 |el (c:K.U)
 |arr (c:K.U)
 |fR (c:K.U)
 |tree (c:K.U)
mutual
def Sh.T:Sh K->Type
 |.int _=>Int
 |.bool=>Bool
 |.str=>List UInt8
 |.aj c=>List (K.El c)
 |.el c=>K.El c
 |.rp c _=>K.El c
 |.ep _ _ _=>Nat
 |.fn _ l=>Sh.Ts l
 |.agg l=>Sh.Ts l
 |.aV l=>Sh.Ts l
 |_=>Unit
def Sh.Ts:List (Sh K)->Type
 |[]=>Unit
 |s::r=>Sh.T s×Sh.Ts r
end
def az.T:az K->Type
 |.dead=>Unit
 |.box l=>Sh.Ts l
 |.el c=>K.El c
 |.arr c=>List (K.El c)
 |.fR c=>List (K.El c)
 |.tree c=>List (K.El c)
def az.Ts:List (az K)->Type
 |[]=>Unit
 |s::r=>az.T s×az.Ts r
mutual
def Sh.enc(D:bc K):(s:Sh K)->s.T->AV K
 |.any,_=>.any
 |.int k,n=>.int k n
 |.bool,b=>.bool b
 |.str,s=>.str s
 |.aj c,l=>.aj c l
 |.el c,x=>.agg (D.cells c x)
 |.rp c o,x=>.rp c x o
 |.cL,_=>.cL
 |.cB,_=>.cB
 |.ptr h o,_=>.ptr h o
 |.own h,_=>.sl h
 |.np h,_=>.np h
 |.ep h c o,i=>.ep h (K.sz c) i o
 |.fn g l,x=>.fn g (Sh.encs D l x)
 |.agg l,x=>.agg (Sh.encs D l x)
 |.aV l,x=>.aV (Sh.encs D l x)
def Sh.encs(D:bc K):(l:List (Sh K))->Sh.Ts l->List (AV K)
 |[],_=>[]
 |s::r,x=>Sh.enc D s x.1::Sh.encs D r x.2
end
def az.enc(D:bc K):(s:az K)->s.T->Ob K
 |.dead,_=>.dead
 |.box l,x=>.box (Sh.encs D l x)
 |.el c,x=>.box (D.cells c x)
 |.arr c,x=>.arr c x
 |.fR c,x=>.fR c x
 |.tree c,x=>.tree c x
def az.encs(D:bc K):(l:List (az K))->az.Ts l->List (Ob K)
 |[],_=>[]
 |s::r,x=>az.enc D s x.1::az.encs D r x.2
def AV.getInt(k:IntKind):AV K->Option Int
 |.int k' n=>if k=k' then some n else none
 |_=>none
def AV.getBool:AV K->Option Bool
 |.bool b=>some b
 |_=>none
def AV.NY:AV K->Option (List UInt8)
 |.str s=>some s
 |_=>none
def AV.GQ:AV K->Option (List (AV K))
 |.agg l=>some l
 |_=>none
def AV.NZ:AV K->Option (List (AV K))
 |.aV l=>some l
 |_=>none
def AV.getFn(g:Nat):AV K->Option (List (AV K))
 |.fn g' l=>if g=g' then some l else none
 |_=>none
def AV.N2(c:K.U)(o:Nat):AV K->Option (K.El c)
 |.rp c' x o'=>if o=o' then match K.ju c' c with
   |.isTrue h=>some (h ▸ x)
   |.isFalse _=>none else none
 |_=>none
def AV.N3:AV K->Option Unit
 |.cL=>some ()
 |_=>none
def AV.N4:AV K->Option Unit
 |.cB=>some ()
 |_=>none
def AV.N5(h o:Nat):AV K->Option Unit
 |.ptr h' o'=>if h=h' then if o=o' then some ()else none else none
 |_=>none
def AV.N6(h:Nat):AV K->Option Unit
 |.sl h'=>if h=h' then some ()else none
 |_=>none
def AV.N7(h:Nat):AV K->Option Unit
 |.np h'=>if h=h' then some ()else none
 |_=>none
def AV.N8(h:Nat)(c:K.U)(o:Nat):AV K->Option Nat
 |.ep h' st i o'=>if h=h' then if K.sz c=st then if o=o' then some i else none else none else none
 |_=>none
theorem AV.apq{h:Nat}{c:K.U}{o:Nat}{v:AV K}{n:Nat}(hh:v.N8 h c o=some n):v=.ep h (K.sz c) n o:=by
 unfold AV.N8 at hh;split at hh
 ·split at hh
  ·split at hh
   ·split at hh
    ·rename_i h1 h2 h3;subst h1;subst h2;subst h3;simp only[ar]at hh;subst hh;rfl
    ·cases hh
   ·cases hh
  ·cases hh
 ·cases hh
theorem AV.LM{k:IntKind}{v:AV K}{n:Int}(h:v.getInt k=some n):v=.int k n:=by
 unfold AV.getInt at h;split at h
 ·split at h
  ·rename_i hk;subst hk;simp only[ar]at h;subst h;rfl
  ·cases h
 ·cases h
theorem AV.LN{v:AV K}{n:Bool}(h:v.getBool=some n):v=.bool n:=by
 unfold AV.getBool at h;split at h
 ·simp only[ar]at h;subst h;rfl
 ·cases h
theorem AV.LP{v:AV K}{n:List UInt8}(h:v.NY=some n):v=.str n:=by
 unfold AV.NY at h;split at h
 ·simp only[ar]at h;subst h;rfl
 ·cases h
theorem AV.abL{v:AV K}{n:List (AV K)}(h:v.GQ=some n):v=.agg n:=by
 unfold AV.GQ at h;split at h
 ·simp only[ar]at h;subst h;rfl
 ·cases h
theorem AV.apr{v:AV K}{n:List (AV K)}(h:v.NZ=some n):v=.aV n:=by
 unfold AV.NZ at h;split at h
 ·simp only[ar]at h;subst h;rfl
 ·cases h
theorem AV.aps{g:Nat}{v:AV K}{n:List (AV K)}(h:v.getFn g=some n):v=.fn g n:=by
 unfold AV.getFn at h;split at h
 ·split at h
  ·rename_i hk;subst hk;simp only[ar]at h;subst h;rfl
  ·cases h
 ·cases h
theorem AV.apt{c:K.U}{o:Nat}{v:AV K}{n:K.El c}(h:v.N2 c o=some n):v=.rp c n o:=by
 unfold AV.N2 at h;split at h
 ·split at h
  ·rename_i hk;subst hk;split at h
   ·rename_i he _;subst he;simp only[ar]at h;subst h;rfl
   ·cases h
  ·cases h
 ·cases h
theorem AV.apu{v:AV K}{n:Unit}(h:v.N3=some n):v=.cL:=by
 unfold AV.N3 at h;split at h
 ·rfl
 ·cases h
theorem AV.apv{v:AV K}{n:Unit}(h:v.N4=some n):v=.cB:=by
 unfold AV.N4 at h;split at h
 ·rfl
 ·cases h
theorem AV.apw{a o:Nat}{v:AV K}{n:Unit}(h:v.N5 a o=some n):v=.ptr a o:=by
 unfold AV.N5 at h;split at h
 ·split at h
  ·split at h
   ·rename_i h1 h2;subst h1;subst h2;rfl
   ·cases h
  ·cases h
 ·cases h
theorem AV.apx{a:Nat}{v:AV K}{n:Unit}(h:v.N6 a=some n):v=.sl a:=by
 unfold AV.N6 at h;split at h
 ·split at h
  ·rename_i h1;subst h1;rfl
  ·cases h
 ·cases h
theorem AV.abM{a:Nat}{v:AV K}{n:Unit}(h:v.N7 a=some n):v=.np a:=by
 unfold AV.N7 at h;split at h
 ·split at h
  ·rename_i h1;subst h1;rfl
  ·cases h
 ·cases h
def sure{α:Type}:Option (α×Bool)->Option α
 |some (x,true)=>some x
 |_=>none
theorem abN{α:Type}{o:Option (α×Bool)}{x:α}(h:sure o=some x):o=some (x,true):=by
 unfold sure at h;split at h
 ·simp only[ar]at h;subst h;rfl
 ·cases h
mutual
def Sh.dec(D:bc K):(s:Sh K)->AV K->Option s.T
 |.any,_=>some ()
 |.int k,v=>v.getInt k
 |.bool,v=>v.getBool
 |.str,v=>v.NY
 |.aj c,v=>elems [] c v
 |.el c,v=>match v.GQ with
   |some l=>sure (D.dec c l)
   |none=>none
 |.rp c o,v=>v.N2 c o
 |.cL,v=>v.N3
 |.cB,v=>v.N4
 |.ptr h o,v=>v.N5 h o
 |.own h,v=>v.N6 h
 |.np h,v=>v.N7 h
 |.ep h c o,v=>v.N8 h c o
 |.fn g l,v=>match v.getFn g with
   |some l'=>Sh.dz D l l'
   |none=>none
 |.agg l,v=>match v.GQ with
   |some l'=>Sh.dz D l l'
   |none=>none
 |.aV l,v=>match v.NZ with
   |some l'=>Sh.dz D l l'
   |none=>none
def Sh.dz(D:bc K):(l:List (Sh K))->List (AV K)->Option (Sh.Ts l)
 |[],[]=>some ()
 |s::r,v::l=>match Sh.dec D s v,Sh.dz D r l with
  |some x,some y=>some (x,y)
  |_,_=>none
 |_,_=>none
end
def Ob.zw:Ob K->Option (List (AV K))
 |.box l=>some l
 |_=>none
def Ob.N9(c:K.U):Ob K->Option (List (K.El c))
 |.arr c' l=>match K.ju c' c with
   |.isTrue h=>some (h ▸ l)
   |.isFalse _=>none
 |_=>none
def Ob.Oa(c:K.U):Ob K->Option (List (K.El c))
 |.fR c' l=>match K.ju c' c with
   |.isTrue h=>some (h ▸ l)
   |.isFalse _=>none
 |_=>none
def Ob.Oc(c:K.U):Ob K->Option (List (K.El c))
 |.tree c' l=>match K.ju c' c with
   |.isTrue h=>some (h ▸ l)
   |.isFalse _=>none
 |_=>none
theorem Ob.abO{v:Ob K}{n:List (AV K)}(h:v.zw=some n):v=.box n:=by
 unfold Ob.zw at h;split at h
 ·simp only[ar]at h;subst h;rfl
 ·cases h
theorem Ob.apy{c:K.U}{v:Ob K}{n:List (K.El c)}(h:v.N9 c=some n):v=.arr c n:=by
 unfold Ob.N9 at h;split at h
 ·split at h
  ·rename_i he _;subst he;simp only[ar]at h;subst h;rfl
  ·cases h
 ·cases h
theorem Ob.apz{c:K.U}{v:Ob K}{n:List (K.El c)}(h:v.Oa c=some n):v=.fR c n:=by
 unfold Ob.Oa at h;split at h
 ·split at h
  ·rename_i he _;subst he;simp only[ar]at h;subst h;rfl
  ·cases h
 ·cases h
theorem Ob.apA{c:K.U}{v:Ob K}{n:List (K.El c)}(h:v.Oc c=some n):v=.tree c n:=by
 unfold Ob.Oc at h;split at h
 ·split at h
  ·rename_i he _;subst he;simp only[ar]at h;subst h;rfl
  ·cases h
 ·cases h
def az.dec(D:bc K):(s:az K)->Ob K->Option s.T
 |.dead,_=>some ()
 |.box l,o=>match o.zw with
   |some cs=>Sh.dz D l cs
   |none=>none
 |.el c,o=>match o.zw with
   |some cs=>sure (D.dec c cs)
   |none=>none
 |.arr c,o=>o.N9 c
 |.fR c,o=>o.Oa c
 |.tree c,o=>o.Oc c
def az.dz(D:bc K):(l:List (az K))->List (Ob K)->Option (az.Ts l)
 |[],[]=>some ()
 |s::r,v::l=>match az.dec D s v,az.dz D r l with
  |some x,some y=>some (x,y)
  |_,_=>none
 |_,_=>none
theorem apB(hD:bk D){c:K.U}{v:AV K}{l:List (K.El c)}(h:elems [] c v=some l){u:Value}(hr:Rep D ρ S w v u):Rep D ρ S w (.aj c l) u:=by
 unfold elems at h;split at h
 ·simp only[ar]at h;subst h;cases hr;exact .dU _ _
 ·split at h
  ·rename_i he _;subst he;simp only[ar]at h;subst h;exact hr
  ·cases h
 ·simp at h
 ·cases h
mutual
theorem Sh.zx(hD:bk D):∀(s:Sh K)(v:AV K)(x:s.T),Sh.dec D s v=some x->∀u,Rep D ρ S w v u->Rep D ρ S w (Sh.enc D s x) u
 |.any,v,x,h,u,hr=>.any u
 |.int k,v,x,h,u,hr=>by rw[AV.LM h]at hr;exact hr
 |.bool,v,x,h,u,hr=>by rw[AV.LN h]at hr;exact hr
 |.str,v,x,h,u,hr=>by rw[AV.LP h]at hr;exact hr
 |.aj c,v,x,h,u,hr=>apB hD h hr
 |.el c,v,x,h,u,hr=>by
   unfold Sh.dec at h;split at h
   ·rename_i l hl;rw[AV.abL hl]at hr;cases hr with
    |agg hl hh=>
     have:=hD.dec c _ _ (abN h) ρ S w _ ⟨hl,hh⟩;exact .agg this.1 this.2
   ·cases h
 |.rp c o,v,x,h,u,hr=>by rw[AV.apt h]at hr;exact hr
 |.cL,v,x,h,u,hr=>by rw[AV.apu h]at hr;exact hr
 |.cB,v,x,h,u,hr=>by rw[AV.apv h]at hr;exact hr
 |.ptr a b,v,x,h,u,hr=>by rw[AV.apw h]at hr;exact hr
 |.own a,v,x,h,u,hr=>by rw[AV.apx h]at hr;exact hr
 |.np a,v,x,h,u,hr=>by rw[AV.abM h]at hr;exact hr
 |.ep a c o,v,x,h,u,hr=>by rw[AV.apq h]at hr;exact hr
 |.fn g l,v,x,h,u,hr=>by
   unfold Sh.dec at h;split at h
   ·rename_i l' hl;rw[AV.aps hl]at hr;cases hr with
    |fn hl hh=>
     have:=Sh.tB hD l _ x h _ ⟨hl,hh⟩;exact .fn this.1 this.2
   ·cases h
 |.agg l,v,x,h,u,hr=>by
   unfold Sh.dec at h;split at h
   ·rename_i l' hl;rw[AV.abL hl]at hr;cases hr with
    |agg hl hh=>
     have:=Sh.tB hD l _ x h _ ⟨hl,hh⟩;exact .agg this.1 this.2
   ·cases h
 |.aV l,v,x,h,u,hr=>by
   unfold Sh.dec at h;split at h
   ·rename_i l' hl;rw[AV.apr hl]at hr;cases hr with
    |aV hl hh=>
     have:=Sh.tB hD l _ x h _ ⟨hl,hh⟩;exact .aV this.1 this.2
   ·cases h
theorem Sh.tB(hD:bk D):∀(l:List (Sh K))(vs:List (AV K))(x:Sh.Ts l),Sh.dz D l vs=some x->∀us,aS D ρ S w vs us->aS D ρ S w (Sh.encs D l x) us
 |[],vs,x,h,us,hr=>by
   cases vs with
   |nil=>exact hr
   |cons v r=>unfold Sh.dz at h;cases h
 |s::r,vs,x,h,us,hr=>by
  cases vs with
  |nil=>unfold Sh.dz at h;cases h
  |cons v l=>
   unfold Sh.dz at h;split at h
   ·rename_i a b h1 h2;have h:=ft h;subst h;obtain⟨u,t,rfl,g1,g2⟩:=hr.fX;exact .cons (Sh.zx hD s v a h1 u g1) (Sh.tB hD r l b h2 t g2)
   ·cases h
end
theorem apC{l:List (AV K)}(h:f0 l=true):kU l=false:=by
 cases l with
 |nil=>rfl
 |cons v r=>
  simp only[f0,aZ]at h;cases v<;>first|rfl|(simp[AV.closed]at h)
theorem apD{l:List (Sh K)}{cs:List (AV K)}{x:Sh.Ts l}(h:Sh.dz D l cs=some x)(hn:kU (Sh.encs D l x)=true):kU cs=true:=by
 cases l with
 |nil=>unfold Sh.encs at hn;cases hn
 |cons s r=>
  cases cs with
  |nil=>unfold Sh.dz at h;cases h
  |cons v vs=>
   unfold Sh.dz at h;split at h
   ·rename_i a b h1 h2;have h:=ft h;subst h;change kU (Sh.enc D s a::Sh.encs D r b)=true at hn;cases s
    all_goals first
     |exact absurd (show false=true from hn) (by simp)
     |(have h3:=AV.abM (v:=v) h1;rw[h3];rfl)
   ·cases h
theorem az.zx(hD:bk D)(s:az K)(o:Ob K)(x:s.T)(h:az.dec D s o=some x):((az.enc D s x).live=true->o.live=true/\∀w r b,bS D w (az.enc D s x) r b->bS D w o r b)/\∀r,fp D ρ S w o r->fp D ρ S w (az.enc D s x) r:=by
 cases s with
 |dead=>exact⟨fun h=>Bool.noConfusion h,fun _ _=>trivial⟩
 |box l=>
  change(match o.zw with
   |some cs=>Sh.dz D l cs
   |none=>none)=some x at h
  split at h
  ·rename_i cs hcs;rw[Ob.abO hcs];refine⟨fun _=>⟨rfl,fun _ _ _ h=>h⟩,fun r hh=>?_⟩;obtain⟨b,vs,T,e,h1,h2,h3⟩:=hh;exact⟨b,vs,T,e,h1,Sh.tB hD l _ x h _ h2,fun hn=>h3 (apD h hn)⟩
  ·cases h
 |el c=>
  change(match o.zw with
   |some cs=>sure (D.dec c cs)
   |none=>none)=some x at h
  split at h
  ·rename_i cs hcs;rw[Ob.abO hcs];refine⟨fun _=>⟨rfl,fun _ _ _ h=>h⟩,fun r hh=>?_⟩;obtain⟨b,vs,T,e,h1,h2,h3⟩:=hh;exact⟨b,vs,T,e,h1,hD.dec c _ _ (abN h) ρ S w _ h2,fun hn=>by rw[apC (hD.closed c x)]at hn;cases hn⟩
  ·cases h
 |arr c=>rw[Ob.apy h];exact⟨fun h=>⟨h,fun _ _ _ h=>h⟩,fun _ h=>h⟩
 |fR c=>rw[Ob.apz h];exact⟨fun h=>⟨h,fun _ _ _ h=>h⟩,fun _ h=>h⟩
 |tree c=>rw[Ob.apA h];exact⟨fun h=>⟨h,fun _ _ _ h=>h⟩,fun _ h=>h⟩
theorem az.GR:∀(l:List (az K))(os:List (Ob K))(x:az.Ts l),az.dz D l os=some x->(az.encs D l x).length=os.length/\∀(i:Nat) o',(az.encs D l x)[i]?=some o'->∃o,os[i]?=some o/\∃(s:az K)(y:s.T),az.dec D s o=some y/\o'=az.enc D s y
 |[],os,x,h=>by
   cases os with
   |nil=>exact⟨rfl,fun i o' h=>by simp[az.encs]at h⟩
   |cons v r=>simp[az.dz]at h
 |s::r,os,x,h=>by
  cases os with
  |nil=>simp[az.dz]at h
  |cons v l=>
   simp only[az.dz]at h;split at h
   ·rename_i a b h1 h2;have h:=ft h;subst h;obtain⟨g1,g2⟩:=az.GR r l b h2;refine⟨by simp only[az.encs,bX];rw[g1],fun i o' hi=>?_⟩;cases i with
    |zero=>simp[az.encs]at hi;exact⟨v,rfl,s,a,h1,hi.symm⟩
    |succ i=>simp[az.encs]at hi;obtain⟨o,q⟩:=g2 i o' hi;exact⟨o,by simpa using q.1,q.2⟩
   ·cases h
structure Wk (D:bc K) (vs:List (AV K)) (H:List (Ob K)) (vs':List (AV K)) (H':List (Ob K)):Prop where
 len:H'.length=H.length
 Nz:∀ρ S w us,aS D ρ S w vs us->aS D ρ S w vs' us
 heap:∀ρ S w,aN D ρ S w H->aN D ρ S w H'
 own:∀w ρ b,Own D w ρ H' b->Own D w ρ H b
theorem Wk.step{vs vs':List (AV K)}{n0:Nat}(h:Wk D vs H vs' H'):Step D n0 ρ S H w ρ S H' w:=
 ⟨rfl,rfl,rfl,bg _,fun _ _ _=>rfl,fun b hb=>.inl (h.own _ _ b hb),fun _ h=>h,fun _ h=>.inl h,fun _ _=>rfl⟩
theorem az.abP{l:List (az K)}{os:List (Ob K)}{x:az.Ts l}(hD:bk D)(h:az.dz D l os=some x)(w:World)(ρ:List Value)(b:Nat)(hb:Own D w ρ (az.encs D l x) b):Own D w ρ os b:=by
 obtain⟨i,o',r,h1,h2,h3,h4⟩:=hb;obtain⟨o,q1,s,y,q2,rfl⟩:=(az.GR l os x h).2 i o' h1;have q3:=(az.zx (ρ:=ρ) (S:=fun _=>False) (w:=w) hD s o y q2).1 h2;exact⟨i,o,r,q1,q3.1,h3,q3.2 _ _ _ h4⟩
theorem az.tB{l:List (az K)}{os:List (Ob K)}{x:az.Ts l}(hD:bk D)(h:az.dz D l os=some x)(hs:aN D ρ S w os):aN D ρ S w (az.encs D l x):=by
 obtain⟨g1,g2⟩:=az.GR l os x h;refine⟨by rw[g1];exact hs.len,fun i o' r h1 h2=>?_,fun i j o o' r r' b h1 h2 h3 h4 c1 c2 c3 c4=>?_,fun b hb=>hs.lt b (az.abP hD h w ρ b hb),hs.slt,hs.base⟩
 ·obtain⟨o,q1,s,y,q2,rfl⟩:=g2 i o' h1;exact(az.zx hD s o y q2).2 r (hs.ob i o r q1 h2)
 ·obtain⟨o1,q1,s,y,q2,rfl⟩:=g2 i o h1;obtain⟨o2,p1,s',y',p2,rfl⟩:=g2 j o' c1;have a1:=(az.zx (ρ:=ρ) (S:=S) (w:=w) hD s o1 y q2).1 h2;have a2:=(az.zx (ρ:=ρ) (S:=S) (w:=w) hD s' o2 y' p2).1 c2;exact hs.dL i j o1 o2 r r' b q1 a1.1 h3 (a1.2 _ _ _ h4) p1 a2.1 c3 (a2.2 _ _ _ c4)
structure aw (K:cE) where
 vs:List (Sh K)
 os:List (az K)
def aw.T(c:aw K):Type:=Sh.Ts c.vs×az.Ts c.os
def aw.dec(D:bc K)(c:aw K)(vs:List (AV K))(H:List (Ob K)):Option c.T:=
 match Sh.dz D c.vs vs,az.dz D c.os H with
 |some a,some b=>some (a,b)
 |_,_=>none
def aw.aW(D:bc K)(c:aw K)(x:c.T):List (AV K):=Sh.encs D c.vs x.1
def aw.aX(D:bc K)(c:aw K)(x:c.T):List (Ob K):=az.encs D c.os x.2
theorem aw.B0(hD:bk D){c:aw K}{vs:List (AV K)}{x:c.T}(h:c.dec D vs H=some x):Wk D vs H (c.aW D x) (c.aX D x):=by
 unfold aw.dec at h;split at h
 ·rename_i a b h1 h2;have h:=ft h;subst h;exact⟨(az.GR c.os H b h2).1,fun ρ S w us hr=>Sh.tB hD c.vs vs a h1 us hr,fun ρ S w hs=>az.tB hD h2 hs,fun w ρ b' hb=>az.abP hD h2 w ρ b' hb⟩
 ·cases h
end Go.V
