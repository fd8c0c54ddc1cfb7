/-
  SHAPES: of arguments, of what a loop knows, of what is yielded: how unknowns lie in abstract values and objects, how they are read off, and that reading off loses nothing that is true.
-/
import Derived.Test.YtalddlopgnfpaaaGreatDoorXWloop
set_option linter.unusedVariables false
namespace Go.V
open Go
variable {K :cJ}{D:ba K}{ρ ρ':List Value}{S S':Nat->Prop}{w w':World}{H H':List (Ob K)}
inductive Sh (K:cJ) where
 |any
 |int (k:IntKind)
 |bool
 |str
 |an (c:K.U)
 |el (c:K.U)
 |rp (c:K.U) (off:Nat)
 |da
 |cD
 |ptr (h off:Nat)
 |own (h:Nat)
 |fn (g:Nat) (caps:List (Sh K))
 |agg (l:List (Sh K))
 |aX (l:List (Sh K))
 |np (h:Nat)
 |ep (h:Nat) (c:K.U) (off:Nat)
inductive aw (K:cJ) where
 |dead
 |box (l:List (Sh K))
 |el (c:K.U)
 |arr (c:K.U)
 |fJ (c:K.U)
 |tree (c:K.U)
mutual
def Sh.T:Sh K->Type
 |.int _=>Int
 |.bool=>Bool
 |.str=>List UInt8
 |.an c=>List (K.El c)
 |.el c=>K.El c
 |.rp c _=>K.El c
 |.ep _ _ _=>Nat
 |.fn _ l=>Sh.Ts l
 |.agg l=>Sh.Ts l
 |.aX l=>Sh.Ts l
 |_=>Unit
def Sh.Ts:List (Sh K)->Type
 |[]=>Unit
 |s::r=>Sh.T s×Sh.Ts r
end
def aw.T:aw K->Type
 |.dead=>Unit
 |.box l=>Sh.Ts l
 |.el c=>K.El c
 |.arr c=>List (K.El c)
 |.fJ c=>List (K.El c)
 |.tree c=>List (K.El c)
def aw.Ts:List (aw K)->Type
 |[]=>Unit
 |s::r=>aw.T s×aw.Ts r
mutual
def Sh.enc(D:ba K):(s:Sh K)->s.T->AV K
 |.any,_=>.any
 |.int k,n=>.int k n
 |.bool,b=>.bool b
 |.str,s=>.str s
 |.an c,l=>.an c l
 |.el c,x=>.agg (D.cells c x)
 |.rp c o,x=>.rp c x o
 |.da,_=>.da
 |.cD,_=>.cD
 |.ptr h o,_=>.ptr h o
 |.own h,_=>.sl h
 |.np h,_=>.np h
 |.ep h c o,i=>.ep h (K.sz c) i o
 |.fn g l,x=>.fn g (Sh.encs D l x)
 |.agg l,x=>.agg (Sh.encs D l x)
 |.aX l,x=>.aX (Sh.encs D l x)
def Sh.encs(D:ba K):(l:List (Sh K))->Sh.Ts l->List (AV K)
 |[],_=>[]
 |s::r,x=>Sh.enc D s x.1::Sh.encs D r x.2
end
def aw.enc(D:ba K):(s:aw K)->s.T->Ob K
 |.dead,_=>.dead
 |.box l,x=>.box (Sh.encs D l x)
 |.el c,x=>.box (D.cells c x)
 |.arr c,x=>.arr c x
 |.fJ c,x=>.fJ c x
 |.tree c,x=>.tree c x
def aw.encs(D:ba K):(l:List (aw K))->aw.Ts l->List (Ob K)
 |[],_=>[]
 |s::r,x=>aw.enc D s x.1::aw.encs D r x.2
def AV.getInt(k:IntKind):AV K->Option Int
 |.int k' n=>if k=k' then some n else none
 |_=>none
def AV.getBool:AV K->Option Bool
 |.bool b=>some b
 |_=>none
def AV.MM:AV K->Option (List UInt8)
 |.str s=>some s
 |_=>none
def AV.F7:AV K->Option (List (AV K))
 |.agg l=>some l
 |_=>none
def AV.MN:AV K->Option (List (AV K))
 |.aX l=>some l
 |_=>none
def AV.getFn(g:Nat):AV K->Option (List (AV K))
 |.fn g' l=>if g=g' then some l else none
 |_=>none
def AV.MO(c:K.U)(o:Nat):AV K->Option (K.El c)
 |.rp c' x o'=>if o=o' then match K.jq c' c with
   |.isTrue h=>some (h ▸ x)
   |.isFalse _=>none else none
 |_=>none
def AV.MP:AV K->Option Unit
 |.da=>some ()
 |_=>none
def AV.MQ:AV K->Option Unit
 |.cD=>some ()
 |_=>none
def AV.MR(h o:Nat):AV K->Option Unit
 |.ptr h' o'=>if h=h' then if o=o' then some ()else none else none
 |_=>none
def AV.MS(h:Nat):AV K->Option Unit
 |.sl h'=>if h=h' then some ()else none
 |_=>none
def AV.MU(h:Nat):AV K->Option Unit
 |.np h'=>if h=h' then some ()else none
 |_=>none
def AV.MV(h:Nat)(c:K.U)(o:Nat):AV K->Option Nat
 |.ep h' st i o'=>if h=h' then if K.sz c=st then if o=o' then some i else none else none else none
 |_=>none
theorem AV.am5{h:Nat}{c:K.U}{o:Nat}{v:AV K}{n:Nat}(hh:v.MV h c o=some n):v=.ep h (K.sz c) n o:=by
 unfold AV.MV at hh;split at hh
 ·split at hh
  ·split at hh
   ·split at hh
    ·rename_i h1 h2 h3;subst h1;subst h2;subst h3;simp only[ar]at hh;subst hh;rfl
    ·cases hh
   ·cases hh
  ·cases hh
 ·cases hh
theorem AV.KD{k:IntKind}{v:AV K}{n:Int}(h:v.getInt k=some n):v=.int k n:=by
 unfold AV.getInt at h;split at h
 ·split at h
  ·rename_i hk;subst hk;simp only[ar]at h;subst h;rfl
  ·cases h
 ·cases h
theorem AV.KE{v:AV K}{n:Bool}(h:v.getBool=some n):v=.bool n:=by
 unfold AV.getBool at h;split at h
 ·simp only[ar]at h;subst h;rfl
 ·cases h
theorem AV.KF{v:AV K}{n:List UInt8}(h:v.MM=some n):v=.str n:=by
 unfold AV.MM at h;split at h
 ·simp only[ar]at h;subst h;rfl
 ·cases h
theorem AV.Z5{v:AV K}{n:List (AV K)}(h:v.F7=some n):v=.agg n:=by
 unfold AV.F7 at h;split at h
 ·simp only[ar]at h;subst h;rfl
 ·cases h
theorem AV.am6{v:AV K}{n:List (AV K)}(h:v.MN=some n):v=.aX n:=by
 unfold AV.MN at h;split at h
 ·simp only[ar]at h;subst h;rfl
 ·cases h
theorem AV.am7{g:Nat}{v:AV K}{n:List (AV K)}(h:v.getFn g=some n):v=.fn g n:=by
 unfold AV.getFn at h;split at h
 ·split at h
  ·rename_i hk;subst hk;simp only[ar]at h;subst h;rfl
  ·cases h
 ·cases h
theorem AV.am8{c:K.U}{o:Nat}{v:AV K}{n:K.El c}(h:v.MO c o=some n):v=.rp c n o:=by
 unfold AV.MO at h;split at h
 ·split at h
  ·rename_i hk;subst hk;split at h
   ·rename_i he _;subst he;simp only[ar]at h;subst h;rfl
   ·cases h
  ·cases h
 ·cases h
theorem AV.am9{v:AV K}{n:Unit}(h:v.MP=some n):v=.da:=by
 unfold AV.MP at h;split at h
 ·rfl
 ·cases h
theorem AV.ana{v:AV K}{n:Unit}(h:v.MQ=some n):v=.cD:=by
 unfold AV.MQ at h;split at h
 ·rfl
 ·cases h
theorem AV.anb{a o:Nat}{v:AV K}{n:Unit}(h:v.MR a o=some n):v=.ptr a o:=by
 unfold AV.MR at h;split at h
 ·split at h
  ·split at h
   ·rename_i h1 h2;subst h1;subst h2;rfl
   ·cases h
  ·cases h
 ·cases h
theorem AV.anc{a:Nat}{v:AV K}{n:Unit}(h:v.MS a=some n):v=.sl a:=by
 unfold AV.MS at h;split at h
 ·split at h
  ·rename_i h1;subst h1;rfl
  ·cases h
 ·cases h
theorem AV.Z6{a:Nat}{v:AV K}{n:Unit}(h:v.MU a=some n):v=.np a:=by
 unfold AV.MU at h;split at h
 ·split at h
  ·rename_i h1;subst h1;rfl
  ·cases h
 ·cases h
def sure{α:Type}:Option (α×Bool)->Option α
 |some (x,true)=>some x
 |_=>none
theorem Z7{α:Type}{o:Option (α×Bool)}{x:α}(h:sure o=some x):o=some (x,true):=by
 unfold sure at h;split at h
 ·simp only[ar]at h;subst h;rfl
 ·cases h
mutual
def Sh.dec(D:ba K):(s:Sh K)->AV K->Option s.T
 |.any,_=>some ()
 |.int k,v=>v.getInt k
 |.bool,v=>v.getBool
 |.str,v=>v.MM
 |.an c,v=>elems [] c v
 |.el c,v=>match v.F7 with
   |some l=>sure (D.dec c l)
   |none=>none
 |.rp c o,v=>v.MO c o
 |.da,v=>v.MP
 |.cD,v=>v.MQ
 |.ptr h o,v=>v.MR h o
 |.own h,v=>v.MS h
 |.np h,v=>v.MU h
 |.ep h c o,v=>v.MV h c o
 |.fn g l,v=>match v.getFn g with
   |some l'=>Sh.dy D l l'
   |none=>none
 |.agg l,v=>match v.F7 with
   |some l'=>Sh.dy D l l'
   |none=>none
 |.aX l,v=>match v.MN with
   |some l'=>Sh.dy D l l'
   |none=>none
def Sh.dy(D:ba K):(l:List (Sh K))->List (AV K)->Option (Sh.Ts l)
 |[],[]=>some ()
 |s::r,v::l=>match Sh.dec D s v,Sh.dy D r l with
  |some x,some y=>some (x,y)
  |_,_=>none
 |_,_=>none
end
def Ob.yR:Ob K->Option (List (AV K))
 |.box l=>some l
 |_=>none
def Ob.MW(c:K.U):Ob K->Option (List (K.El c))
 |.arr c' l=>match K.jq c' c with
   |.isTrue h=>some (h ▸ l)
   |.isFalse _=>none
 |_=>none
def Ob.MX(c:K.U):Ob K->Option (List (K.El c))
 |.fJ c' l=>match K.jq c' c with
   |.isTrue h=>some (h ▸ l)
   |.isFalse _=>none
 |_=>none
def Ob.MY(c:K.U):Ob K->Option (List (K.El c))
 |.tree c' l=>match K.jq c' c with
   |.isTrue h=>some (h ▸ l)
   |.isFalse _=>none
 |_=>none
theorem Ob.Z8{v:Ob K}{n:List (AV K)}(h:v.yR=some n):v=.box n:=by
 unfold Ob.yR at h;split at h
 ·simp only[ar]at h;subst h;rfl
 ·cases h
theorem Ob.ane{c:K.U}{v:Ob K}{n:List (K.El c)}(h:v.MW c=some n):v=.arr c n:=by
 unfold Ob.MW at h;split at h
 ·split at h
  ·rename_i he _;subst he;simp only[ar]at h;subst h;rfl
  ·cases h
 ·cases h
theorem Ob.anf{c:K.U}{v:Ob K}{n:List (K.El c)}(h:v.MX c=some n):v=.fJ c n:=by
 unfold Ob.MX at h;split at h
 ·split at h
  ·rename_i he _;subst he;simp only[ar]at h;subst h;rfl
  ·cases h
 ·cases h
theorem Ob.ang{c:K.U}{v:Ob K}{n:List (K.El c)}(h:v.MY c=some n):v=.tree c n:=by
 unfold Ob.MY at h;split at h
 ·split at h
  ·rename_i he _;subst he;simp only[ar]at h;subst h;rfl
  ·cases h
 ·cases h
def aw.dec(D:ba K):(s:aw K)->Ob K->Option s.T
 |.dead,_=>some ()
 |.box l,o=>match o.yR with
   |some cs=>Sh.dy D l cs
   |none=>none
 |.el c,o=>match o.yR with
   |some cs=>sure (D.dec c cs)
   |none=>none
 |.arr c,o=>o.MW c
 |.fJ c,o=>o.MX c
 |.tree c,o=>o.MY c
def aw.dy(D:ba K):(l:List (aw K))->List (Ob K)->Option (aw.Ts l)
 |[],[]=>some ()
 |s::r,v::l=>match aw.dec D s v,aw.dy D r l with
  |some x,some y=>some (x,y)
  |_,_=>none
 |_,_=>none
theorem anh(hD:bn D){c:K.U}{v:AV K}{l:List (K.El c)}(h:elems [] c v=some l){u:Value}(hr:Rep D ρ S w v u):Rep D ρ S w (.an c l) u:=by
 unfold elems at h;split at h
 ·simp only[ar]at h;subst h;cases hr;exact .dS _ _
 ·split at h
  ·rename_i he _;subst he;simp only[ar]at h;subst h;exact hr
  ·cases h
 ·simp at h
 ·cases h
mutual
theorem Sh.yS(hD:bn D):∀(s:Sh K)(v:AV K)(x:s.T),Sh.dec D s v=some x->∀u,Rep D ρ S w v u->Rep D ρ S w (Sh.enc D s x) u
 |.any,v,x,h,u,hr=>.any u
 |.int k,v,x,h,u,hr=>by rw[AV.KD h]at hr;exact hr
 |.bool,v,x,h,u,hr=>by rw[AV.KE h]at hr;exact hr
 |.str,v,x,h,u,hr=>by rw[AV.KF h]at hr;exact hr
 |.an c,v,x,h,u,hr=>anh hD h hr
 |.el c,v,x,h,u,hr=>by
   unfold Sh.dec at h;split at h
   ·rename_i l hl;rw[AV.Z5 hl]at hr;cases hr with
    |agg hl hh=>
     have:=hD.dec c _ _ (Z7 h) ρ S w _ ⟨hl,hh⟩;exact .agg this.1 this.2
   ·cases h
 |.rp c o,v,x,h,u,hr=>by rw[AV.am8 h]at hr;exact hr
 |.da,v,x,h,u,hr=>by rw[AV.am9 h]at hr;exact hr
 |.cD,v,x,h,u,hr=>by rw[AV.ana h]at hr;exact hr
 |.ptr a b,v,x,h,u,hr=>by rw[AV.anb h]at hr;exact hr
 |.own a,v,x,h,u,hr=>by rw[AV.anc h]at hr;exact hr
 |.np a,v,x,h,u,hr=>by rw[AV.Z6 h]at hr;exact hr
 |.ep a c o,v,x,h,u,hr=>by rw[AV.am5 h]at hr;exact hr
 |.fn g l,v,x,h,u,hr=>by
   unfold Sh.dec at h;split at h
   ·rename_i l' hl;rw[AV.am7 hl]at hr;cases hr with
    |fn hl hh=>
     have:=Sh.sX hD l _ x h _ ⟨hl,hh⟩;exact .fn this.1 this.2
   ·cases h
 |.agg l,v,x,h,u,hr=>by
   unfold Sh.dec at h;split at h
   ·rename_i l' hl;rw[AV.Z5 hl]at hr;cases hr with
    |agg hl hh=>
     have:=Sh.sX hD l _ x h _ ⟨hl,hh⟩;exact .agg this.1 this.2
   ·cases h
 |.aX l,v,x,h,u,hr=>by
   unfold Sh.dec at h;split at h
   ·rename_i l' hl;rw[AV.am6 hl]at hr;cases hr with
    |aX hl hh=>
     have:=Sh.sX hD l _ x h _ ⟨hl,hh⟩;exact .aX this.1 this.2
   ·cases h
theorem Sh.sX(hD:bn D):∀(l:List (Sh K))(vs:List (AV K))(x:Sh.Ts l),Sh.dy D l vs=some x->∀us,aQ D ρ S w vs us->aQ D ρ S w (Sh.encs D l x) us
 |[],vs,x,h,us,hr=>by
   cases vs with
   |nil=>exact hr
   |cons v r=>unfold Sh.dy at h;cases h
 |s::r,vs,x,h,us,hr=>by
  cases vs with
  |nil=>unfold Sh.dy at h;cases h
  |cons v l=>
   unfold Sh.dy at h;split at h
   ·rename_i a b h1 h2;have h:=fe h;subst h;obtain⟨u,t,rfl,g1,g2⟩:=hr.fP;exact .cons (Sh.yS hD s v a h1 u g1) (Sh.sX hD r l b h2 t g2)
   ·cases h
end
theorem ani{l:List (AV K)}(h:fS l=true):kQ l=false:=by
 cases l with
 |nil=>rfl
 |cons v r=>
  simp only[fS,aW]at h;cases v<;>first|rfl|(simp[AV.closed]at h)
theorem anj{l:List (Sh K)}{cs:List (AV K)}{x:Sh.Ts l}(h:Sh.dy D l cs=some x)(hn:kQ (Sh.encs D l x)=true):kQ cs=true:=by
 cases l with
 |nil=>unfold Sh.encs at hn;cases hn
 |cons s r=>
  cases cs with
  |nil=>unfold Sh.dy at h;cases h
  |cons v vs=>
   unfold Sh.dy at h;split at h
   ·rename_i a b h1 h2;have h:=fe h;subst h;change kQ (Sh.enc D s a::Sh.encs D r b)=true at hn;cases s
    all_goals first
     |exact absurd (show false=true from hn) (by simp)
     |(have h3:=AV.Z6 (v:=v) h1;rw[h3];rfl)
   ·cases h
theorem aw.yS(hD:bn D)(s:aw K)(o:Ob K)(x:s.T)(h:aw.dec D s o=some x):((aw.enc D s x).live=true->o.live=true/\∀w r b,bG D w (aw.enc D s x) r b->bG D w o r b)/\∀r,fc D ρ S w o r->fc D ρ S w (aw.enc D s x) r:=by
 cases s with
 |dead=>exact⟨fun h=>Bool.noConfusion h,fun _ _=>trivial⟩
 |box l=>
  change(match o.yR with
   |some cs=>Sh.dy D l cs
   |none=>none)=some x at h
  split at h
  ·rename_i cs hcs;rw[Ob.Z8 hcs];refine⟨fun _=>⟨rfl,fun _ _ _ h=>h⟩,fun r hh=>?_⟩;obtain⟨b,vs,T,e,h1,h2,h3⟩:=hh;exact⟨b,vs,T,e,h1,Sh.sX hD l _ x h _ h2,fun hn=>h3 (anj h hn)⟩
  ·cases h
 |el c=>
  change(match o.yR with
   |some cs=>sure (D.dec c cs)
   |none=>none)=some x at h
  split at h
  ·rename_i cs hcs;rw[Ob.Z8 hcs];refine⟨fun _=>⟨rfl,fun _ _ _ h=>h⟩,fun r hh=>?_⟩;obtain⟨b,vs,T,e,h1,h2,h3⟩:=hh;exact⟨b,vs,T,e,h1,hD.dec c _ _ (Z7 h) ρ S w _ h2,fun hn=>by rw[ani (hD.closed c x)]at hn;cases hn⟩
  ·cases h
 |arr c=>rw[Ob.ane h];exact⟨fun h=>⟨h,fun _ _ _ h=>h⟩,fun _ h=>h⟩
 |fJ c=>rw[Ob.anf h];exact⟨fun h=>⟨h,fun _ _ _ h=>h⟩,fun _ h=>h⟩
 |tree c=>rw[Ob.ang h];exact⟨fun h=>⟨h,fun _ _ _ h=>h⟩,fun _ h=>h⟩
theorem aw.F8:∀(l:List (aw K))(os:List (Ob K))(x:aw.Ts l),aw.dy D l os=some x->(aw.encs D l x).length=os.length/\∀(i:Nat) o',(aw.encs D l x)[i]?=some o'->∃o,os[i]?=some o/\∃(s:aw K)(y:s.T),aw.dec D s o=some y/\o'=aw.enc D s y
 |[],os,x,h=>by
   cases os with
   |nil=>exact⟨rfl,fun i o' h=>by simp[aw.encs]at h⟩
   |cons v r=>simp[aw.dy]at h
 |s::r,os,x,h=>by
  cases os with
  |nil=>simp[aw.dy]at h
  |cons v l=>
   simp only[aw.dy]at h;split at h
   ·rename_i a b h1 h2;have h:=fe h;subst h;obtain⟨g1,g2⟩:=aw.F8 r l b h2;refine⟨by simp only[aw.encs,bQ];rw[g1],fun i o' hi=>?_⟩;cases i with
    |zero=>simp[aw.encs]at hi;exact⟨v,rfl,s,a,h1,hi.symm⟩
    |succ i=>simp[aw.encs]at hi;obtain⟨o,q⟩:=g2 i o' hi;exact⟨o,by simpa using q.1,q.2⟩
   ·cases h
structure Wk (D:ba K) (vs:List (AV K)) (H:List (Ob K)) (vs':List (AV K)) (H':List (Ob K)):Prop where
 len:H'.length=H.length
 LZ:∀ρ S w us,aQ D ρ S w vs us->aQ D ρ S w vs' us
 heap:∀ρ S w,aH D ρ S w H->aH D ρ S w H'
 own:∀w ρ b,Own D w ρ H' b->Own D w ρ H b
theorem Wk.step{vs vs':List (AV K)}{n0:Nat}(h:Wk D vs H vs' H'):Step D n0 ρ S H w ρ S H' w:=
 ⟨rfl,rfl,rfl,bj _,fun _ _ _=>rfl,fun b hb=>.inl (h.own _ _ b hb),fun _ h=>h,fun _ h=>.inl h,fun _ _=>rfl⟩
theorem aw.Z9{l:List (aw K)}{os:List (Ob K)}{x:aw.Ts l}(hD:bn D)(h:aw.dy D l os=some x)(w:World)(ρ:List Value)(b:Nat)(hb:Own D w ρ (aw.encs D l x) b):Own D w ρ os b:=by
 obtain⟨i,o',r,h1,h2,h3,h4⟩:=hb;obtain⟨o,q1,s,y,q2,rfl⟩:=(aw.F8 l os x h).2 i o' h1;have q3:=(aw.yS (ρ:=ρ) (S:=fun _=>False) (w:=w) hD s o y q2).1 h2;exact⟨i,o,r,q1,q3.1,h3,q3.2 _ _ _ h4⟩
theorem aw.sX{l:List (aw K)}{os:List (Ob K)}{x:aw.Ts l}(hD:bn D)(h:aw.dy D l os=some x)(hs:aH D ρ S w os):aH D ρ S w (aw.encs D l x):=by
 obtain⟨g1,g2⟩:=aw.F8 l os x h;refine⟨by rw[g1];exact hs.len,fun i o' r h1 h2=>?_,fun i j o o' r r' b h1 h2 h3 h4 c1 c2 c3 c4=>?_,fun b hb=>hs.lt b (aw.Z9 hD h w ρ b hb),hs.slt,hs.base⟩
 ·obtain⟨o,q1,s,y,q2,rfl⟩:=g2 i o' h1;exact(aw.yS hD s o y q2).2 r (hs.ob i o r q1 h2)
 ·obtain⟨o1,q1,s,y,q2,rfl⟩:=g2 i o h1;obtain⟨o2,p1,s',y',p2,rfl⟩:=g2 j o' c1;have a1:=(aw.yS (ρ:=ρ) (S:=S) (w:=w) hD s o1 y q2).1 h2;have a2:=(aw.yS (ρ:=ρ) (S:=S) (w:=w) hD s' o2 y' p2).1 c2;exact hs.dH i j o1 o2 r r' b q1 a1.1 h3 (a1.2 _ _ _ h4) p1 a2.1 c3 (a2.2 _ _ _ c4)
structure az (K:cJ) where
 vs:List (Sh K)
 os:List (aw K)
def az.T(c:az K):Type:=Sh.Ts c.vs×aw.Ts c.os
def az.dec(D:ba K)(c:az K)(vs:List (AV K))(H:List (Ob K)):Option c.T:=
 match Sh.dy D c.vs vs,aw.dy D c.os H with
 |some a,some b=>some (a,b)
 |_,_=>none
def az.bc(D:ba K)(c:az K)(x:c.T):List (AV K):=Sh.encs D c.vs x.1
def az.bf(D:ba K)(c:az K)(x:c.T):List (Ob K):=aw.encs D c.os x.2
theorem az.Bh(hD:bn D){c:az K}{vs:List (AV K)}{x:c.T}(h:c.dec D vs H=some x):Wk D vs H (c.bc D x) (c.bf D x):=by
 unfold az.dec at h;split at h
 ·rename_i a b h1 h2;have h:=fe h;subst h;exact⟨(aw.F8 c.os H b h2).1,fun ρ S w us hr=>Sh.sX hD c.vs vs a h1 us hr,fun ρ S w hs=>aw.sX hD h2 hs,fun w ρ b' hb=>aw.Z9 hD h2 w ρ b' hb⟩
 ·cases h
end Go.V
