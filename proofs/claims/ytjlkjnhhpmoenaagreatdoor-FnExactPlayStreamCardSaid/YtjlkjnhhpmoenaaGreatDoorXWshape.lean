/-
  SHAPES: of arguments, of what a loop knows, of what is yielded: how unknowns lie in abstract values and objects, how they are read off, and that reading off loses nothing that is true.
-/
import Derived.Test.YtjlkjnhhpmoenaaGreatDoorXWloop
set_option linter.unusedVariables false
namespace Go.V
open Go
variable {K :Aj} {D:jI K} {ρ ρ':List Value} {S S':Nat->Prop} {w w':World} {H H':List (Ob K)}
inductive Sh (K:Aj) where
 |any
 |int (k:IntKind)
 |bool
 |str
 |bV (c:K.U)
 |el (c:K.U)
 |rp (c:K.U) (off:Nat)
 |pK
 |fK
 |ptr (h off:Nat)
 |own (h:Nat)
 |fn (g:Nat) (caps:List (Sh K))
 |agg (l:List (Sh K))
 |lD (l:List (Sh K))
 |np (h:Nat)
inductive dW (K:Aj) where
 |dead
 |box (l:List (Sh K))
 |el (c:K.U)
 |arr (c:K.U)
 |Ze (c:K.U)
 |tree (c:K.U)
mutual
def Sh.T :Sh K->Type
 | .int _=>Int
 | .bool=>Bool
 | .str=>List UInt8
 | .bV c=>List (K.El c)
 | .el c=>K.El c
 | .rp c _=>K.El c
 | .fn _ l=>Sh.Ts l
 | .agg l=>Sh.Ts l
 | .lD l=>Sh.Ts l
 |_=>Unit
def Sh.Ts :List (Sh K)->Type
 | []=>Unit
 |s::r=>Sh.T s×Sh.Ts r
end
def dW.T :dW K->Type
 | .dead=>Unit
 | .box l=>Sh.Ts l
 | .el c=>K.El c
 | .arr c=>List (K.El c)
 | .Ze c=>List (K.El c)
 | .tree c=>List (K.El c)
def dW.Ts :List (dW K)->Type
 | []=>Unit
 |s::r=>dW.T s×dW.Ts r
mutual
def Sh.enc (D:jI K):(s:Sh K)->s.T->AV K
 | .any,_=> .any
 | .int k,n=> .int k n
 | .bool,b=> .bool b
 | .str,s=> .str s
 | .bV c,l=> .bV c l
 | .el c,x=> .agg (D.cells c x)
 | .rp c o,x=> .rp c x o
 | .pK,_=> .pK
 | .fK,_=> .fK
 | .ptr h o,_=> .ptr h o
 | .own h,_=> .sl h
 | .np h,_=> .np h
 | .fn g l,x=> .fn g (Sh.encs D l x)
 | .agg l,x=> .agg (Sh.encs D l x)
 | .lD l,x=> .lD (Sh.encs D l x)
def Sh.encs (D:jI K):(l:List (Sh K))->Sh.Ts l->List (AV K)
 | [],_=>[]
 |s::r,x=>Sh.enc D s x.1::Sh.encs D r x.2
end
def dW.enc (D:jI K):(s:dW K)->s.T->Ob K
 | .dead,_=> .dead
 | .box l,x=> .box (Sh.encs D l x)
 | .el c,x=> .box (D.cells c x)
 | .arr c,x=> .arr c x
 | .Ze c,x=> .Ze c x
 | .tree c,x=> .tree c x
def dW.encs (D:jI K):(l:List (dW K))->dW.Ts l->List (Ob K)
 | [],_=>[]
 |s::r,x=>dW.enc D s x.1::dW.encs D r x.2
def AV.getInt (k:IntKind):AV K->Option Int
 | .int k' n=>if k=k' then some n else none
 |_=>none
def AV.getBool :AV K->Option Bool
 | .bool b=>some b
 |_=>none
def AV.afk :AV K->Option (List UInt8)
 | .str s=>some s
 |_=>none
def AV.acr :AV K->Option (List (AV K))
 | .agg l=>some l
 |_=>none
def AV.afl :AV K->Option (List (AV K))
 | .lD l=>some l
 |_=>none
def AV.getFn (g:Nat):AV K->Option (List (AV K))
 | .fn g' l=>if g=g' then some l else none
 |_=>none
def AV.aiG (c:K.U) (o:Nat):AV K->Option (K.El c)
 | .rp c' x o'=>if o=o' then match K.deq c' c with
   | .isTrue h=>some (h ▸ x)
   | .isFalse _=>none else none
 |_=>none
def AV.afm :AV K->Option Unit
 | .pK=>some ()
 |_=>none
def AV.acs :AV K->Option Unit
 | .fK=>some ()
 |_=>none
def AV.aiH (h o:Nat):AV K->Option Unit
 | .ptr h' o'=>if h=h' then if o=o' then some () else none else none
 |_=>none
def AV.aiI (h:Nat):AV K->Option Unit
 | .sl h'=>if h=h' then some () else none
 |_=>none
def AV.ak2 (h:Nat):AV K->Option Unit
 | .np h'=>if h=h' then some () else none
 |_=>none
theorem AV.Uf {k:IntKind} {v:AV K} {n:Int} (h:v.getInt k=some n):v= .int k n:=by
 unfold AV.getInt at h;split at h
 ·split at h
  ·rename_i hk;subst hk;simp only[Option.some.injEq] at h;subst h;rfl
  ·cases h
 ·cases h
theorem AV.Qd {v:AV K} {n:Bool} (h:v.getBool=some n):v= .bool n:=by
 unfold AV.getBool at h;split at h
 ·simp only[Option.some.injEq] at h;subst h;rfl
 ·cases h
theorem AV.Ug {v:AV K} {n:List UInt8} (h:v.afk=some n):v= .str n:=by
 unfold AV.afk at h;split at h
 ·simp only[Option.some.injEq] at h;subst h;rfl
 ·cases h
theorem AV.aa8 {v:AV K} {n:List (AV K)} (h:v.acr=some n):v= .agg n:=by
 unfold AV.acr at h;split at h
 ·simp only[Option.some.injEq] at h;subst h;rfl
 ·cases h
theorem AV.agZ {v:AV K} {n:List (AV K)} (h:v.afl=some n):v= .lD n:=by
 unfold AV.afl at h;split at h
 ·simp only[Option.some.injEq] at h;subst h;rfl
 ·cases h
theorem AV.aiJ {g:Nat} {v:AV K} {n:List (AV K)} (h:v.getFn g=some n):v= .fn g n:=by
 unfold AV.getFn at h;split at h
 ·split at h
  ·rename_i hk;subst hk;simp only[Option.some.injEq] at h;subst h;rfl
  ·cases h
 ·cases h
theorem AV.aiK {c:K.U} {o:Nat} {v:AV K} {n:K.El c} (h:v.aiG c o=some n):v= .rp c n o:=by
 unfold AV.aiG at h;split at h
 ·split at h
  ·rename_i hk;subst hk
   split at h
   ·rename_i he _;subst he;simp only[Option.some.injEq] at h;subst h;rfl
   ·cases h
  ·cases h
 ·cases h
theorem AV.ag0 {v:AV K} {n:Unit} (h:v.afm=some n):v= .pK:=by
 unfold AV.afm at h;split at h
 ·rfl
 ·cases h
theorem AV.afn {v:AV K} {n:Unit} (h:v.acs=some n):v= .fK:=by
 unfold AV.acs at h;split at h
 ·rfl
 ·cases h
theorem AV.aiL {a o:Nat} {v:AV K} {n:Unit} (h:v.aiH a o=some n):v= .ptr a o:=by
 unfold AV.aiH at h;split at h
 ·split at h
  ·split at h
   ·rename_i h1 h2;subst h1;subst h2;rfl
   ·cases h
  ·cases h
 ·cases h
theorem AV.aiM {a:Nat} {v:AV K} {n:Unit} (h:v.aiI a=some n):v= .sl a:=by
 unfold AV.aiI at h;split at h
 ·split at h
  ·rename_i h1;subst h1;rfl
  ·cases h
 ·cases h
theorem AV.aga {a:Nat} {v:AV K} {n:Unit} (h:v.ak2 a=some n):v= .np a:=by
 unfold AV.ak2 at h;split at h
 ·split at h
  ·rename_i h1;subst h1;rfl
  ·cases h
 ·cases h
def sure {α:Type}:Option (α×Bool)->Option α
 |some (x,true)=>some x
 |_=>none
theorem agb {α:Type} {o:Option (α×Bool)} {x:α} (h:sure o=some x):o=some (x,true):=by
 unfold sure at h;split at h
 ·simp only[Option.some.injEq] at h;subst h;rfl
 ·cases h
mutual
def Sh.dec (D:jI K):(s:Sh K)->AV K->Option s.T
 | .any,_=>some ()
 | .int k,v=>v.getInt k
 | .bool,v=>v.getBool
 | .str,v=>v.afk
 | .bV c,v=>elems [] c v
 | .el c,v=>match v.acr with
   |some l=>sure (D.dec c l)
   |none=>none
 | .rp c o,v=>v.aiG c o
 | .pK,v=>v.afm
 | .fK,v=>v.acs
 | .ptr h o,v=>v.aiH h o
 | .own h,v=>v.aiI h
 | .np h,v=>v.ak2 h
 | .fn g l,v=>match v.getFn g with
   |some l'=>Sh.ry D l l'
   |none=>none
 | .agg l,v=>match v.acr with
   |some l'=>Sh.ry D l l'
   |none=>none
 | .lD l,v=>match v.afl with
   |some l'=>Sh.ry D l l'
   |none=>none
def Sh.ry (D:jI K):(l:List (Sh K))->List (AV K)->Option (Sh.Ts l)
 | [],[]=>some ()
 |s::r,v::l=>match Sh.dec D s v,Sh.ry D r l with
  |some x,some y=>some (x,y)
  |_,_=>none
 |_,_=>none
end
def Ob.UB :Ob K->Option (List (AV K))
 | .box l=>some l
 |_=>none
def Ob.afo (c:K.U):Ob K->Option (List (K.El c))
 | .arr c' l=>match K.deq c' c with
   | .isTrue h=>some (h ▸ l)
   | .isFalse _=>none
 |_=>none
def Ob.afp (c:K.U):Ob K->Option (List (K.El c))
 | .Ze c' l=>match K.deq c' c with
   | .isTrue h=>some (h ▸ l)
   | .isFalse _=>none
 |_=>none
def Ob.acu (c:K.U):Ob K->Option (List (K.El c))
 | .tree c' l=>match K.deq c' c with
   | .isTrue h=>some (h ▸ l)
   | .isFalse _=>none
 |_=>none
theorem Ob.aa9 {v:Ob K} {n:List (AV K)} (h:v.UB=some n):v= .box n:=by
 unfold Ob.UB at h;split at h
 ·simp only[Option.some.injEq] at h;subst h;rfl
 ·cases h
theorem Ob.ag1 {c:K.U} {v:Ob K} {n:List (K.El c)} (h:v.afo c=some n):v= .arr c n:=by
 unfold Ob.afo at h;split at h
 ·split at h
  ·rename_i he _;subst he;simp only[Option.some.injEq] at h;subst h;rfl
  ·cases h
 ·cases h
theorem Ob.ag2 {c:K.U} {v:Ob K} {n:List (K.El c)} (h:v.afp c=some n):v= .Ze c n:=by
 unfold Ob.afp at h;split at h
 ·split at h
  ·rename_i he _;subst he;simp only[Option.some.injEq] at h;subst h;rfl
  ·cases h
 ·cases h
theorem Ob.afq {c:K.U} {v:Ob K} {n:List (K.El c)} (h:v.acu c=some n):v= .tree c n:=by
 unfold Ob.acu at h;split at h
 ·split at h
  ·rename_i he _;subst he;simp only[Option.some.injEq] at h;subst h;rfl
  ·cases h
 ·cases h
def dW.dec (D:jI K):(s:dW K)->Ob K->Option s.T
 | .dead,_=>some ()
 | .box l,o=>match o.UB with
   |some cs=>Sh.ry D l cs
   |none=>none
 | .el c,o=>match o.UB with
   |some cs=>sure (D.dec c cs)
   |none=>none
 | .arr c,o=>o.afo c
 | .Ze c,o=>o.afp c
 | .tree c,o=>o.acu c
def dW.ry (D:jI K):(l:List (dW K))->List (Ob K)->Option (dW.Ts l)
 | [],[]=>some ()
 |s::r,v::l=>match dW.dec D s v,dW.ry D r l with
  |some x,some y=>some (x,y)
  |_,_=>none
 |_,_=>none
theorem WM (hD:cZ D) {c:K.U} {v:AV K} {l:List (K.El c)} (h:elems [] c v=some l) {u:Value} (hr:Rep D ρ S w v u):Rep D ρ S w (.bV c l) u:=by
 unfold elems at h;split at h
 ·simp only[Option.some.injEq] at h;subst h;cases hr;exact .xI _ _
 ·split at h
  ·rename_i he _;subst he;simp only[Option.some.injEq] at h;subst h;exact hr
  ·cases h
 ·simp at h
 ·cases h
mutual
theorem Sh.Du (hD:cZ D):∀(s:Sh K) (v:AV K) (x:s.T),Sh.dec D s v=some x->∀u,Rep D ρ S w v u->Rep D ρ S w (Sh.enc D s x) u
 | .any,v,x,h,u,hr=> .any u
 | .int k,v,x,h,u,hr=>by rw[AV.Uf h] at hr;exact hr
 | .bool,v,x,h,u,hr=>by rw[AV.Qd h] at hr;exact hr
 | .str,v,x,h,u,hr=>by rw[AV.Ug h] at hr;exact hr
 | .bV c,v,x,h,u,hr=>WM hD h hr
 | .el c,v,x,h,u,hr=>by
   unfold Sh.dec at h;split at h
   ·rename_i l hl
    rw[AV.aa8 hl] at hr
    cases hr with
    |agg hl hh=>
     have:=hD.dec c _ _ (agb h) ρ S w _ ⟨hl,hh⟩;exact .agg this.1 this.2
   ·cases h
 | .rp c o,v,x,h,u,hr=>by rw[AV.aiK h] at hr;exact hr
 | .pK,v,x,h,u,hr=>by rw[AV.ag0 h] at hr;exact hr
 | .fK,v,x,h,u,hr=>by rw[AV.afn h] at hr;exact hr
 | .ptr a b,v,x,h,u,hr=>by rw[AV.aiL h] at hr;exact hr
 | .own a,v,x,h,u,hr=>by rw[AV.aiM h] at hr;exact hr
 | .np a,v,x,h,u,hr=>by rw[AV.aga h] at hr;exact hr
 | .fn g l,v,x,h,u,hr=>by
   unfold Sh.dec at h;split at h
   ·rename_i l' hl
    rw[AV.aiJ hl] at hr
    cases hr with
    |fn hl hh=>
     have:=Sh.uw hD l _ x h _ ⟨hl,hh⟩;exact .fn this.1 this.2
   ·cases h
 | .agg l,v,x,h,u,hr=>by
   unfold Sh.dec at h;split at h
   ·rename_i l' hl
    rw[AV.aa8 hl] at hr
    cases hr with
    |agg hl hh=>
     have:=Sh.uw hD l _ x h _ ⟨hl,hh⟩;exact .agg this.1 this.2
   ·cases h
 | .lD l,v,x,h,u,hr=>by
   unfold Sh.dec at h;split at h
   ·rename_i l' hl
    rw[AV.agZ hl] at hr
    cases hr with
    |lD hl hh=>
     have:=Sh.uw hD l _ x h _ ⟨hl,hh⟩;exact .lD this.1 this.2
   ·cases h
theorem Sh.uw (hD:cZ D):∀(l:List (Sh K)) (vs:List (AV K)) (x:Sh.Ts l),Sh.ry D l vs=some x->∀us,cO D ρ S w vs us->cO D ρ S w (Sh.encs D l x) us
 | [],vs,x,h,us,hr=>by
   cases vs with
   |nil=>exact hr
   |cons v r=>unfold Sh.ry at h;cases h
 |s::r,vs,x,h,us,hr=>by
  cases vs with
  |nil=>unfold Sh.ry at h;cases h
  |cons v l=>
   unfold Sh.ry at h;split at h
   ·rename_i a b h1 h2
    have h:=Option.some.inj h;subst h;obtain ⟨u,t,rfl,g1,g2⟩:=hr.ru;exact .cons (Sh.Du hD s v a h1 u g1) (Sh.uw hD r l b h2 t g2)
   ·cases h
end
theorem aar {l:List (AV K)} (h:jG l=true):yF l=false:=by
 cases l with
 |nil=>rfl
 |cons v r=>
  simp only[jG,Bool.and_eq_true] at h
  cases v<;>first |rfl |(simp[AV.closed] at h)
theorem ad6 {l:List (Sh K)} {cs:List (AV K)} {x:Sh.Ts l} (h:Sh.ry D l cs=some x) (hn:yF (Sh.encs D l x)=true):yF cs=true:=by
 cases l with
 |nil=>unfold Sh.encs at hn;cases hn
 |cons s r=>
  cases cs with
  |nil=>unfold Sh.ry at h;cases h
  |cons v vs=>
   unfold Sh.ry at h;split at h
   ·rename_i a b h1 h2
    have h:=Option.some.inj h;subst h;change yF (Sh.enc D s a::Sh.encs D r b)=true at hn
    cases s
    all_goals first
     |exact absurd (show false=true from hn) (by simp)
     |(have h3:=AV.aga (v:=v) h1;rw[h3];rfl)
   ·cases h
theorem dW.Du (hD:cZ D) (s:dW K) (o:Ob K) (x:s.T) (h:dW.dec D s o=some x):((dW.enc D s x).live=true->o.live=true /\ ∀w r b,fP D w (dW.enc D s x) r b->fP D w o r b) /\ ∀r,qy D ρ S w o r->qy D ρ S w (dW.enc D s x) r:=by
 cases s with
 |dead=>exact ⟨fun h=>Bool.noConfusion h,fun _ _=>trivial⟩
 |box l=>
  change (match o.UB with
   |some cs=>Sh.ry D l cs
   |none=>none)=some x at h
  split at h
  ·rename_i cs hcs
   rw[Ob.aa9 hcs];refine ⟨fun _=>⟨rfl,fun _ _ _ h=>h⟩,fun r hh=> ?_⟩
   obtain ⟨b,vs,T,e,h1,h2,h3⟩:=hh;exact ⟨b,vs,T,e,h1,Sh.uw hD l _ x h _ h2,fun hn=>h3 (ad6 h hn)⟩
  ·cases h
 |el c=>
  change (match o.UB with
   |some cs=>sure (D.dec c cs)
   |none=>none)=some x at h
  split at h
  ·rename_i cs hcs
   rw[Ob.aa9 hcs];refine ⟨fun _=>⟨rfl,fun _ _ _ h=>h⟩,fun r hh=> ?_⟩
   obtain ⟨b,vs,T,e,h1,h2,h3⟩:=hh;exact ⟨b,vs,T,e,h1,hD.dec c _ _ (agb h) ρ S w _ h2,fun hn=>by rw[aar (hD.closed c x)] at hn;cases hn⟩
  ·cases h
 |arr c=>rw[Ob.ag1 h];exact ⟨fun h=>⟨h,fun _ _ _ h=>h⟩,fun _ h=>h⟩
 |Ze c=>rw[Ob.ag2 h];exact ⟨fun h=>⟨h,fun _ _ _ h=>h⟩,fun _ h=>h⟩
 |tree c=>rw[Ob.afq h];exact ⟨fun h=>⟨h,fun _ _ _ h=>h⟩,fun _ h=>h⟩
theorem dW.S9 :∀(l:List (dW K)) (os:List (Ob K)) (x:dW.Ts l),dW.ry D l os=some x->(dW.encs D l x).length=os.length /\ ∀(i:Nat) o',(dW.encs D l x)[i]? =some o'->∃o,os[i]? =some o /\ ∃(s:dW K) (y:s.T),dW.dec D s o=some y /\ o'=dW.enc D s y
 | [],os,x,h=>by
   cases os with
   |nil=>exact ⟨rfl,fun i o' h=>by simp[dW.encs] at h⟩
   |cons v r=>simp[dW.ry] at h
 |s::r,os,x,h=>by
  cases os with
  |nil=>simp[dW.ry] at h
  |cons v l=>
   simp only[dW.ry] at h;split at h
   ·rename_i a b h1 h2
    have h:=Option.some.inj h;subst h;obtain ⟨g1,g2⟩:=dW.S9 r l b h2;refine ⟨by simp only[dW.encs,List.length_cons];rw[g1],fun i o' hi=> ?_⟩
    cases i with
    |zero=>simp[dW.encs] at hi;exact ⟨v,rfl,s,a,h1,hi.symm⟩
    |succ i=>simp[dW.encs] at hi;obtain ⟨o,q⟩:=g2 i o' hi;exact ⟨o,by simpa using q.1,q.2⟩
   ·cases h
structure Wk (D:jI K) (vs:List (AV K)) (H:List (Ob K)) (vs':List (AV K)) (H':List (Ob K)):Prop where
 len:H'.length=H.length
 akY:∀ρ S w us,cO D ρ S w vs us->cO D ρ S w vs' us
 heap:∀ρ S w,aA D ρ S w H->aA D ρ S w H'
 own:∀w ρ b,Own D w ρ H' b->Own D w ρ H b
theorem Wk.step {vs vs':List (AV K)} {n0:Nat} (h:Wk D vs H vs' H'):Step D n0 ρ S H w ρ S H' w:=
 ⟨rfl,rfl,rfl,Nat.le_refl _,fun _ _ _=>rfl,fun b hb=> .inl (h.own _ _ b hb),fun _ h=>h,fun _ h=> .inl h,fun _ _=>rfl⟩
theorem dW.ad7 {l:List (dW K)} {os:List (Ob K)} {x:dW.Ts l} (hD:cZ D) (h:dW.ry D l os=some x) (w:World) (ρ:List Value) (b:Nat) (hb:Own D w ρ (dW.encs D l x) b):Own D w ρ os b:=by
 obtain ⟨i,o',r,h1,h2,h3,h4⟩:=hb;obtain ⟨o,q1,s,y,q2,rfl⟩:=(dW.S9 l os x h).2 i o' h1;have q3:=(dW.Du (ρ:=ρ) (S:=fun _=>False) (w:=w) hD s o y q2).1 h2
 exact ⟨i,o,r,q1,q3.1,h3,q3.2 _ _ _ h4⟩
theorem dW.uw {l:List (dW K)} {os:List (Ob K)} {x:dW.Ts l} (hD:cZ D) (h:dW.ry D l os=some x) (hs:aA D ρ S w os):aA D ρ S w (dW.encs D l x):=by
 obtain ⟨g1,g2⟩:=dW.S9 l os x h;refine ⟨by rw[g1];exact hs.len,fun i o' r h1 h2=> ?_,fun i j o o' r r' b h1 h2 h3 h4 c1 c2 c3 c4=> ?_,fun b hb=>hs.lt b (dW.ad7 hD h w ρ b hb),hs.slt,hs.base⟩
 ·obtain ⟨o,q1,s,y,q2,rfl⟩:=g2 i o' h1
  exact (dW.Du hD s o y q2).2 r (hs.ob i o r q1 h2)
 ·obtain ⟨o1,q1,s,y,q2,rfl⟩:=g2 i o h1
  obtain ⟨o2,p1,s',y',p2,rfl⟩:=g2 j o' c1;have a1:=(dW.Du (ρ:=ρ) (S:=S) (w:=w) hD s o1 y q2).1 h2;have a2:=(dW.Du (ρ:=ρ) (S:=S) (w:=w) hD s' o2 y' p2).1 c2;exact hs.uj i j o1 o2 r r' b q1 a1.1 h3 (a1.2 _ _ _ h4) p1 a2.1 c3 (a2.2 _ _ _ c4)
structure eP (K:Aj) where
 vs:List (Sh K)
 os:List (dW K)
def eP.T (c:eP K):Type:=Sh.Ts c.vs×dW.Ts c.os
def eP.dec (D:jI K) (c:eP K) (vs:List (AV K)) (H:List (Ob K)):Option c.T:=
 match Sh.ry D c.vs vs,dW.ry D c.os H with
 |some a,some b=>some (a,b)
 |_,_=>none
def eP.eU (D:jI K) (c:eP K) (x:c.T):List (AV K):=Sh.encs D c.vs x.1
def eP.eY (D:jI K) (c:eP K) (x:c.T):List (Ob K):=dW.encs D c.os x.2
theorem eP.YQ (hD:cZ D) {c:eP K} {vs:List (AV K)} {x:c.T} (h:c.dec D vs H=some x):Wk D vs H (c.eU D x) (c.eY D x):=by
 unfold eP.dec at h;split at h
 ·rename_i a b h1 h2
  have h:=Option.some.inj h;subst h;exact ⟨(dW.S9 c.os H b h2).1,fun ρ S w us hr=>Sh.uw hD c.vs vs a h1 us hr,fun ρ S w hs=>dW.uw hD h2 hs,fun w ρ b' hb=>dW.ad7 hD h2 w ρ b' hb⟩
 ·cases h
end Go.V
