/-
  SHAPES: of arguments, of what a loop knows, of what is yielded: how unknowns lie in abstract values and objects, how they are read off, and that reading off loses nothing that is true.
-/
import Derived.Test.YtembifnelpdbkaaGreatDoorXWloop
set_option linter.unusedVariables false
namespace Go.V
open Go
variable {K :Gf} {D:lG K} {ρ ρ':List Value} {S S':Nat->Prop} {w w':World} {H H':List (Ob K)}
inductive Sh (K:Gf) where
 |any
 |int (k:IntKind)
 |bool
 |str
 |aZ (c:K.U)
 |el (c:K.U)
 |rp (c:K.U) (off:Nat)
 |rM
 |iG
 |ptr (h off:Nat)
 |own (h:Nat)
 |fn (g:Nat) (caps:List (Sh K))
 |agg (l:List (Sh K))
 |nS (l:List (Sh K))
 |np (h:Nat)
inductive iY (K:Gf) where
 |dead
 |box (l:List (Sh K))
 |el (c:K.U)
 |arr (c:K.U)
 |fro (c:K.U)
 |tree (c:K.U)
mutual
def Sh.T :Sh K->Type
 | .int _=>Int
 | .bool=>Bool
 | .str=>List UInt8
 | .aZ c=>List (K.El c)
 | .el c=>K.El c
 | .rp c _=>K.El c
 | .fn _ l=>Sh.Ts l
 | .agg l=>Sh.Ts l
 | .nS l=>Sh.Ts l
 |_=>Unit
def Sh.Ts :List (Sh K)->Type
 | []=>Unit
 |s::r=>Sh.T s×Sh.Ts r
end
def iY.T :iY K->Type
 | .dead=>Unit
 | .box l=>Sh.Ts l
 | .el c=>K.El c
 | .arr c=>List (K.El c)
 | .fro c=>List (K.El c)
 | .tree c=>List (K.El c)
def iY.Ts :List (iY K)->Type
 | []=>Unit
 |s::r=>iY.T s×iY.Ts r
mutual
def Sh.enc (D:lG K):(s:Sh K)->s.T->AV K
 | .any,_=> .any
 | .int k,n=> .int k n
 | .bool,b=> .bool b
 | .str,s=> .str s
 | .aZ c,l=> .aZ c l
 | .el c,x=> .agg (D.cells c x)
 | .rp c o,x=> .rp c x o
 | .rM,_=> .rM
 | .iG,_=> .iG
 | .ptr h o,_=> .ptr h o
 | .own h,_=> .sl h
 | .np h,_=> .np h
 | .fn g l,x=> .fn g (Sh.encs D l x)
 | .agg l,x=> .agg (Sh.encs D l x)
 | .nS l,x=> .nS (Sh.encs D l x)
def Sh.encs (D:lG K):(l:List (Sh K))->Sh.Ts l->List (AV K)
 | [],_=>[]
 |s::r,x=>Sh.enc D s x.1::Sh.encs D r x.2
end
def iY.enc (D:lG K):(s:iY K)->s.T->Ob K
 | .dead,_=> .dead
 | .box l,x=> .box (Sh.encs D l x)
 | .el c,x=> .box (D.cells c x)
 | .arr c,x=> .arr c x
 | .fro c,x=> .fro c x
 | .tree c,x=> .tree c x
def iY.encs (D:lG K):(l:List (iY K))->iY.Ts l->List (Ob K)
 | [],_=>[]
 |s::r,x=>iY.enc D s x.1::iY.encs D r x.2
def AV.getInt (k:IntKind):AV K->Option Int
 | .int k' n=>if k=k' then some n else none
 |_=>none
def AV.getBool :AV K->Option Bool
 | .bool b=>some b
 |_=>none
def AV.axE :AV K->Option (List UInt8)
 | .str s=>some s
 |_=>none
def AV.aue :AV K->Option (List (AV K))
 | .agg l=>some l
 |_=>none
def AV.axF :AV K->Option (List (AV K))
 | .nS l=>some l
 |_=>none
def AV.getFn (g:Nat):AV K->Option (List (AV K))
 | .fn g' l=>if g=g' then some l else none
 |_=>none
def AV.aBt (c:K.U) (o:Nat):AV K->Option (K.El c)
 | .rp c' x o'=>if o=o' then match K.deq c' c with
   | .isTrue h=>some (h ▸ x)
   | .isFalse _=>none else none
 |_=>none
def AV.axG :AV K->Option Unit
 | .rM=>some ()
 |_=>none
def AV.auf :AV K->Option Unit
 | .iG=>some ()
 |_=>none
def AV.aBu (h o:Nat):AV K->Option Unit
 | .ptr h' o'=>if h=h' then if o=o' then some () else none else none
 |_=>none
def AV.aBv (h:Nat):AV K->Option Unit
 | .sl h'=>if h=h' then some () else none
 |_=>none
def AV.aDU (h:Nat):AV K->Option Unit
 | .np h'=>if h=h' then some () else none
 |_=>none
theorem AV.ajn {k:IntKind} {v:AV K} {n:Int} (h:v.getInt k=some n):v= .int k n:=by
 unfold AV.getInt at h;split at h
 ·split at h
  ·rename_i hk;subst hk;simp only[Option.some.injEq] at h;subst h;rfl
  ·cases h
 ·cases h
theorem AV.ad6 {v:AV K} {n:Bool} (h:v.getBool=some n):v= .bool n:=by
 unfold AV.getBool at h;split at h
 ·simp only[Option.some.injEq] at h;subst h;rfl
 ·cases h
theorem AV.ajo {v:AV K} {n:List UInt8} (h:v.axE=some n):v= .str n:=by
 unfold AV.axE at h;split at h
 ·simp only[Option.some.injEq] at h;subst h;rfl
 ·cases h
theorem AV.asw {v:AV K} {n:List (AV K)} (h:v.aue=some n):v= .agg n:=by
 unfold AV.aue at h;split at h
 ·simp only[Option.some.injEq] at h;subst h;rfl
 ·cases h
theorem AV.azy {v:AV K} {n:List (AV K)} (h:v.axF=some n):v= .nS n:=by
 unfold AV.axF at h;split at h
 ·simp only[Option.some.injEq] at h;subst h;rfl
 ·cases h
theorem AV.aBw {g:Nat} {v:AV K} {n:List (AV K)} (h:v.getFn g=some n):v= .fn g n:=by
 unfold AV.getFn at h;split at h
 ·split at h
  ·rename_i hk;subst hk;simp only[Option.some.injEq] at h;subst h;rfl
  ·cases h
 ·cases h
theorem AV.aBx {c:K.U} {o:Nat} {v:AV K} {n:K.El c} (h:v.aBt c o=some n):v= .rp c n o:=by
 unfold AV.aBt at h;split at h
 ·split at h
  ·rename_i hk;subst hk
   split at h
   ·rename_i he _;subst he;simp only[Option.some.injEq] at h;subst h;rfl
   ·cases h
  ·cases h
 ·cases h
theorem AV.azz {v:AV K} {n:Unit} (h:v.axG=some n):v= .rM:=by
 unfold AV.axG at h;split at h
 ·rfl
 ·cases h
theorem AV.axH {v:AV K} {n:Unit} (h:v.auf=some n):v= .iG:=by
 unfold AV.auf at h;split at h
 ·rfl
 ·cases h
theorem AV.aBy {a o:Nat} {v:AV K} {n:Unit} (h:v.aBu a o=some n):v= .ptr a o:=by
 unfold AV.aBu at h;split at h
 ·split at h
  ·split at h
   ·rename_i h1 h2;subst h1;subst h2;rfl
   ·cases h
  ·cases h
 ·cases h
theorem AV.aBz {a:Nat} {v:AV K} {n:Unit} (h:v.aBv a=some n):v= .sl a:=by
 unfold AV.aBv at h;split at h
 ·split at h
  ·rename_i h1;subst h1;rfl
  ·cases h
 ·cases h
theorem AV.ayD {a:Nat} {v:AV K} {n:Unit} (h:v.aDU a=some n):v= .np a:=by
 unfold AV.aDU at h;split at h
 ·split at h
  ·rename_i h1;subst h1;rfl
  ·cases h
 ·cases h
def sure {α:Type}:Option (α×Bool)->Option α
 |some (x,true)=>some x
 |_=>none
theorem ayE {α:Type} {o:Option (α×Bool)} {x:α} (h:sure o=some x):o=some (x,true):=by
 unfold sure at h;split at h
 ·simp only[Option.some.injEq] at h;subst h;rfl
 ·cases h
mutual
def Sh.dec (D:lG K):(s:Sh K)->AV K->Option s.T
 | .any,_=>some ()
 | .int k,v=>v.getInt k
 | .bool,v=>v.getBool
 | .str,v=>v.axE
 | .aZ c,v=>elems [] c v
 | .el c,v=>match v.aue with
   |some l=>sure (D.dec c l)
   |none=>none
 | .rp c o,v=>v.aBt c o
 | .rM,v=>v.axG
 | .iG,v=>v.auf
 | .ptr h o,v=>v.aBu h o
 | .own h,v=>v.aBv h
 | .np h,v=>v.aDU h
 | .fn g l,v=>match v.getFn g with
   |some l'=>Sh.xA D l l'
   |none=>none
 | .agg l,v=>match v.aue with
   |some l'=>Sh.xA D l l'
   |none=>none
 | .nS l,v=>match v.axF with
   |some l'=>Sh.xA D l l'
   |none=>none
def Sh.xA (D:lG K):(l:List (Sh K))->List (AV K)->Option (Sh.Ts l)
 | [],[]=>some ()
 |s::r,v::l=>match Sh.dec D s v,Sh.xA D r l with
  |some x,some y=>some (x,y)
  |_,_=>none
 |_,_=>none
end
def Ob.ajH :Ob K->Option (List (AV K))
 | .box l=>some l
 |_=>none
def Ob.axI (c:K.U):Ob K->Option (List (K.El c))
 | .arr c' l=>match K.deq c' c with
   | .isTrue h=>some (h ▸ l)
   | .isFalse _=>none
 |_=>none
def Ob.axJ (c:K.U):Ob K->Option (List (K.El c))
 | .fro c' l=>match K.deq c' c with
   | .isTrue h=>some (h ▸ l)
   | .isFalse _=>none
 |_=>none
def Ob.aug (c:K.U):Ob K->Option (List (K.El c))
 | .tree c' l=>match K.deq c' c with
   | .isTrue h=>some (h ▸ l)
   | .isFalse _=>none
 |_=>none
theorem Ob.asx {v:Ob K} {n:List (AV K)} (h:v.ajH=some n):v= .box n:=by
 unfold Ob.ajH at h;split at h
 ·simp only[Option.some.injEq] at h;subst h;rfl
 ·cases h
theorem Ob.azA {c:K.U} {v:Ob K} {n:List (K.El c)} (h:v.axI c=some n):v= .arr c n:=by
 unfold Ob.axI at h;split at h
 ·split at h
  ·rename_i he _;subst he;simp only[Option.some.injEq] at h;subst h;rfl
  ·cases h
 ·cases h
theorem Ob.azB {c:K.U} {v:Ob K} {n:List (K.El c)} (h:v.axJ c=some n):v= .fro c n:=by
 unfold Ob.axJ at h;split at h
 ·split at h
  ·rename_i he _;subst he;simp only[Option.some.injEq] at h;subst h;rfl
  ·cases h
 ·cases h
theorem Ob.axK {c:K.U} {v:Ob K} {n:List (K.El c)} (h:v.aug c=some n):v= .tree c n:=by
 unfold Ob.aug at h;split at h
 ·split at h
  ·rename_i he _;subst he;simp only[Option.some.injEq] at h;subst h;rfl
  ·cases h
 ·cases h
def iY.dec (D:lG K):(s:iY K)->Ob K->Option s.T
 | .dead,_=>some ()
 | .box l,o=>match o.ajH with
   |some cs=>Sh.xA D l cs
   |none=>none
 | .el c,o=>match o.ajH with
   |some cs=>sure (D.dec c cs)
   |none=>none
 | .arr c,o=>o.axI c
 | .fro c,o=>o.axJ c
 | .tree c,o=>o.aug c
def iY.xA (D:lG K):(l:List (iY K))->List (Ob K)->Option (iY.Ts l)
 | [],[]=>some ()
 |s::r,v::l=>match iY.dec D s v,iY.xA D r l with
  |some x,some y=>some (x,y)
  |_,_=>none
 |_,_=>none
theorem amX (hD:dL D) {c:K.U} {v:AV K} {l:List (K.El c)} (h:elems [] c v=some l) {u:Value} (hr:Rep D ρ S w v u):Rep D ρ S w (.aZ c l) u:=by
 unfold elems at h;split at h
 ·simp only[Option.some.injEq] at h;subst h;cases hr;exact .En _ _
 ·split at h
  ·rename_i he _;subst he;simp only[Option.some.injEq] at h;subst h;exact hr
  ·cases h
 ·simp at h
 ·cases h
mutual
theorem Sh.J7 (hD:dL D):∀(s:Sh K) (v:AV K) (x:s.T),Sh.dec D s v=some x->∀u,Rep D ρ S w v u->Rep D ρ S w (Sh.enc D s x) u
 | .any,v,x,h,u,hr=> .any u
 | .int k,v,x,h,u,hr=>by rw[AV.ajn h] at hr;exact hr
 | .bool,v,x,h,u,hr=>by rw[AV.ad6 h] at hr;exact hr
 | .str,v,x,h,u,hr=>by rw[AV.ajo h] at hr;exact hr
 | .aZ c,v,x,h,u,hr=>amX hD h hr
 | .el c,v,x,h,u,hr=>by
   unfold Sh.dec at h;split at h
   ·rename_i l hl
    rw[AV.asw hl] at hr
    cases hr with
    |agg hl hh=>
     have:=hD.dec c _ _ (ayE h) ρ S w _ ⟨hl,hh⟩;exact .agg this.1 this.2
   ·cases h
 | .rp c o,v,x,h,u,hr=>by rw[AV.aBx h] at hr;exact hr
 | .rM,v,x,h,u,hr=>by rw[AV.azz h] at hr;exact hr
 | .iG,v,x,h,u,hr=>by rw[AV.axH h] at hr;exact hr
 | .ptr a b,v,x,h,u,hr=>by rw[AV.aBy h] at hr;exact hr
 | .own a,v,x,h,u,hr=>by rw[AV.aBz h] at hr;exact hr
 | .np a,v,x,h,u,hr=>by rw[AV.ayD h] at hr;exact hr
 | .fn g l,v,x,h,u,hr=>by
   unfold Sh.dec at h;split at h
   ·rename_i l' hl
    rw[AV.aBw hl] at hr
    cases hr with
    |fn hl hh=>
     have:=Sh.zD hD l _ x h _ ⟨hl,hh⟩;exact .fn this.1 this.2
   ·cases h
 | .agg l,v,x,h,u,hr=>by
   unfold Sh.dec at h;split at h
   ·rename_i l' hl
    rw[AV.asw hl] at hr
    cases hr with
    |agg hl hh=>
     have:=Sh.zD hD l _ x h _ ⟨hl,hh⟩;exact .agg this.1 this.2
   ·cases h
 | .nS l,v,x,h,u,hr=>by
   unfold Sh.dec at h;split at h
   ·rename_i l' hl
    rw[AV.azy hl] at hr
    cases hr with
    |nS hl hh=>
     have:=Sh.zD hD l _ x h _ ⟨hl,hh⟩;exact .nS this.1 this.2
   ·cases h
theorem Sh.zD (hD:dL D):∀(l:List (Sh K)) (vs:List (AV K)) (x:Sh.Ts l),Sh.xA D l vs=some x->∀us,dM D ρ S w vs us->dM D ρ S w (Sh.encs D l x) us
 | [],vs,x,h,us,hr=>by
   cases vs with
   |nil=>exact hr
   |cons v r=>unfold Sh.xA at h;cases h
 |s::r,vs,x,h,us,hr=>by
  cases vs with
  |nil=>unfold Sh.xA at h;cases h
  |cons v l=>
   unfold Sh.xA at h;split at h
   ·rename_i a b h1 h2
    have h:=Option.some.inj h;subst h;obtain ⟨u,t,rfl,g1,g2⟩:=hr.uo;exact .cons (Sh.J7 hD s v a h1 u g1) (Sh.zD hD r l b h2 t g2)
   ·cases h
end
theorem arD {l:List (AV K)} (h:lI l=true):Ep l=false:=by
 cases l with
 |nil=>rfl
 |cons v r=>
  simp only[lI,Bool.and_eq_true] at h
  cases v<;>first |rfl |(simp[AV.closed] at h)
theorem awo {l:List (Sh K)} {cs:List (AV K)} {x:Sh.Ts l} (h:Sh.xA D l cs=some x) (hn:Ep (Sh.encs D l x)=true):Ep cs=true:=by
 cases l with
 |nil=>unfold Sh.encs at hn;cases hn
 |cons s r=>
  cases cs with
  |nil=>unfold Sh.xA at h;cases h
  |cons v vs=>
   unfold Sh.xA at h;split at h
   ·rename_i a b h1 h2
    have h:=Option.some.inj h;subst h;change Ep (Sh.enc D s a::Sh.encs D r b)=true at hn
    cases s
    all_goals first
     |exact absurd (show false=true from hn) (by simp)
     |(have h3:=AV.ayD (v:=v) h1;rw[h3];rfl)
   ·cases h
theorem iY.J7 (hD:dL D) (s:iY K) (o:Ob K) (x:s.T) (h:iY.dec D s o=some x):((iY.enc D s x).live=true->o.live=true /\ ∀w r b,iL D w (iY.enc D s x) r b->iL D w o r b) /\ ∀r,vN D ρ S w o r->vN D ρ S w (iY.enc D s x) r:=by
 cases s with
 |dead=>exact ⟨fun h=>Bool.noConfusion h,fun _ _=>trivial⟩
 |box l=>
  change (match o.ajH with
   |some cs=>Sh.xA D l cs
   |none=>none)=some x at h
  split at h
  ·rename_i cs hcs
   rw[Ob.asx hcs];refine ⟨fun _=>⟨rfl,fun _ _ _ h=>h⟩,fun r hh=> ?_⟩
   obtain ⟨b,vs,T,e,h1,h2,h3⟩:=hh;exact ⟨b,vs,T,e,h1,Sh.zD hD l _ x h _ h2,fun hn=>h3 (awo h hn)⟩
  ·cases h
 |el c=>
  change (match o.ajH with
   |some cs=>sure (D.dec c cs)
   |none=>none)=some x at h
  split at h
  ·rename_i cs hcs
   rw[Ob.asx hcs];refine ⟨fun _=>⟨rfl,fun _ _ _ h=>h⟩,fun r hh=> ?_⟩
   obtain ⟨b,vs,T,e,h1,h2,h3⟩:=hh;exact ⟨b,vs,T,e,h1,hD.dec c _ _ (ayE h) ρ S w _ h2,fun hn=>by rw[arD (hD.closed c x)] at hn;cases hn⟩
  ·cases h
 |arr c=>rw[Ob.azA h];exact ⟨fun h=>⟨h,fun _ _ _ h=>h⟩,fun _ h=>h⟩
 |fro c=>rw[Ob.azB h];exact ⟨fun h=>⟨h,fun _ _ _ h=>h⟩,fun _ h=>h⟩
 |tree c=>rw[Ob.axK h];exact ⟨fun h=>⟨h,fun _ _ _ h=>h⟩,fun _ h=>h⟩
theorem iY.ahb :∀(l:List (iY K)) (os:List (Ob K)) (x:iY.Ts l),iY.xA D l os=some x->(iY.encs D l x).length=os.length /\ ∀(i:Nat) o',(iY.encs D l x)[i]? =some o'->∃o,os[i]? =some o /\ ∃(s:iY K) (y:s.T),iY.dec D s o=some y /\ o'=iY.enc D s y
 | [],os,x,h=>by
   cases os with
   |nil=>exact ⟨rfl,fun i o' h=>by simp[iY.encs] at h⟩
   |cons v r=>simp[iY.xA] at h
 |s::r,os,x,h=>by
  cases os with
  |nil=>simp[iY.xA] at h
  |cons v l=>
   simp only[iY.xA] at h;split at h
   ·rename_i a b h1 h2
    have h:=Option.some.inj h;subst h;obtain ⟨g1,g2⟩:=iY.ahb r l b h2;refine ⟨by simp only[iY.encs,List.length_cons];rw[g1],fun i o' hi=> ?_⟩
    cases i with
    |zero=>simp[iY.encs] at hi;exact ⟨v,rfl,s,a,h1,hi.symm⟩
    |succ i=>simp[iY.encs] at hi;obtain ⟨o,q⟩:=g2 i o' hi;exact ⟨o,by simpa using q.1,q.2⟩
   ·cases h
structure Wk (D:lG K) (vs:List (AV K)) (H:List (Ob K)) (vs':List (AV K)) (H':List (Ob K)):Prop where
 len:H'.length=H.length
 aDP:∀ρ S w us,dM D ρ S w vs us->dM D ρ S w vs' us
 heap:∀ρ S w,aO D ρ S w H->aO D ρ S w H'
 own:∀w ρ b,Own D w ρ H' b->Own D w ρ H b
theorem Wk.step {vs vs':List (AV K)} {n0:Nat} (h:Wk D vs H vs' H'):Step D n0 ρ S H w ρ S H' w:=
 ⟨rfl,rfl,rfl,Nat.le_refl _,fun _ _ _=>rfl,fun b hb=> .inl (h.own _ _ b hb),fun _ h=>h,fun _ h=> .inl h,fun _ _=>rfl⟩
theorem iY.awp {l:List (iY K)} {os:List (Ob K)} {x:iY.Ts l} (hD:dL D) (h:iY.xA D l os=some x) (w:World) (ρ:List Value) (b:Nat) (hb:Own D w ρ (iY.encs D l x) b):Own D w ρ os b:=by
 obtain ⟨i,o',r,h1,h2,h3,h4⟩:=hb;obtain ⟨o,q1,s,y,q2,rfl⟩:=(iY.ahb l os x h).2 i o' h1;have q3:=(iY.J7 (ρ:=ρ) (S:=fun _=>False) (w:=w) hD s o y q2).1 h2
 exact ⟨i,o,r,q1,q3.1,h3,q3.2 _ _ _ h4⟩
theorem iY.zD {l:List (iY K)} {os:List (Ob K)} {x:iY.Ts l} (hD:dL D) (h:iY.xA D l os=some x) (hs:aO D ρ S w os):aO D ρ S w (iY.encs D l x):=by
 obtain ⟨g1,g2⟩:=iY.ahb l os x h;refine ⟨by rw[g1];exact hs.len,fun i o' r h1 h2=> ?_,fun i j o o' r r' b h1 h2 h3 h4 c1 c2 c3 c4=> ?_,fun b hb=>hs.lt b (iY.awp hD h w ρ b hb),hs.slt,hs.base⟩
 ·obtain ⟨o,q1,s,y,q2,rfl⟩:=g2 i o' h1
  exact (iY.J7 hD s o y q2).2 r (hs.ob i o r q1 h2)
 ·obtain ⟨o1,q1,s,y,q2,rfl⟩:=g2 i o h1
  obtain ⟨o2,p1,s',y',p2,rfl⟩:=g2 j o' c1;have a1:=(iY.J7 (ρ:=ρ) (S:=S) (w:=w) hD s o1 y q2).1 h2;have a2:=(iY.J7 (ρ:=ρ) (S:=S) (w:=w) hD s' o2 y' p2).1 c2;exact hs.zx i j o1 o2 r r' b q1 a1.1 h3 (a1.2 _ _ _ h4) p1 a2.1 c3 (a2.2 _ _ _ c4)
structure ZC (K:Gf) where
 vs:List (Sh K)
 os:List (iY K)
def ZC.T (c:ZC K):Type:=Sh.Ts c.vs×iY.Ts c.os
def ZC.dec (D:lG K) (c:ZC K) (vs:List (AV K)) (H:List (Ob K)):Option c.T:=
 match Sh.xA D c.vs vs,iY.xA D c.os H with
 |some a,some b=>some (a,b)
 |_,_=>none
def ZC.ain (D:lG K) (c:ZC K) (x:c.T):List (AV K):=Sh.encs D c.vs x.1
def ZC.Xz (D:lG K) (c:ZC K) (x:c.T):List (Ob K):=iY.encs D c.os x.2
theorem ZC.apL (hD:dL D) {c:ZC K} {vs:List (AV K)} {x:c.T} (h:c.dec D vs H=some x):Wk D vs H (c.ain D x) (c.Xz D x):=by
 unfold ZC.dec at h;split at h
 ·rename_i a b h1 h2
  have h:=Option.some.inj h;subst h;exact ⟨(iY.ahb c.os H b h2).1,fun ρ S w us hr=>Sh.zD hD c.vs vs a h1 us hr,fun ρ S w hs=>iY.zD hD h2 hs,fun w ρ b' hb=>iY.awp hD h2 w ρ b' hb⟩
 ·cases h
end Go.V
