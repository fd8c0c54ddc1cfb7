/-
  A REGION WHOSE ORDER IS LEFT OPEN, its operations numbered anew: what holds of the one holds of the other.
-/
import Derived.Test.YtghkckfhaljjjaaGreatDoorXWfreeB
set_option linter.unusedVariables false
namespace Go.V
open Go
theorem Qu:∀(π:List Nat),ml π=true->∀(i j k:Nat),π[i]?=some k->π[j]?=some k->i=j
 |[],_,i,j,k,h,_=>by simp at h
 |x::r,hn,i,j,k,hi,hj=>by
  simp only[ml,cG,fk,rF,fi]at hn;cases i with
  |zero=>
   cases j with
   |zero=>rfl
   |succ j=>simp at hi hj;subst hi;exact absurd (eN hj) hn.1
  |succ i=>
   cases j with
   |zero=>simp at hi hj;subst hj;exact absurd (eN hi) hn.1
   |succ j=>rw[Qu r hn.2 i j k (by simpa using hi) (by simpa using hj)]
structure qf (π:List Nat) (ops ops':Array Oper):Prop where
 len:π.length=ops.size
 len':ops'.size=ops.size
 D8:∀i,i<ops.size->∃j:Nat,π[j]?=some i
 inj:∀(i j k:Nat),π[i]?=some k->π[j]?=some k->i=j
 ops:∀(j i:Nat),π[j]?=some i->∃o,ops[i]?=some o/\ops'[j]?=some (um π ops.size o)
theorem Pj{π:List Nat}{ops:List Oper}(h:yZ π ops.length=true):qf π ops.toArray (permuted π ops).toArray:=by
 simp only[yZ,cG,bB,fN,List.mem_range,rF]at h;obtain⟨h1,h2,h3,h4⟩:=h;refine⟨by simpa using h1,by simp[permuted,h1],fun i hi=>?_,Qu π h4,fun j i hj=>?_⟩
 ·have:=h3 i (by simpa using hi);obtain⟨j,hj,e⟩:=vY this;exact⟨j,by rw[cH hj,e]⟩
 ·have hi:i<ops.length:=h2 i (eN hj);refine⟨ops[i],by simp[hi],?_⟩;simp only[List.getElem?_toArray,permuted,ik,hj,iC,cH hi,k9]
section
variable {P :Program}{π:List Nat}{ops ops':Array Oper}{Q:Exit->Act->World->Prop}
theorem Qv{π:List Nat}{i j:Nat}(h:π.idxOf? i=some j):π[j]?=some i:=by
 rw[List.idxOf?_eq_some_iff]at h;obtain⟨hlt,he,-⟩:=h;rw[cH hlt];simpa using he
theorem Qw{π:List Nat}{i:Nat}(h:π.idxOf? i=none):i∉π:=by
 rw[List.idxOf?_eq_none_iff]at h;exact h
structure Listed (π:List Nat) (n:Nat) (l l':Array Bool):Prop where
 sz:l.size=n
 sz':l'.size=n
 eq:∀(j i:Nat),π[j]?=some i->l'[j]?=l[i]?
theorem Listed.getD(hp:qf π ops ops'){l l':Array Bool}(h:Listed π ops.size l l')(i:Nat):l'.getD ((π.idxOf? i).getD ops.size) false=l.getD i false:=by
 cases hx:π.idxOf? i with
 |some j=>
  have:=h.eq j i (Qv hx);simp only[ay,gu,this]
 |none=>
  have hi:ops.size<=i:=by
   rcases cP i ops.size with hlt|hge
   ·obtain⟨j,hj⟩:=hp.D8 i hlt;exact absurd (eN hj) (Qw hx)
   ·exact hge
  simp only[Option.getD_none,gu];rw[pV (by rw[h.sz'];exact fh _),pV (by rw[h.sz];exact hi)]
theorem mem_ready{ops:Array Oper}{l:Array Bool}{i:Nat}:i∈Region.ready .any ops l↔i<ops.size/\l.getD i true=false/\∃o,ops[i]?=some o/\(o.after.all fun e=> !Region.binds .any e||l.getD e.on false)=true:=by
 unfold Region.ready;rw[List.mem_filter,List.mem_range];constructor
 ·rintro ⟨h1,h2⟩
  rw[cG,fk]at h2;refine⟨h1,h2.1,ops[i],by simp[h1],?_⟩;have:=h2.2;rw[wm h1]at this;simpa using this
 ·rintro ⟨h1,h2,o,h3,h4⟩
  refine⟨h1,?_⟩;rw[cG,fk];refine⟨h2,?_⟩;rw[h3];simpa using h4
theorem Qx(hp:qf π ops ops'){l l':Array Bool}(h:Listed π ops.size l l')(o:Oper):
 ((um π ops.size o).after.all fun e=> !Region.binds .any e||l'.getD e.on false)=(o.after.all fun e=> !Region.binds .any e||l.getD e.on false):=by
 have key:∀(L:List Edge),(((L.filter (Region.binds .any)).map fun e=>({e with on:=(π.idxOf? e.on).getD ops.size}:Edge)).all fun e=> !Region.binds .any e||l'.getD e.on false)=L.all fun e=> !Region.binds .any e||l.getD e.on false:=by
  intro L
  induction L with
  |nil=>rfl
  |cons e r ih=>
   rw[List.filter_cons,mj,<-ih];cases hb:Region.binds .any e with
   |false=>simp
   |true=>
    have hb':Region.binds .any {e with on:=(π.idxOf? e.on).getD ops.size}=true:=hb;simp only[pW,eG,mj,hb',h.getD hp]
 have:=key o.after.toList;simp only[um];rw[<-Array.all_toList,<-Array.all_toList,Array.toList_map,Array.toList_filter];exact this
theorem Ks(hp:qf π ops ops'){l l':Array Bool}(h:Listed π ops.size l l'){i j:Nat}(hj:π[j]?=some i):j∈Region.ready .any ops' l'↔i∈Region.ready .any ops l:=by
 obtain⟨o,ho,ho'⟩:=hp.ops j i hj;have hi:i<ops.size:=(kE.1 ho).1;have hj':j<ops'.size:=(kE.1 ho').1;have hl:l'.getD j true=l.getD i true:=by simp only[gu,h.eq j i hj]
 rw[mem_ready,mem_ready,hl];constructor
 ·rintro ⟨-,h2,o1,h3,h4⟩
  rw[ho']at h3;simp only[av]at h3;subst h3;rw[Qx hp h]at h4;exact⟨hi,h2,o,ho,h4⟩
 ·rintro ⟨-,h2,o1,h3,h4⟩
  rw[ho]at h3;simp only[av]at h3;subst h3;exact⟨hj',h2,_,ho',by rw[Qx hp h];exact h4⟩
theorem afK(hp:qf π ops ops')(tm:Array Value)(i:Nat):yielded ops' tm ((π.idxOf? i).getD ops.size)=yielded ops tm i:=by
 unfold yielded;have:(ops'[(π.idxOf? i).getD ops.size]?).bind (·.dst)=(ops[i]?).bind (·.dst):=by
  cases hx:π.idxOf? i with
  |some j=>
   obtain⟨o,ho,ho'⟩:=hp.ops j i (Qv hx);simp only[ay];rw[ho,ho'];rfl
  |none=>
   have hi:ops.size<=i:=by
    rcases cP i ops.size with hlt|hge
    ·obtain⟨j,hj⟩:=hp.D8 i hlt;exact absurd (eN hj) (Qw hx)
    ·exact hge
   simp only[Option.getD_none];rw[pV (by rw[hp.len'];exact fh _),pV hi]
 rw[this]
theorem afL(hp:qf π ops ops')(tm:Array Value)(o:Oper):Region.wanted (um π ops.size o) (yielded ops' tm)=Region.wanted o (yielded ops tm):=by
 unfold Region.wanted um;cases hg:o.guard with
 |none=>rfl
 |some g=>simp only[iC,afK hp]
theorem afM(hp:qf π ops ops'){i j:Nat}(hj:π[j]?=some i){K:Act->World->Prop}{a:Act}{w:World}(h:wpOp P ops' Q j K a w):wpOp P ops Q i K a w:=by
 obtain⟨o,ho,ho'⟩:=hp.ops j i hj;unfold wpOp at h⊢;rw[ho']at h;rw[ho];dsimp only at h⊢;rw[afL hp]at h;exact h
theorem Listed.set(hp:qf π ops ops'){l l':Array Bool}(h:Listed π ops.size l l'){i j:Nat}(hj:π[j]?=some i):Listed π ops.size (l.setIfInBounds i true) (l'.setIfInBounds j true):=by
 refine⟨by simp[h.sz],by simp[h.sz'],fun j' i' hj'=>?_⟩;rw[kx,kx];have hb:j<l'.size↔i<l.size:=by
  have:=h.eq j i hj;constructor
  ·intro hlt;rcases cP i l.size with h1|h1
   ·exact h1
   ·rw[pV h1,wm hlt]at this;cases this
  ·intro hlt;rcases cP j l'.size with h1|h1
   ·exact h1
   ·rw[pV h1,wm hlt]at this;cases this
 by_cases e:j=j'
 ·subst e;rw[hj]at hj';simp only[av]at hj';subst hj';simp only[pW];by_cases h1:j<l'.size
  ·rw[aY h1,aY (hb.1 h1)]
  ·rw[aT h1,aT (fun h2=>h1 (hb.2 h2))]
 ·have e':i≠i':=fun e2=>by subst e2;exact e (hp.inj j j' i hj hj')
  rw[aT e,aT e'];exact h.eq j' i' hj'
theorem aeG(hp:qf π ops ops'):∀(fuel:Nat)(l l':Array Bool)(a:Act)(w:World),Listed π ops.size l l'->wpAny P .any ops' Q fuel l' a w->wpAny P .any ops Q fuel l a w:=by
 have nil:∀{l l':Array Bool},Listed π ops.size l l'->Region.ready .any ops l=[]->Region.ready .any ops' l'=[]:=fun{l l'} h he=>by
  apply List.eq_nil_iff_forall_not_mem.2;intro j hj;have hjn:j<π.length:=by rw[hp.len,<-hp.len'];exact(mem_ready.1 hj).1
  have:=(Ks hp h (cH hjn)).1 hj;rw[he]at this;cases this
 have nil':∀{l l':Array Bool},Listed π ops.size l l'->Region.ready .any ops' l'=[]->Region.ready .any ops l=[]:=fun{l l'} h he=>by
  apply List.eq_nil_iff_forall_not_mem.2;intro i hi;obtain⟨j,hj⟩:=hp.D8 i (mem_ready.1 hi).1;have:=(Ks hp h hj).2 hi;rw[he]at this;cases this
 intro fuel
 induction fuel with
 |zero=>
  intro l l' a w h hw;exact⟨nil' h hw.1,hw.2⟩
 |succ fuel ih=>
  intro l l' a w h hw;refine⟨fun he=>hw.1 (nil h he),fun i hi=>?_⟩;obtain⟨j,hj⟩:=hp.D8 i (mem_ready.1 hi).1;refine afM hp hj (wpOp_mono (fun a w=>ih _ _ a w (h.set hp hj)) (hw.2 j ((Ks hp h hj).2 hi)))
end
end Go.V
