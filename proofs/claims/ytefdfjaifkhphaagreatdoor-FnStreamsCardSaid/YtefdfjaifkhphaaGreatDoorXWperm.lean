/-
  A REGION WHOSE ORDER IS LEFT OPEN, its operations numbered anew: what holds of the one holds of the other.
-/
import Derived.Test.YtefdfjaifkhphaaGreatDoorXWfreeB
set_option linter.unusedVariables false
namespace Go.V
open Go
theorem VR : ∀(π:List Nat),tN π=true->∀(i j k:Nat),π[i]? =some k->π[j]? =some k->i=j
 | [],_,i,j,k,h,_=>by simp at h
 |x::r,hn,i,j,k,hi,hj=>by
  simp only[tN,Bool.and_eq_true,Bool.not_eq_true',List.contains_eq_mem,decide_eq_false_iff_not] at hn
  cases i with
  |zero=>
   cases j with
   |zero=>rfl
   |succ j=>simp at hi hj;subst hi;exact absurd (List.mem_of_getElem? hj) hn.1
  |succ i=>
   cases j with
   |zero=>simp at hi hj;subst hj;exact absurd (List.mem_of_getElem? hi) hn.1
   |succ j=>rw[VR r hn.2 i j k (by simpa using hi) (by simpa using hj)]
structure F7 (π:List Nat) (ops ops':Array Oper):Prop where
 len:π.length=ops.size
 len':ops'.size=ops.size
 afJ:∀i,i<ops.size->∃j:Nat,π[j]? =some i
 inj:∀(i j k:Nat),π[i]? =some k->π[j]? =some k->i=j
 ops:∀(j i:Nat),π[j]? =some i->∃o,ops[i]? =some o /\ ops'[j]? =some (abg π ops.size o)
theorem Rl {π:List Nat} {ops:List Oper} (h:aae π ops.length=true):F7 π ops.toArray (permuted π ops).toArray:=by
 simp only[aae,Bool.and_eq_true,decide_eq_true_eq,List.all_eq_true,List.mem_range,List.contains_eq_mem] at h;obtain ⟨h1,h2,h3,h4⟩:=h;refine ⟨by simpa using h1,by simp[permuted,h1],fun i hi=> ?_,VR π h4,fun j i hj=> ?_⟩
 ·have:=h3 i (by simpa using hi)
  obtain ⟨j,hj,e⟩:=List.getElem_of_mem this;exact ⟨j,by rw[List.getElem?_eq_getElem hj,e]⟩
 ·have hi:i<ops.length:=h2 i (List.mem_of_getElem? hj)
  refine ⟨ops[i],by simp[hi], ?_⟩
  simp only[List.getElem?_toArray,permuted,List.getElem?_map,hj,Option.map_some,List.getElem?_eq_getElem hi,List.size_toArray]
section
variable {P :Program} {π:List Nat} {ops ops':Array Oper} {Q:Exit->Act->World->Prop}
theorem acx {π:List Nat} {i j:Nat} (h:π.idxOf? i=some j):π[j]? =some i:=by
 rw[List.idxOf?_eq_some_iff] at h;obtain ⟨hlt,he, -⟩:=h;rw[List.getElem?_eq_getElem hlt];simpa using he
theorem aaD {π:List Nat} {i:Nat} (h:π.idxOf? i=none):i∉π:=by
 rw[List.idxOf?_eq_none_iff] at h;exact h
structure Listed (π:List Nat) (n:Nat) (l l':Array Bool):Prop where
 sz:l.size=n
 sz':l'.size=n
 eq:∀(j i:Nat),π[j]? =some i->l'[j]? =l[i]?
theorem Listed.getD (hp:F7 π ops ops') {l l':Array Bool} (h:Listed π ops.size l l') (i:Nat):l'.getD ((π.idxOf? i).getD ops.size) false=l.getD i false:=by
 cases hx:π.idxOf? i with
 |some j=>
  have:=h.eq j i (acx hx);simp only[Option.getD_some,Array.getD_eq_getD_getElem?,this]
 |none=>
  have hi:ops.size<=i:=by
   rcases Nat.lt_or_ge i ops.size with hlt |hge
   ·obtain ⟨j,hj⟩:=hp.afJ i hlt
    exact absurd (List.mem_of_getElem? hj) (aaD hx)
   ·exact hge
  simp only[Option.getD_none,Array.getD_eq_getD_getElem?];rw[Array.getElem?_eq_none (by rw[h.sz'];exact Nat.le_refl _),Array.getElem?_eq_none (by rw[h.sz];exact hi)]
theorem mem_ready {ops:Array Oper} {l:Array Bool} {i:Nat}:i∈Region.ready .any ops l↔i<ops.size /\ l.getD i true=false /\ ∃o,ops[i]? =some o /\ (o.after.all fun e=> !Region.binds .any e||l.getD e.on false)=true:=by
 unfold Region.ready;rw[List.mem_filter,List.mem_range];constructor
 ·rintro ⟨h1,h2⟩
  rw[Bool.and_eq_true,Bool.not_eq_true'] at h2;refine ⟨h1,h2.1,ops[i],by simp[h1], ?_⟩
  have:=h2.2;rw[Array.getElem?_eq_getElem h1] at this;simpa using this
 ·rintro ⟨h1,h2,o,h3,h4⟩
  refine ⟨h1, ?_⟩;rw[Bool.and_eq_true,Bool.not_eq_true'];refine ⟨h2, ?_⟩;rw[h3];simpa using h4
theorem aaE (hp:F7 π ops ops') {l l':Array Bool} (h:Listed π ops.size l l') (o:Oper):
 ((abg π ops.size o).after.all fun e=> !Region.binds .any e||l'.getD e.on false)=(o.after.all fun e=> !Region.binds .any e||l.getD e.on false):=by
 have key:∀(L:List Edge),(((L.filter (Region.binds .any)).map fun e=>({e with on:=(π.idxOf? e.on).getD ops.size}:Edge)).all fun e=> !Region.binds .any e||l'.getD e.on false)=L.all fun e=> !Region.binds .any e||l.getD e.on false:=by
  intro L
  induction L with
  |nil=>rfl
  |cons e r ih=>
   rw[List.filter_cons,List.all_cons,<-ih]
   cases hb:Region.binds .any e with
   |false=>simp
   |true=>
    have hb':Region.binds .any {e with on:=(π.idxOf? e.on).getD ops.size}=true:=hb
    simp only[if_true,List.map_cons,List.all_cons,hb',h.getD hp]
 have:=key o.after.toList;simp only[abg];rw[<-Array.all_toList,<-Array.all_toList,Array.toList_map,Array.toList_filter];exact this
theorem VS (hp:F7 π ops ops') {l l':Array Bool} (h:Listed π ops.size l l') {i j:Nat} (hj:π[j]? =some i):j∈Region.ready .any ops' l'↔i∈Region.ready .any ops l:=by
 obtain ⟨o,ho,ho'⟩:=hp.ops j i hj;have hi:i<ops.size:=(Array.getElem?_eq_some_iff.1 ho).1;have hj':j<ops'.size:=(Array.getElem?_eq_some_iff.1 ho').1;have hl:l'.getD j true=l.getD i true:=by simp only[Array.getD_eq_getD_getElem?,h.eq j i hj]
 rw[mem_ready,mem_ready,hl];constructor
 ·rintro ⟨-,h2,o1,h3,h4⟩
  rw[ho'] at h3;simp only[Option.some.injEq] at h3;subst h3;rw[aaE hp h] at h4;exact ⟨hi,h2,o,ho,h4⟩
 ·rintro ⟨-,h2,o1,h3,h4⟩
  rw[ho] at h3;simp only[Option.some.injEq] at h3;subst h3;exact ⟨hj',h2,_,ho',by rw[aaE hp h];exact h4⟩
theorem abB (hp:F7 π ops ops') (tm:Array Value) (i:Nat):yielded ops' tm ((π.idxOf? i).getD ops.size)=yielded ops tm i:=by
 unfold yielded;have:(ops'[(π.idxOf? i).getD ops.size]?).bind (·.dst)=(ops[i]?).bind (·.dst):=by
  cases hx:π.idxOf? i with
  |some j=>
   obtain ⟨o,ho,ho'⟩:=hp.ops j i (acx hx);simp only[Option.getD_some];rw[ho,ho'];rfl
  |none=>
   have hi:ops.size<=i:=by
    rcases Nat.lt_or_ge i ops.size with hlt |hge
    ·obtain ⟨j,hj⟩:=hp.afJ i hlt
     exact absurd (List.mem_of_getElem? hj) (aaD hx)
    ·exact hge
   simp only[Option.getD_none];rw[Array.getElem?_eq_none (by rw[hp.len'];exact Nat.le_refl _),Array.getElem?_eq_none hi]
 rw[this]
theorem adg (hp:F7 π ops ops') (tm:Array Value) (o:Oper):Region.wanted (abg π ops.size o) (yielded ops' tm)=Region.wanted o (yielded ops tm):=by
 unfold Region.wanted abg
 cases hg:o.guard with
 |none=>rfl
 |some g=>simp only[Option.map_some,abB hp]
theorem afK (hp:F7 π ops ops') {i j:Nat} (hj:π[j]? =some i) {K:Act->World->Prop} {a:Act} {w:World} (h:wpOp P ops' Q j K a w):wpOp P ops Q i K a w:=by
 obtain ⟨o,ho,ho'⟩:=hp.ops j i hj;unfold wpOp at h ⊢;rw[ho'] at h;rw[ho];dsimp only at h ⊢;rw[adg hp] at h;exact h
theorem Listed.set (hp:F7 π ops ops') {l l':Array Bool} (h:Listed π ops.size l l') {i j:Nat} (hj:π[j]? =some i):Listed π ops.size (l.setIfInBounds i true) (l'.setIfInBounds j true):=by
 refine ⟨by simp[h.sz],by simp[h.sz'],fun j' i' hj'=> ?_⟩
 rw[Array.getElem?_setIfInBounds,Array.getElem?_setIfInBounds];have hb:j<l'.size↔i<l.size:=by
  have:=h.eq j i hj;constructor
  ·intro hlt
   rcases Nat.lt_or_ge i l.size with h1 |h1
   ·exact h1
   ·rw[Array.getElem?_eq_none h1,Array.getElem?_eq_getElem hlt] at this;cases this
  ·intro hlt
   rcases Nat.lt_or_ge j l'.size with h1 |h1
   ·exact h1
   ·rw[Array.getElem?_eq_none h1,Array.getElem?_eq_getElem hlt] at this;cases this
 by_cases e:j=j'
 ·subst e
  rw[hj] at hj';simp only[Option.some.injEq] at hj';subst hj';simp only[if_true]
  by_cases h1:j<l'.size
  ·rw[if_pos h1,if_pos (hb.1 h1)]
  ·rw[if_neg h1,if_neg (fun h2=>h1 (hb.2 h2))]
 ·have e':i≠i':=fun e2=>by subst e2;exact e (hp.inj j j' i hj hj')
  rw[if_neg e,if_neg e'];exact h.eq j' i' hj'
theorem abm (hp:F7 π ops ops'):∀(fuel:Nat) (l l':Array Bool) (a:Act) (w:World),Listed π ops.size l l'->wpAny P .any ops' Q fuel l' a w->wpAny P .any ops Q fuel l a w:=by
 have nil:∀{l l':Array Bool},Listed π ops.size l l'->Region.ready .any ops l=[]->Region.ready .any ops' l'=[]:=fun {l l'} h he=>by
  apply List.eq_nil_iff_forall_not_mem.2;intro j hj;have hjn:j<π.length:=by rw[hp.len,<-hp.len'];exact (mem_ready.1 hj).1
  have:=(VS hp h (List.getElem?_eq_getElem hjn)).1 hj;rw[he] at this;cases this
 have nil':∀{l l':Array Bool},Listed π ops.size l l'->Region.ready .any ops' l'=[]->Region.ready .any ops l=[]:=fun {l l'} h he=>by
  apply List.eq_nil_iff_forall_not_mem.2;intro i hi;obtain ⟨j,hj⟩:=hp.afJ i (mem_ready.1 hi).1;have:=(VS hp h hj).2 hi;rw[he] at this;cases this
 intro fuel
 induction fuel with
 |zero=>
  intro l l' a w h hw;exact ⟨nil' h hw.1,hw.2⟩
 |succ fuel ih=>
  intro l l' a w h hw;refine ⟨fun he=>hw.1 (nil h he),fun i hi=> ?_⟩
  obtain ⟨j,hj⟩:=hp.afJ i (mem_ready.1 hi).1;refine afK hp hj (wpOp_mono (fun a w=>ih _ _ a w (h.set hp hj)) (hw.2 j ((VS hp h hj).2 hi)))
end
end Go.V
