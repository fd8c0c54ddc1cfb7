/-
  THE BLOCKS of a core's code, matched, in plain Lean.
-/
import Derived.Test.YtembifnelpdbkaaGreatDoorXEpl4
import Derived.Test.YtembifnelpdbkaaGreatDoorXEFM
import Derived.Test.YtembifnelpdbkaaGreatDoorXEpl5
import Derived.Test.YtembifnelpdbkaaGreatDoorXEFH
import Derived.Test.YtembifnelpdbkaaGreatDoorXEpl3
set_option linter.unusedVariables false
namespace M
open Go.V (inB xG aA bU)
def Fg (op:Int):Bool:=(op==24||op==25)||op==26
abbrev BS := List ax×List Int
def Y3 (s:BS):Nat:=(s.2.getD (s.2.length-1) 0).toNat
def gW (s:BS):ax:=s.1.getD (Y3 s) ax.zero
def opAt (c:List bH) (at_:Int):Int:=(c.getD at_.toNat bH.zero).Op
def iC (e:Int) (c:List bH) (k:Nat) (i:bH) (s:BS):Int⊕BS:=
 if Fg i.Op=true then
  if s.2.length=6 then .inl 4 else .inr (s.1++[ax.mk (k:Int) (-1) e 0 (i.A==1)],s.2++[(s.1.length:Int)])
 else if i.Op=27 then
  if s.2.length=0 then .inl 5
  else if opAt c (gW s).At≠26 \/ 0<=(gW s).Else then .inl 5
  else .inr (s.1.set (Y3 s) (ax.mk (gW s).At (k:Int) (gW s).End (gW s).Height (gW s).Result),s.2)
 else if i.Op=28 then
  if s.2.length=0 then .inl 5
  else if (opAt c (gW s).At=26 /\ (gW s).Result=true) /\ (gW s).Else<0 then .inl 7
  else .inr (s.1.set (Y3 s) (ax.mk (gW s).At (gW s).Else (k:Int) (gW s).Height (gW s).Result),s.2.take (s.2.length-1))
 else .inr s
def zW (e:Int) (c:List bH):Nat->Nat->BS->(Int×Int)⊕BS
 |0,k,s=> .inr s
 |n+1,k,s=>match iC e c k (c.getD k bH.zero) s with
  | .inl x=> .inl ((k:Int),x)
  | .inr s'=>zW e c n (k+1) s'
def strip (b:ax):ax:=ax.mk b.At b.Else 0 b.Height b.Result
def vK (s:BS):BS:=(s.1.map strip,s.2)
def agx {E A B:Type} (f:A->B):E⊕A->E⊕B
 | .inl e=> .inl e
 | .inr a=> .inr (f a)
theorem aoN (s:BS):Y3 (vK s)=Y3 s:=rfl
theorem awW (s:BS):gW (vK s)=strip (gW s):=by
 unfold gW;rw[aoN];simp only[vK,List.getD_eq_getElem?_getD,List.getElem?_map]
 cases s.1[Y3 s]?<;>rfl
theorem akD (e e':Int) (c:List bH) (k:Nat) (i:bH) (s:BS):agx vK (iC e c k i s)=agx vK (iC e' c k i (vK s)):=by
 have ht:=awW s;unfold iC;rw[aoN,ht];have h2:(vK s).2=s.2:=rfl;have hl:(vK s).1.length=s.1.length:=by simp[vK]
 rw[h2,hl];have ha:(strip (gW s)).At=(gW s).At:=rfl;have hb:(strip (gW s)).Else=(gW s).Else:=rfl;have hc:(strip (gW s)).Result=(gW s).Result:=rfl;have hd:(strip (gW s)).Height=(gW s).Height:=rfl;have he:(strip (gW s)).End=0:=rfl;rw[ha,hb,hc,hd,he];have hm:∀b:ax,strip (strip b)=strip b:=fun b=>rfl
 have hmm:∀l:List ax,(l.map strip).map strip=l.map strip:=fun l=>by rw[List.map_map];rfl
 repeat' split
 all_goals first
  |rfl
  |(simp only[agx,vK,List.map_append,List.map_set,hmm,List.map_cons,List.map_nil];try rfl)
theorem aoO (e e':Int) (c:List bH):∀(n k:Nat) (s s':BS),vK s=vK s'->agx vK (zW e c n k s)=agx vK (zW e' c n k s')
 |0,k,s,s',h=>by simp only[zW,agx,h]
 |n+1,k,s,s',h=>by
  have h1:agx vK (iC e c k (c.getD k bH.zero) s)=agx vK (iC e' c k (c.getD k bH.zero) s'):=by
   rw[akD e e' c k _ s,h,<-akD e' e' c k _ s']
  simp only[zW]
  cases hx:iC e c k (c.getD k bH.zero) s with
  |inl x=>
   cases hy:iC e' c k (c.getD k bH.zero) s' with
   |inl y=>rw[hx,hy] at h1;injection h1 with h1;rw[h1]
   |inr y=>rw[hx,hy] at h1;cases h1
  |inr x=>
   cases hy:iC e' c k (c.getD k bH.zero) s' with
   |inl y=>rw[hx,hy] at h1;cases h1
   |inr y=>
    rw[hx,hy] at h1
    injection h1 with h1
    exact aoO e e' c n (k+1) x y h1
def pr (b:ax):Int×Bool:=(b.At,b.Result)
def prS (s:BS):List (Int×Bool):=s.1.map pr
structure BInv (k:Nat) (s:BS):Prop where
 lt:∀x∈prS s,0<=x.1 /\ x.1<k
 inc:(prS s).Pairwise fun a b=>a.1<b.1
 opn:∀x∈s.2,0<=x /\ x<s.1.length
 six:s.2.length<=6
 cnt:s.1.length<=k
theorem agy {k:Nat} {s:BS} (h:BInv k s) (h0:s.2.length≠0):Y3 s<s.1.length /\ ((Y3 s:Nat):Int)=s.2.getD (s.2.length-1) 0:=by
 have hm:s.2.getD (s.2.length-1) 0∈s.2:=by rw[getD_lt (by omega)];exact List.getElem_mem _
 have:=h.opn _ hm;unfold Y3;omega
theorem awX (l:List ax) (i:Nat) (b:ax) (h:pr b=pr (l.getD i ax.zero)):(l.set i b).map pr=l.map pr:=by
 rw[List.map_set,h];apply List.ext_getElem?;intro j;rw[List.getElem?_set];split
 ·rename_i e;subst e
  split
  ·rename_i hl
   rw[List.length_map] at hl;rw[List.getElem?_map,getD_lt hl,List.getElem?_eq_getElem hl];rfl
  ·rename_i hl
   rw[List.getElem?_eq_none (by omega)]
 ·rfl
theorem Ri {e:Int} {c:List bH} {k:Nat} {i:bH} {s s':BS} (h:iC e c k i s= .inr s'):
 (Fg i.Op=true /\ s.2.length≠6 /\ prS s'=prS s++[((k:Int),i.A==1)] /\ s'.2=s.2++[(s.1.length:Int)]) \/
 (Fg i.Op=false /\ prS s'=prS s /\ ((i.Op=27 /\ s.2.length≠0 /\ s'.2=s.2) \/ (i.Op=28 /\ s.2.length≠0 /\ s'.2=s.2.take (s.2.length-1)) \/ (i.Op≠27 /\ i.Op≠28 /\ s'.2=s.2))):=by
 unfold iC at h
 by_cases ho:Fg i.Op=true
 ·rw[if_pos ho] at h
  by_cases h6:s.2.length=6
  ·rw[if_pos h6] at h;cases h
  ·rw[if_neg h6] at h
   injection h with h;subst h
   refine .inl ⟨ho,h6, ?_,rfl⟩;simp only[prS,List.map_append,List.map_cons,List.map_nil];rfl
 ·rw[if_neg ho] at h
  have ho':Fg i.Op=false:=by simpa using ho
  refine .inr ⟨ho', ?_⟩
  by_cases h27:i.Op=27
  ·rw[if_pos h27] at h
   by_cases h0:s.2.length=0
   ·rw[if_pos h0] at h;cases h
   ·rw[if_neg h0] at h
    by_cases hc:opAt c (gW s).At≠26 \/ 0<=(gW s).Else
    ·rw[if_pos hc] at h;cases h
    ·rw[if_neg hc] at h
     injection h with h;subst h
     exact ⟨awX _ _ _ rfl, .inl ⟨h27,h0,rfl⟩⟩
  ·rw[if_neg h27] at h
   by_cases h28:i.Op=28
   ·rw[if_pos h28] at h
    by_cases h0:s.2.length=0
    ·rw[if_pos h0] at h;cases h
    ·rw[if_neg h0] at h
     by_cases hc:(opAt c (gW s).At=26 /\ (gW s).Result=true) /\ (gW s).Else<0
     ·rw[if_pos hc] at h;cases h
     ·rw[if_neg hc] at h
      injection h with h;subst h
      exact ⟨awX _ _ _ rfl, .inr (.inl ⟨h28,h0,rfl⟩)⟩
   ·rw[if_neg h28] at h
    injection h with h;subst h
    exact ⟨rfl, .inr (.inr ⟨h27,h28,rfl⟩)⟩
theorem J4 {e:Int} {c:List bH} {k:Nat} {i:bH} {s s':BS} (hI:BInv k s) (h:iC e c k i s= .inr s'):BInv (k+1) s':=by
 have hlen:∀t:BS,(prS t).length=t.1.length:=fun t=>by simp[prS]
 rcases Ri h with ⟨_,h6,hp,ho⟩ |⟨_,hp,ho⟩
 ·have hl:s'.1.length=s.1.length+1:=by rw[<-hlen s',hp,List.length_append,hlen s];rfl
  refine ⟨?_, ?_, ?_, ?_,by have:=hI.cnt;omega⟩
  ·intro x hx
   rw[hp] at hx
   rcases List.mem_append.1 hx with hx |hx
   ·have:=hI.lt x hx;omega
   ·simp only[List.mem_cons,List.not_mem_nil,or_false] at hx;subst hx;simp only;omega
  ·rw[hp,List.pairwise_append]
   refine ⟨hI.inc,List.pairwise_singleton _ _, ?_⟩;intro a ha b hb;simp only[List.mem_cons,List.not_mem_nil,or_false] at hb;subst hb;exact (hI.lt a ha).2
  ·rw[ho]
   intro x hx
   rcases List.mem_append.1 hx with hx |hx
   ·have:=hI.opn x hx;omega
   ·simp only[List.mem_cons,List.not_mem_nil,or_false] at hx;subst hx;omega
  ·rw[ho,List.length_append,List.length_cons,List.length_nil];have:=hI.six;omega
 ·have hl:s'.1.length=s.1.length:=by rw[<-hlen s',hp,hlen s]
  refine ⟨?_,by rw[hp];exact hI.inc, ?_, ?_,by have:=hI.cnt;omega⟩
  ·rw[hp];intro x hx;have:=hI.lt x hx;omega
  ·rw[hl]
   rcases ho with ⟨_,_,ho⟩ |⟨_,_,ho⟩ |⟨_,_,ho⟩<;>rw[ho]
   ·exact hI.opn
   ·exact fun x hx=>hI.opn x (List.mem_of_mem_take hx)
   ·exact hI.opn
  ·rcases ho with ⟨_,_,ho⟩ |⟨_,_,ho⟩ |⟨_,_,ho⟩<;>rw[ho]
   ·exact hI.six
   ·rw[List.length_take];have:=hI.six;omega
   ·exact hI.six
theorem arU : BInv 0 ([],[]):=⟨fun x hx=>by simp[prS] at hx,by simp[prS],fun x hx=>by simp at hx,by simp,by simp⟩
theorem agz {e:Int} {c:List bH}:∀(n k:Nat) (s B:BS),BInv k s->zW e c n k s= .inr B->(∃r,prS B=prS s++r) /\ BInv (k+n) B
 |0,k,s,B,hI,h=>by
  simp only[zW] at h
  injection h with h;subst h
  exact ⟨⟨[],by simp⟩,hI⟩
 |n+1,k,s,B,hI,h=>by
  simp only[zW] at h
  cases hx:iC e c k (c.getD k bH.zero) s with
  |inl x=>rw[hx] at h;cases h
  |inr s'=>
   rw[hx] at h;obtain ⟨⟨r,hr⟩,hp⟩:=agz n (k+1) s' B (J4 hI hx) h;refine ⟨?_,by rw[show k+(n+1)=k+1+n by omega];exact hp⟩
   rcases Ri hx with ⟨_,_,hp',_⟩ |⟨_,hp',_⟩
   ·exact ⟨[((k:Int),(c.getD k bH.zero).A==1)]++r,by rw[hr,hp',List.append_assoc]⟩
   ·exact ⟨r,by rw[hr,hp']⟩
theorem aAn {L:List (Int×Bool)} (h:L.Pairwise fun a b=>a.1<b.1) {j:Nat} (hj:j<L.length) (p:Int×Bool->Bool) (hp:∀x,p x=(x.1==(L[j]).1)):L.findIdx? p=some j:=by
 rw[List.findIdx?_eq_some_iff_getElem];refine ⟨hj,by rw[hp];simp, ?_⟩
 intro i hi;have:=List.pairwise_iff_getElem.1 h i j (by omega) hj hi
 rw[hp];simp only[beq_iff_eq];omega
end M
namespace M
open Go.V (inB xG aA bU)
def vS (b:Bool):Int:=bif b then 1 else 0
theorem Bh (b:Bool):0<=vS b /\ vS b<=1:=by cases b<;>decide
structure L6 where
 Y4:Int
 op:List Int
 ba:List Int
 h:Int
 kn:Bool
def jG (s:L6):Int:=if s.ba.length=0 then 0 else s.ba.getD (s.ba.length-1) 0
def Fh (P:List (Int×Bool)) (s:L6):Int×Bool:=P.getD (s.op.getD (s.op.length-1) 0).toNat (0,false)
def xy (m:aI) (c:aJ) (i:bH) (s:L6):Bool:=
 if i.Op=2 \/ i.Op=3 \/ i.Op=4 then decide (i.A<c.Params+c.gz)
 else if i.Op=32 then decide (i.A<(m.bg.length:Int))
 else if i.Op=33 then decide (i.A<(m.ak.length:Int))
 else if i.Op=29 \/ i.Op=30 then decide (i.A<=(s.op.length:Int)) else true
def fF (m:aI) (i:bH):Int×Int:=
 if i.Op=1 \/ i.Op=2 then (0,1)
 else if i.Op=3 \/ i.Op=5 \/ i.Op=26 \/ i.Op=30 then (1,0)
 else if i.Op=4 \/ i.Op=22 \/ i.Op=34 \/ i.Op=35 \/ i.Op=36 then (1,1)
 else if i.Op=23 then (3,1)
 else if i.Op=37 \/ i.Op=38 \/ i.Op=39 then (2,0)
 else if i.Op=32 then ((m.bg.getD i.A.toNat aJ.zero).Params,vS (m.bg.getD i.A.toNat aJ.zero).Result)
 else if i.Op=33 then ((m.ak.getD i.A.toNat aF.zero).Params,vS (m.ak.getD i.A.toNat aF.zero).Result)
 else if i.Op=24 \/ i.Op=25 \/ i.Op=29 \/ i.Op=31 \/ i.Op=40 then (0,0) else (2,1)
def Cj (c:aJ) (P:List (Int×Bool)) (i:bH) (s:L6):Int:=
 if i.Op=31 then vS c.Result
 else if i.Op=29 \/ i.Op=30 then
  if (s.op.length:Int)-1-i.A<0 then vS c.Result
  else vS ((P.getD (s.op.getD ((s.op.length:Int)-1-i.A).toNat 0).toNat (0,false)).2&& !(opAt c.Code (P.getD (s.op.getD ((s.op.length:Int)-1-i.A).toNat 0).toNat (0,false)).1==25))
 else 0
def I4 (m:aI) (c:aJ) (P:List (Int×Bool)) (i:bH) (s:L6):Int⊕L6:=
 if i.Op=27 \/ i.Op=28 then
  if s.kn=true /\ s.h≠jG s+vS (Fh P s).2 then .inl 7
  else if i.Op=27 then .inr {s with kn:=true,h:=jG s}
  else if 24<jG s+vS (Fh P s).2 then .inl 4
  else .inr {s with kn:=true,h:=jG s+vS (Fh P s).2,op:=s.op.take (s.op.length-1),ba:=s.ba.take (s.ba.length-1)}
 else if s.kn=false then .inl 5
 else if xy m c i s=false then .inl 2
 else if s.h-(fF m i).1<jG s then .inl 7
 else if 24<s.h-(fF m i).1+(fF m i).2 then .inl 4
 else if s.h-(fF m i).1+(fF m i).2-Cj c P i s<jG s then .inl 7
 else .inr {
  Y4:=if Fg i.Op=true then s.Y4+1 else s.Y4
  op:=if Fg i.Op=true then s.op++[s.Y4] else s.op
  ba:=if Fg i.Op=true then s.ba++[s.h-(fF m i).1+(fF m i).2] else s.ba
  h:=s.h-(fF m i).1+(fF m i).2
  kn:= !(i.Op==29||i.Op==31||i.Op==40)}
def L8 (s:L6):bP:=if s.kn=true then bP.mk true s.h s.op else bP.mk false 0 []
def ajf (m:aI) (c:aJ) (P:List (Int×Bool)):Nat->Nat->L6->List bP->(Int×Int)⊕(L6×List bP)
 |0,k,s,a=> .inr (s,a)
 |n+1,k,s,a=>match I4 m c P (c.Code.getD k bH.zero) s with
  | .inl x=> .inl ((k:Int),x)
  | .inr s'=>ajf m c P n (k+1) s' (a++[L8 s])
structure MOk (m:aI):Prop where
 Y0:m.bg.length<=8
 imports:m.ak.length<=12
 imp:∀x∈m.ak,0<=x.Params /\ x.Params<=8
 core:∀x∈m.bg,(0<=x.Params /\ x.Params<=8) /\ (0<=x.gz /\ x.gz<=8) /\ x.Code.length<=120
 ins:∀x∈m.bg,∀i∈x.Code,(1<=i.Op /\ i.Op<=40) /\ (i.Op≠1->0<=i.A /\ i.A<=16777216)
structure avp (B:BS) (s:L6):Prop where
 op:s.op=B.2
 Y4:s.Y4=(B.1.length:Int)
 len:s.ba.length=s.op.length
 ba:∀x∈s.ba,0<=x /\ x<=24
 h:0<=s.h /\ s.h<=24
theorem aoP {B:BS} {s:L6} (h:avp B s):0<=jG s /\ jG s<=24:=by
 unfold jG
 by_cases h0:s.ba.length=0
 ·rw[if_pos h0];omega
 ·rw[if_neg h0,getD_lt (by omega)]
  exact h.ba _ (List.getElem_mem _)
theorem aoQ {m:aI} (hm:MOk m) (i:bH):(0<=(fF m i).1 /\ (fF m i).1<=8) /\ (0<=(fF m i).2 /\ (fF m i).2<=1):=by
 have hc:0<=(m.bg.getD i.A.toNat aJ.zero).Params /\ (m.bg.getD i.A.toNat aJ.zero).Params<=8:=by
  rw[List.getD_eq_getElem?_getD]
  cases h:m.bg[i.A.toNat]? with
  |none=>simp[aJ.zero]
  |some x=>exact (hm.core x (List.mem_of_getElem? h)).1
 have hi:0<=(m.ak.getD i.A.toNat aF.zero).Params /\ (m.ak.getD i.A.toNat aF.zero).Params<=8:=by
  rw[List.getD_eq_getElem?_getD]
  cases h:m.ak[i.A.toNat]? with
  |none=>simp[aF.zero]
  |some x=>exact hm.imp x (List.mem_of_getElem? h)
 have b1:=Bh (m.bg.getD i.A.toNat aJ.zero).Result;have b2:=Bh (m.ak.getD i.A.toNat aF.zero).Result;unfold fF
 repeat' split
 all_goals simp only
 all_goals omega
def aAo (m:aI) (i:bH) (s:L6):L6:={
    Y4:=if Fg i.Op=true then s.Y4+1 else s.Y4
    op:=if Fg i.Op=true then s.op++[s.Y4] else s.op
    ba:=if Fg i.Op=true then s.ba++[s.h-(fF m i).1+(fF m i).2] else s.ba
    h:=s.h-(fF m i).1+(fF m i).2
    kn:= !(i.Op==29||i.Op==31||i.Op==40)}
theorem aoR {m:aI} {c:aJ} {P:List (Int×Bool)} {i:bH} {s s':L6} (hn:¬(i.Op=27 \/ i.Op=28)) (hc:I4 m c P i s= .inr s'):
 (s.kn=true /\ xy m c i s=true /\ jG s<=s.h-(fF m i).1 /\ s.h-(fF m i).1+(fF m i).2<=24) /\ s'=aAo m i s:=by
 unfold I4 at hc;rw[if_neg hn] at hc
 by_cases q1:s.kn=false
 ·rw[if_pos q1] at hc;cases hc
 rw[if_neg q1] at hc
 by_cases q2:xy m c i s=false
 ·rw[if_pos q2] at hc;cases hc
 rw[if_neg q2] at hc
 by_cases q3:s.h-(fF m i).1<jG s
 ·rw[if_pos q3] at hc;cases hc
 rw[if_neg q3] at hc
 by_cases q4:24<s.h-(fF m i).1+(fF m i).2
 ·rw[if_pos q4] at hc;cases hc
 rw[if_neg q4] at hc
 by_cases q5:s.h-(fF m i).1+(fF m i).2-Cj c P i s<jG s
 ·rw[if_pos q5] at hc;cases hc
 rw[if_neg q5] at hc
 injection hc with hc
 exact ⟨⟨by simpa using q1,by simpa using q2,by omega,by omega⟩,hc.symm⟩
theorem arV {m:aI} {c:aJ} {P:List (Int×Bool)} {i:bH} {e:Int} {code:List bH} {k:Nat} {B B':BS} {s s':L6} (hm:MOk m) (hI:avp B s) (hb:iC e code k i B= .inr B') (hc:I4 m c P i s= .inr s'):avp B' s':=by
 have hbl:=aoP hI;have htk:=aoQ hm i;have hbit:=Bh (Fh P s).2;have hlen:∀t:BS,(prS t).length=t.1.length:=fun t=>by simp[prS]
 rcases Ri hb with ⟨ho,h6,hp,hop⟩ |⟨ho,hp,hop⟩
 ·have hn:¬(i.Op=27 \/ i.Op=28):=by
   unfold Fg at ho;simp only[Bool.or_eq_true,beq_iff_eq] at ho;omega
  have hl:B'.1.length=B.1.length+1:=by rw[<-hlen B',hp,List.length_append,hlen B];rfl
  obtain ⟨⟨q1,q2,q3,q4⟩,rfl⟩:=aoR hn hc;unfold aAo;refine ⟨?_, ?_, ?_, ?_, ?_⟩
  ·rw[hop,<-hI.op,<-hI.Y4];simp only[ho,if_true]
  ·simp only[ho,if_true,hI.Y4];omega
  ·simp only[ho,if_true,List.length_append,hI.len,List.length_cons,List.length_nil]
  ·simp only[ho,if_true]
   intro x hx
   rcases List.mem_append.1 hx with hx |hx
   ·exact hI.ba x hx
   ·simp only[List.mem_cons,List.not_mem_nil,or_false] at hx;subst hx;omega
  ·simp only;omega
 ·have hl:B'.1.length=B.1.length:=by rw[<-hlen B',hp,hlen B]
  by_cases hn:i.Op=27 \/ i.Op=28
  ·unfold I4 at hc
   rw[if_pos hn] at hc;split at hc
   ·cases hc
   ·split at hc
    ·rename_i q1 q2
     injection hc with hc
     subst hc;have h2:B'.2=B.2:=by
      rcases hop with ⟨_,_,h⟩ |⟨h,_,_⟩ |⟨h,_,_⟩
      ·exact h
      ·omega
      ·omega
     exact ⟨by rw[h2];exact hI.op,by rw[hl];exact hI.Y4,hI.len,hI.ba,hbl⟩
    ·split at hc
     ·cases hc
     ·rename_i q1 q2 q3
      injection hc with hc
      subst hc;have h2:B'.2=B.2.take (B.2.length-1):=by
       rcases hop with ⟨h,_,_⟩ |⟨_,_,h⟩ |⟨_,h,_⟩
       ·omega
       ·exact h
       ·omega
      refine ⟨by rw[h2,<-hI.op],by rw[hl];exact hI.Y4, ?_, ?_, ?_⟩
      ·simp only[List.length_take,hI.len]
      ·simp only;exact fun x hx=>hI.ba x (List.mem_of_mem_take hx)
      ·simp only;omega
  ·have h2:B'.2=B.2:=by
    rcases hop with ⟨h,_,_⟩ |⟨h,_,_⟩ |⟨_,_,h⟩
    ·omega
    ·omega
    ·exact h
   obtain ⟨⟨q1,q2,q3,q4⟩,rfl⟩:=aoR hn hc;unfold aAo;have hof:¬(Fg i.Op=true):=by rw[ho];simp
   refine ⟨?_, ?_, ?_, ?_, ?_⟩
   ·rw[h2];simp only[ho,if_false,Bool.false_eq_true];exact hI.op
   ·simp only[ho,if_false,Bool.false_eq_true,hl];exact hI.Y4
   ·simp only[ho,if_false,Bool.false_eq_true,hI.len]
   ·simp only[ho,if_false,Bool.false_eq_true];exact hI.ba
   ·simp only;omega
end M
set_option linter.unusedSimpArgs false
namespace M
open Go.V (inB xG aA bU)
theorem am4 {k:Nat} {s:BS} (h:BInv k s) (h0:s.2.length≠0):0<=(gW s).At /\ (gW s).At<k:=by
 have h1:=(agy h h0).1;have hm:pr (gW s)∈prS s:=by
  unfold gW prS;rw[getD_lt h1];exact List.mem_map.2 ⟨_,List.getElem_mem h1,rfl⟩
 exact h.lt _ hm
theorem Hz {n:Nat} (h0:n≠0) (h:n<=6):Go.IntKind.wrap .i64 ((n:Int)-1)=((n-1:Nat):Int):=by rw[wrap_i64 (by omega) (by omega)];omega
theorem JM {x:Int} {n:Nat} (h:0<=x /\ x<n):inB x n=true:=by
 obtain ⟨a,rfl⟩:=Int.eq_ofNat_of_zero_le h.1;rw[bf,decide_eq_true_eq];omega
theorem acD (c:aJ) (hn:c.Code.length<=120):∀(f k:Nat) (s:BS),k<=c.Code.length->c.Code.length-k<f->BInv k s->
 M.jM c f (k:Int) s.1 s.2=some (match zW (-1) c.Code (c.Code.length-k) k s with
   | .inl p=> .inl (p.1,p.2,[])
   | .inr s'=> .inr (c,s'.1,s'.2))
 |0,k,s,h1,h2,_=>by omega
 |f+1,k,s,h1,h2,hI=>by
  rw[M.jM]
  rcases Nat.lt_or_ge k c.Code.length with hk |hk
  ·obtain ⟨r,hr⟩:∃r,c.Code.length-k=r+1:=⟨c.Code.length-k-1,by omega⟩
   have hr':c.Code.length-(k+1)=r:=by omega
   have ih:=fun s' h=>acD c hn f (k+1) s' (by omega) (by omega) h
   rw[hr'] at ih;rw[hr];simp only[zW];have hinv:=fun s' h=>J4 (e:= -1) (c:=c.Code) (i:=c.Code.getD k bH.zero) (s':=s') hI h
   have hw:Go.IntKind.wrap .i64 ((k:Int)+1)=((k+1:Nat):Int):=df hk (by omega)
   have h6:=hI.six;have hcnt:=hI.cnt;simp only[Int.toNat_natCast,bf,Int.ofNat_lt,hk,decide_true,cond_true,Bool.and_true,hw]
   generalize hi:c.Code.getD k bH.zero=i at hinv ⊢
   rw[show (i.Op==24||i.Op==25||i.Op==26)=Fg i.Op from rfl]
   by_cases ho:Fg i.Op=true
   ·rw[ho,cond_true]
    by_cases hl:s.2.length=6
    ·have hb:iC (-1) c.Code k i s= .inl 4:=by unfold iC;rw[if_pos ho,if_pos hl]
     rw[hb,hl];rfl
    ·have hb:iC (-1) c.Code k i s= .inr (s.1++[ax.mk (k:Int) (-1) (-1) 0 (i.A==1)],s.2++[(s.1.length:Int)]):=by unfold iC;rw[if_pos ho,if_neg hl]
     have q:(((s.2.length:Nat):Int)==6)=false:=by rw[beq_eq_false_iff_ne];omega
     have d1:decide (s.1.length+1<=1073741824)=true:=by rw[decide_eq_true_eq];omega
     have d2:decide (s.2.length+1<=1073741824)=true:=by rw[decide_eq_true_eq];omega
     have:=ih _ (hinv _ hb);simp only[q,cond_false,List.length_cons,List.length_nil,Nat.zero_add,d1,d2,Bool.and_self,cond_true];rw[hb];exact this
   ·have ho':Fg i.Op=false:=by simpa using ho
    rw[ho',cond_false]
    by_cases h27:i.Op=27
    ·have b27:(i.Op==27)=true:=by rw[h27];rfl
     rw[b27,cond_true]
     by_cases h0:s.2.length=0
     ·have hb:iC (-1) c.Code k i s= .inl 5:=by unfold iC;rw[if_neg ho,if_pos h27,if_pos h0]
      rw[hb];simp[h0]
     ·have ht:=agy hI h0
      have hat:=am4 hI h0;have q:(((s.2.length:Nat):Int)==0)=false:=by rw[beq_eq_false_iff_ne];omega
      have e1:=ht.2.symm;have hA:inB (gW s).At c.Code.length=true:=JM ⟨hat.1,by omega⟩
      have hS:s.2.length-1<s.2.length:=by omega
      simp only[q,Bool.false_or,Hz h0 h6,Int.toNat_natCast,e1,bf,ht.1,hS,decide_true];rw[show List.getD s.1 (Y3 s) ax.zero=gW s from rfl,show (List.getD c.Code (Int.toNat (gW s).At) bH.zero).Op=opAt c.Code (gW s).At from rfl,hA]
      by_cases hc:opAt c.Code (gW s).At≠26 \/ 0<=(gW s).Else
      ·have hb:iC (-1) c.Code k i s= .inl 5:=by unfold iC;rw[if_neg ho,if_pos h27,if_neg h0,if_pos hc]
       have hq:((opAt c.Code (gW s).At !=26)||decide (0<=(gW s).Else))=true:=by rw[Bool.or_eq_true,bne_iff_ne,decide_eq_true_eq];exact hc
       rw[hb,hq];simp
      ·have hb:iC (-1) c.Code k i s= .inr (s.1.set (Y3 s) (ax.mk (gW s).At (k:Int) (gW s).End (gW s).Height (gW s).Result),s.2):=by unfold iC;rw[if_neg ho,if_pos h27,if_neg h0,if_neg hc]
       have hq:((opAt c.Code (gW s).At !=26)||decide (0<=(gW s).Else))=false:=by
        rw[Bool.eq_false_iff,ne_eq,Bool.or_eq_true,bne_iff_ne,decide_eq_true_eq];exact hc
       have:=ih _ (hinv _ hb);rw[hb,hq];simp only[cond_false,Bool.true_or,Bool.and_self,cond_true];exact this
    ·have b27:(i.Op==27)=false:=by rw[beq_eq_false_iff_ne];exact h27
     rw[b27,cond_false]
     by_cases h28:i.Op=28
     ·have b28:(i.Op==28)=true:=by rw[h28];rfl
      rw[b28,cond_true]
      by_cases h0:s.2.length=0
      ·have hb:iC (-1) c.Code k i s= .inl 5:=by unfold iC;rw[if_neg ho,if_neg h27,if_pos h28,if_pos h0]
       rw[hb,h0];rfl
      ·have ht:=agy hI h0
       have hat:=am4 hI h0;have q:(((s.2.length:Nat):Int)==0)=false:=by rw[beq_eq_false_iff_ne];omega
       have e1:=ht.2.symm;have hA:inB (gW s).At c.Code.length=true:=JM ⟨hat.1,by omega⟩
       have hS:s.2.length-1<s.2.length:=by omega
       have hsl:xG (0:Int) ((s.2.length-1:Nat):Int) s.2.length=true:=by unfold xG;simp
       simp only[q,cond_false,Hz h0 h6,Int.toNat_natCast,e1,bf,ht.1,hS,decide_true,hsl];rw[show List.getD s.1 (Y3 s) ax.zero=gW s from rfl,show (List.getD c.Code (Int.toNat (gW s).At) bH.zero).Op=opAt c.Code (gW s).At from rfl,hA]
       by_cases hc:(opAt c.Code (gW s).At=26 /\ (gW s).Result=true) /\ (gW s).Else<0
       ·have hb:iC (-1) c.Code k i s= .inl 7:=by unfold iC;rw[if_neg ho,if_neg h27,if_pos h28,if_neg h0,if_pos hc]
        have hq:(((opAt c.Code (gW s).At==26)&&(gW s).Result)&&decide ((gW s).Else<0))=true:=by rw[Bool.and_eq_true,Bool.and_eq_true,beq_iff_eq,decide_eq_true_eq];exact hc
        rw[hb,hq];rfl
       ·have hb:iC (-1) c.Code k i s= .inr (s.1.set (Y3 s) (ax.mk (gW s).At (gW s).Else (k:Int) (gW s).Height (gW s).Result),s.2.take (s.2.length-1)):=by unfold iC;rw[if_neg ho,if_neg h27,if_pos h28,if_neg h0,if_neg hc]
        have hq:(((opAt c.Code (gW s).At==26)&&(gW s).Result)&&decide ((gW s).Else<0))=false:=by rw[Bool.eq_false_iff,ne_eq,Bool.and_eq_true,Bool.and_eq_true,beq_iff_eq,decide_eq_true_eq];exact hc
        have:=ih _ (hinv _ hb);rw[hb,hq];simp only[cond_false,Bool.and_self,cond_true];exact this
     ·have b28:(i.Op==28)=false:=by rw[beq_eq_false_iff_ne];exact h28
      have hb:iC (-1) c.Code k i s= .inr s:=by unfold iC;rw[if_neg ho,if_neg h27,if_neg h28]
      have:=ih _ (hinv _ hb);rw[b28,cond_false,hb];exact this
  ·have:k=c.Code.length:=by omega
   subst this;simp[zW]
def yu (e:Int) (c:aJ):(Int×Int)⊕List ax:=
 match zW e c.Code c.Code.length 0 ([],[]) with
 | .inl p=> .inl p
 | .inr s=>if s.2.length=0 then .inr s.1 else .inl ((c.Code.length:Int),5)
theorem aAp (c:aJ) (hn:c.Code.length<=120):M.G8 c=some (match yu (-1) c with
 | .inl p=>(p.1,p.2,[])
 | .inr b=>(0,0,b)):=by
 unfold M.G8 yu;have e:=acD c hn aA 0 ([],[]) (Nat.zero_le _) (by have:=bU;omega) arU
 have e':M.jM c aA 0 [] []=_:=e;rw[e',Nat.sub_zero]
 cases h:zW (-1) c.Code c.Code.length 0 ([],[]) with
 |inl p=>rfl
 |inr s=>
  simp only
  by_cases h0:s.2.length=0
  ·rw[if_pos h0,h0];rfl
  ·rw[if_neg h0]
   have:decide ((0:Int)<((s.2.length:Nat):Int))=true:=by rw[decide_eq_true_eq];omega
   rw[this];rfl
end M
namespace M
open Go.V (inB xG aA bU)
theorem arW (b:Bool):M.qC b=some (vS b):=by cases b<;>rfl
theorem ax5 (b:Bool):M.Qy b=some (vS b):=by cases b<;>rfl
theorem aEd {b c:Bool}:(bif b then b else c)=(b||c):=by cases b<;>rfl
theorem ax6 {K:Int} (h:1<=K /\ K<=40):K=1 \/ K=2 \/ K=3 \/ K=4 \/ K=5 \/ K=6 \/ K=7 \/ K=8 \/ K=9 \/ K=10 \/ K=11 \/ K=12 \/ K=13 \/ K=14 \/ K=15 \/ K=16 \/ K=17 \/ K=18 \/ K=19 \/ K=20 \/ K=21 \/ K=22 \/ K=23 \/ K=24 \/ K=25 \/ K=26 \/ K=27 \/ K=28 \/ K=29 \/ K=30 \/ K=31 \/ K=32 \/ K=33 \/ K=34 \/ K=35 \/ K=36 \/ K=37 \/ K=38 \/ K=39 \/ K=40:=by omega
theorem aCj (m:aI) (c:aJ) (i:bH) (s:L6) (h1:0<=c.Params /\ c.Params<=8) (h2:0<=c.gz /\ c.gz<=8) (hi:1<=i.Op /\ i.Op<=40):M.Lj m c i (s.op.length:Int)=some (xy m c i s):=by
 obtain ⟨K,A⟩:=i;have hw:Go.IntKind.wrap .i64 (c.Params+c.gz)=c.Params+c.gz:=wrap_i64 (by omega) (by omega)
 unfold M.Lj;rw[hw];simp only at hi
 rcases ax6 hi with rfl|rfl|rfl|rfl|rfl|rfl|rfl|rfl|rfl|rfl|rfl|rfl|rfl|rfl|rfl|rfl|rfl|rfl|rfl|rfl|rfl|rfl|rfl|rfl|rfl|rfl|rfl|rfl|rfl|rfl|rfl|rfl|rfl|rfl|rfl|rfl|rfl|rfl|rfl|rfl<;>rfl
theorem aAq (m:aI) (c:aJ) (bl:List ax) (i:bH) (s:L6) (h1:0<=c.Params /\ c.Params<=8) (h2:0<=c.gz /\ c.gz<=8) (hi:1<=i.Op /\ i.Op<=40):
 M.vk (M.fC.mk m c bl s.Y4 s.op s.ba s.h s.kn) i=some (xy m c i s):=by
 obtain ⟨K,A⟩:=i;have hw:Go.IntKind.wrap .i64 (c.Params+c.gz)=c.Params+c.gz:=wrap_i64 (by omega) (by omega)
 unfold M.vk;simp only[hw];simp only at hi
 rcases ax6 hi with rfl|rfl|rfl|rfl|rfl|rfl|rfl|rfl|rfl|rfl|rfl|rfl|rfl|rfl|rfl|rfl|rfl|rfl|rfl|rfl|rfl|rfl|rfl|rfl|rfl|rfl|rfl|rfl|rfl|rfl|rfl|rfl|rfl|rfl|rfl|rfl|rfl|rfl|rfl|rfl<;>rfl
theorem aDh (m:aI) (c:aJ) (i:bH) (s:L6) (hi:1<=i.Op /\ i.Op<=40) (hA:i.Op≠1->0<=i.A) (hn:i.Op≠27 /\ i.Op≠28) (ht:xy m c i s=true):M.Qw m i=some (fF m i):=by
 obtain ⟨K,A⟩:=i;simp only at hi hA hn;unfold M.Qw;simp only[arW]
 rcases ax6 hi with rfl|rfl|rfl|rfl|rfl|rfl|rfl|rfl|rfl|rfl|rfl|rfl|rfl|rfl|rfl|rfl|rfl|rfl|rfl|rfl|rfl|rfl|rfl|rfl|rfl|rfl|rfl|rfl|rfl|rfl|rfl|h32|h33|rfl|rfl|rfl|rfl|rfl|rfl|rfl
 case inr.inr.inr.inr.inr.inr.inr.inr.inr.inr.inr.inr.inr.inr.inr.inr.inr.inr.inr.inr.inr.inr.inr.inr.inr.inr.inr.inr.inr.inr.inr.inl=>
  subst h32;have hl:A<(m.bg.length:Int):=by
   have:xy m c ⟨32,A⟩ s=decide (A<(m.bg.length:Int)):=rfl;rw[this,decide_eq_true_eq] at ht;exact ht
  have hb:inB A m.bg.length=true:=JM ⟨hA (by omega),hl⟩
  simp only[hb,Option.isSome_some,Option.getD_some]
  rfl
 case inr.inr.inr.inr.inr.inr.inr.inr.inr.inr.inr.inr.inr.inr.inr.inr.inr.inr.inr.inr.inr.inr.inr.inr.inr.inr.inr.inr.inr.inr.inr.inr.inl=>
  subst h33;have hl:A<(m.ak.length:Int):=by
   have:xy m c ⟨33,A⟩ s=decide (A<(m.ak.length:Int)):=rfl;rw[this,decide_eq_true_eq] at ht;exact ht
  have hb:inB A m.ak.length=true:=JM ⟨hA (by omega),hl⟩
  simp only[hb,Option.isSome_some,Option.getD_some]
  rfl
 all_goals first |rfl |(exfalso;omega)
theorem aAr (m:aI) (c:aJ) (bl:List ax) (i:bH) (s:L6) (hi:1<=i.Op /\ i.Op<=40) (hA:i.Op≠1->0<=i.A) (hn:i.Op≠27 /\ i.Op≠28) (ht:xy m c i s=true):
 M.vz (M.fC.mk m c bl s.Y4 s.op s.ba s.h s.kn) i=some (fF m i):=by
 obtain ⟨K,A⟩:=i;simp only at hi hA hn;unfold M.vz;simp only[ax5]
 rcases ax6 hi with rfl|rfl|rfl|rfl|rfl|rfl|rfl|rfl|rfl|rfl|rfl|rfl|rfl|rfl|rfl|rfl|rfl|rfl|rfl|rfl|rfl|rfl|rfl|rfl|rfl|rfl|rfl|rfl|rfl|rfl|rfl|h32|h33|rfl|rfl|rfl|rfl|rfl|rfl|rfl
 case inr.inr.inr.inr.inr.inr.inr.inr.inr.inr.inr.inr.inr.inr.inr.inr.inr.inr.inr.inr.inr.inr.inr.inr.inr.inr.inr.inr.inr.inr.inr.inl=>
  subst h32;have hl:A<(m.bg.length:Int):=by
   have:xy m c ⟨32,A⟩ s=decide (A<(m.bg.length:Int)):=rfl;rw[this,decide_eq_true_eq] at ht;exact ht
  have hb:inB A m.bg.length=true:=JM ⟨hA (by omega),hl⟩
  simp only[hb,Option.isSome_some,Option.getD_some]
  rfl
 case inr.inr.inr.inr.inr.inr.inr.inr.inr.inr.inr.inr.inr.inr.inr.inr.inr.inr.inr.inr.inr.inr.inr.inr.inr.inr.inr.inr.inr.inr.inr.inr.inl=>
  subst h33;have hl:A<(m.ak.length:Int):=by
   have:xy m c ⟨33,A⟩ s=decide (A<(m.ak.length:Int)):=rfl;rw[this,decide_eq_true_eq] at ht;exact ht
  have hb:inB A m.ak.length=true:=JM ⟨hA (by omega),hl⟩
  simp only[hb,Option.isSome_some,Option.getD_some]
  rfl
 all_goals first |rfl |(exfalso;omega)
end M
namespace M
open Go.V (inB xG aA bU)
theorem am5 (l:List ax) (j:Nat):(l.map pr).getD j (0,false)=pr (l.getD j ax.zero):=by
 rw[List.getD_eq_getElem?_getD,List.getD_eq_getElem?_getD,List.getElem?_map]
 cases l[j]?<;>rfl
def PIn (c:aJ) (P:List (Int×Bool)):Prop:=∀x∈P,0<=x.1 /\ x.1<(c.Code.length:Int)
theorem at_in {c:aJ} {P:List (Int×Bool)} (hP:PIn c P) {o:List ax} (ho:o.map pr=P) {j:Nat} (hj:j<o.length):inB (o.getD j ax.zero).At c.Code.length=true:=by
 refine JM (hP (pr (o.getD j ax.zero)) ?_);rw[<-ho,getD_lt hj];exact List.mem_map.2 ⟨_,List.getElem_mem hj,rfl⟩
structure awY (P:List (Int×Bool)) (s:L6) (o1:List ax):Prop where
 pr:o1.map pr=P
 ht:∀j,j<s.op.length->(o1.getD (s.op.getD j 0).toNat ax.zero).Height=s.ba.getD j 0
structure SIn (P:List (Int×Bool)) (s:L6):Prop where
 op:∀x∈s.op,0<=x /\ x<(P.length:Int)
 six:s.op.length<=6
 len:s.ba.length=s.op.length
theorem SIn.at_ {P:List (Int×Bool)} {s:L6} (h:SIn P s) {j:Nat} (hj:j<s.op.length):(s.op.getD j 0).toNat<P.length /\ (((s.op.getD j 0).toNat:Nat):Int)=s.op.getD j 0:=by
 have:=h.op (s.op.getD j 0) (by rw[getD_lt hj];exact List.getElem_mem hj)
 omega
theorem aDi {P:List (Int×Bool)} {s:L6} {o1:List ax} (hr:awY P s o1) (hi:SIn P s) (m:aI) (c:aJ) (h:Int) (d:Bool):M.Cc (M.mi.mk m c o1 s.op h d)=some (jG s):=by
 unfold M.Cc jG;simp only
 by_cases h0:s.op.length=0
 ·rw[h0,if_pos (by rw[hi.len];exact h0)];rfl
 ·have hp:decide ((0:Int)<((s.op.length:Nat):Int))=true:=by rw[decide_eq_true_eq];omega
  have hj:s.op.length-1<s.op.length:=by omega
  obtain ⟨h1,h2⟩:=hi.at_ hj;have hl:o1.length=P.length:=by rw[<-hr.pr,List.length_map]
  have e:=hr.ht _ hj;rw[if_neg (by rw[hi.len];exact h0),hp,cond_true,Hz h0 hi.six,Int.toNat_natCast,hi.len]
  rw[<-e,<-h2];simp only[bf,Int.toNat_natCast,hl,h1,hj,decide_true,Bool.and_self,cond_true]
theorem aAs (s:L6) (h6:s.ba.length<=6) (m:aI) (c:aJ) (bl:List ax):M.qE (M.fC.mk m c bl s.Y4 s.op s.ba s.h s.kn)=some (jG s):=by
 unfold M.qE jG;simp only
 by_cases h0:s.ba.length=0
 ·rw[if_pos h0,h0];rfl
 ·have q:(((s.ba.length:Nat):Int)==0)=false:=by rw[beq_eq_false_iff_ne];omega
  rw[if_neg h0,q,cond_false,Hz h0 h6,Int.toNat_natCast,bf,decide_eq_true (by omega:s.ba.length-1<s.ba.length)]
  rfl
theorem ay5 {m:aI} {c:aJ} {P:List (Int×Bool)} (hP:PIn c P) {bl:List ax} (hb:bl.map pr=P) {s:L6} (hi:SIn P s) (i:bH) (hA:i.Op≠1->0<=i.A) (ht:xy m c i s=true):
 M.sQ (M.fC.mk m c bl s.Y4 s.op s.ba s.h s.kn) i=some (Cj c P i s):=by
 unfold M.sQ Cj;simp only[ax5,Option.isSome_some,Option.getD_some,Bool.and_true,Bool.true_and,cond_true]
 by_cases h31:i.Op=31
 ·rw[if_pos h31,h31];rfl
 ·have q31:(i.Op==31)=false:=by rw[beq_eq_false_iff_ne];exact h31
  rw[if_neg h31,q31,cond_false,aEd]
  by_cases hbr:i.Op=29 \/ i.Op=30
  ·have qbr:(i.Op==29||i.Op==30)=true:=by rw[Bool.or_eq_true,beq_iff_eq,beq_iff_eq];exact hbr
   rw[if_pos hbr,qbr,cond_true];have hA0:0<=i.A:=hA (by omega)
   have hle:i.A<=(s.op.length:Int):=by
    unfold xy at ht;rw[if_neg (by omega),if_neg (by omega),if_neg (by omega),if_pos hbr,decide_eq_true_eq] at ht
    exact ht
   have h6:=hi.six;have hw:Go.IntKind.wrap .i64 (Go.IntKind.wrap .i64 ((s.op.length:Int)-1)-i.A)=(s.op.length:Int)-1-i.A:=by
    rw[wrap_i64 (n:=(s.op.length:Int)-1) (by omega) (by omega),wrap_i64 (by omega) (by omega)]
   rw[hw]
   by_cases hd:(s.op.length:Int)-1-i.A<0
   ·rw[if_pos hd,decide_eq_true hd,cond_true]
   ·rw[if_neg hd,decide_eq_false hd,cond_false]
    obtain ⟨j,hj⟩:=Int.eq_ofNat_of_zero_le (by omega:0<=(s.op.length:Int)-1-i.A)
    rw[hj];have hjl:j<s.op.length:=by omega
    obtain ⟨h1,h2⟩:=hi.at_ hjl;have hl:bl.length=P.length:=by rw[<-hb,List.length_map]
    have hat:=at_in hP hb (j:=(s.op.getD j 0).toNat) (by rw[hl];exact h1)
    have hin:inB (s.op.getD j 0) bl.length=true:=by rw[<-h2,bf,decide_eq_true_eq,hl];exact h1
    simp only[Int.toNat_natCast,hat,hin,bf,hjl,decide_true,Bool.true_or,Bool.and_self,cond_true];rw[<-hb,am5]
    rfl
  ·have qbr:(i.Op==29||i.Op==30)=false:=by rw[Bool.eq_false_iff,ne_eq,Bool.or_eq_true,beq_iff_eq,beq_iff_eq];exact hbr
   rw[if_neg hbr,qbr,cond_false]
theorem ay6 {m:aI} {c:aJ} {P:List (Int×Bool)} (hP:PIn c P) {o1:List ax} (hb:o1.map pr=P) {s:L6} (hi:SIn P s) (i:bH) (hA:0<=i.A) (hbr:i.Op=29 \/ i.Op=30) (ht:xy m c i s=true) (h:Int) (d:Bool):
 M.nJ (M.mi.mk m c o1 s.op h d) i.A=some (Cj c P i s):=by
 unfold M.nJ Cj;simp only[arW,Option.isSome_some,Option.getD_some,Bool.and_true,Bool.true_and,cond_true];rw[if_neg (by omega),if_pos hbr]
 have hle:i.A<=(s.op.length:Int):=by
  unfold xy at ht;rw[if_neg (by omega),if_neg (by omega),if_neg (by omega),if_pos hbr,decide_eq_true_eq] at ht
  exact ht
 have h6:=hi.six
 by_cases hd:i.A=(s.op.length:Int)
 ·rw[if_pos (by omega),hd,beq_self_eq_true,cond_true]
 ·have q:(i.A==(s.op.length:Int))=false:=by rw[beq_eq_false_iff_ne];exact hd
  rw[if_neg (by omega),q,cond_false]
  have hw:Go.IntKind.wrap .i64 (Go.IntKind.wrap .i64 ((s.op.length:Int)-1)-i.A)=(s.op.length:Int)-1-i.A:=by
   rw[wrap_i64 (n:=(s.op.length:Int)-1) (by omega) (by omega),wrap_i64 (by omega) (by omega)]
  rw[hw];obtain ⟨j,hj⟩:=Int.eq_ofNat_of_zero_le (by omega:0<=(s.op.length:Int)-1-i.A)
  rw[hj];have hjl:j<s.op.length:=by omega
  obtain ⟨h1,h2⟩:=hi.at_ hjl;have hl:o1.length=P.length:=by rw[<-hb,List.length_map]
  have hat:=at_in hP hb (j:=(s.op.getD j 0).toNat) (by rw[hl];exact h1)
  have hin:inB (s.op.getD j 0) o1.length=true:=by rw[<-h2,bf,decide_eq_true_eq,hl];exact h1
  simp only[Int.toNat_natCast,hat,hin,bf,hjl,decide_true,Bool.and_self,cond_true];rw[<-hb,am5]
  show _=some (vS ((pr (o1.getD (s.op.getD j 0).toNat ax.zero)).2&& !(opAt c.Code (pr (o1.getD (s.op.getD j 0).toNat ax.zero)).1==25)))
  have e1:(pr (o1.getD (s.op.getD j 0).toNat ax.zero)).1=(o1.getD (s.op.getD j 0).toNat ax.zero).At:=rfl;have e2:(pr (o1.getD (s.op.getD j 0).toNat ax.zero)).2=(o1.getD (s.op.getD j 0).toNat ax.zero).Result:=rfl;rw[e1,e2]
  show (bif (opAt c.Code (o1.getD (s.op.getD j 0).toNat ax.zero).At==25) then some (0:Int) else some (vS (o1.getD (s.op.getD j 0).toNat ax.zero).Result))=_
  cases (opAt c.Code (o1.getD (s.op.getD j 0).toNat ax.zero).At==25)<;>cases (o1.getD (s.op.getD j 0).toNat ax.zero).Result<;>rfl
theorem aAt {P:List (Int×Bool)} {o1:List ax} (hb:o1.map pr=P) (azU:P.Pairwise fun a b=>a.1<b.1) (hlen:P.length<2^62) {j k:Nat} (hj:j<P.length) (hk:(P[j]).1=(k:Int)) (m:aI) (c:aJ) (op:List Int) (h:Int) (d:Bool):
 M.AA (M.mi.mk m c o1 op h d) (k:Int)=some (j:Int):=by
 have hl:o1.length=P.length:=by rw[<-hb,List.length_map]
 have e:=ik (p:=fun b:ax=>b.At==(k:Int)) (F:=M.lZ (M.mi.mk m c o1 op h d) (k:Int)) (e:=()) (fun k=>k) o1 (by omega) (fun f q hq=>by
  rw[M.lZ];simp only[getD_lt hq,Int.toNat_natCast,bf,Int.ofNat_lt,hq,decide_true,cond_true,Bool.and_true,df hq (by omega:o1.length<2^62)]) (fun f=>by
  rw[M.lZ];simp)
 have e2:o1.findIdx? (fun b:ax=>b.At==(k:Int))=some j:=by
  have h1:=aAn azU hj (fun x=>x.1==(k:Int)) (fun x=>by rw[hk])
  rw[<-hb,List.findIdx?_map] at h1;exact h1
 unfold M.AA;rw[e,e2]
end M
namespace M
open Go.V (inB xG aA bU)
abbrev RS := Int×List aF×List aJ×List UInt8×Int×Int×Bool×List bH×Int×Bool×List ax×List Int
def stS (m:aI) (c:aJ) (s:L6) (o1:List ax):RS:=(m.ja,m.ak,m.bg,c.Name,c.Params,c.gz,c.Result,c.Code,s.h, !s.kn,o1,s.op)
theorem aAu (m:aI):M.aI.mk m.ja m.ak m.bg=m:=rfl
theorem aAv (c:aJ):M.aJ.mk c.Name c.Params c.gz c.Result c.Code=c:=rfl
structure At_ (m:aI) (c:aJ) (P:List (Int×Bool)) (e:Int) (k:Nat) (i:bH) (B B':BS) (s:L6):Prop where
 mok:MOk m
 core:c∈m.bg
 pin:PIn c P
 inc:P.Pairwise fun a b=>a.1<b.1
 pl:P.length<=120
 hk:k<c.Code.length
 hi:c.Code.getD k bH.zero=i
 ajg:avp B s
 aAx:BInv k B
 step:iC e c.Code k i B= .inr B'
 pre:∃r,P=prS B'++r
theorem At_.sin {m:aI} {c:aJ} {P:List (Int×Bool)} {e:Int} {k:Nat} {i:bH} {B B':BS} {s:L6} (h:At_ m c P e k i B B' s):SIn P s /\ B.1.length<=P.length:=by
 obtain ⟨r,hr⟩:=h.pre;have hl:∀t:BS,(prS t).length=t.1.length:=fun t=>by simp[prS]
 have hle:B.1.length<=P.length:=by
  rw[hr,List.length_append,<-hl B]
  rcases Ri h.step with ⟨_,_,hp,_⟩ |⟨_,hp,_⟩<;>rw[hp]
  ·rw[List.length_append];omega
  ·omega
 refine ⟨⟨?_,by rw[h.ajg.op];exact h.aAx.six,h.ajg.len⟩,hle⟩
 rw[h.ajg.op];intro x hx;have:=h.aAx.opn x hx;omega
theorem At_.op {m:aI} {c:aJ} {P:List (Int×Bool)} {e:Int} {k:Nat} {i:bH} {B B':BS} {s:L6} (h:At_ m c P e k i B B' s):(1<=i.Op /\ i.Op<=40) /\ (i.Op≠1->0<=i.A):=by
 have:=h.mok.ins c h.core i (by rw[<-h.hi,getD_lt h.hk];exact List.getElem_mem h.hk)
 exact ⟨this.1,fun h1=>(this.2 h1).1⟩
theorem At_.open_ {m:aI} {c:aJ} {P:List (Int×Bool)} {e:Int} {k:Nat} {i:bH} {B B':BS} {s:L6} (h:At_ m c P e k i B B' s) (hi:i.Op=27 \/ i.Op=28):s.op.length≠0:=by
 rw[h.ajg.op]
 rcases Ri h.step with ⟨ho,_,_,_⟩ |⟨_,_,hop⟩
 ·unfold Fg at ho;simp only[Bool.or_eq_true,beq_iff_eq] at ho;omega
 ·rcases hop with ⟨_,h,_⟩ |⟨_,h,_⟩ |⟨h1,h2,_⟩
  ·exact h
  ·exact h
  ·omega
theorem At_.new {m:aI} {c:aJ} {P:List (Int×Bool)} {e:Int} {k:Nat} {i:bH} {B B':BS} {s:L6} (h:At_ m c P e k i B B' s) (ho:Fg i.Op=true):∃hj:B.1.length<P.length,(P[B.1.length]).1=(k:Int):=by
 obtain ⟨r,hr⟩:=h.pre;have hl:(prS B).length=B.1.length:=by simp[prS]
 rcases Ri h.step with ⟨_,_,hp,_⟩ |⟨ho',_,_⟩
 ·have hP:P=prS B++((k:Int),i.A==1)::r:=by rw[hr,hp,List.append_assoc];rfl
  have hj:B.1.length<P.length:=by rw[hP,List.length_append,hl,List.length_cons];omega
  refine ⟨hj, ?_⟩;have:P[B.1.length]? =some ((k:Int),i.A==1):=by
   rw[hP,List.getElem?_append_right (by rw[hl];exact Nat.le_refl _),hl,Nat.sub_self];rfl
  rw[List.getElem?_eq_getElem hj] at this;rw[Option.some.inj this]
 ·rw[ho] at ho';cases ho'
theorem aCl {m:aI} {c:aJ} {P:List (Int×Bool)} {s:L6} {o1:List ax} (hr:awY P s o1) (hi:SIn P s) (h0:s.op.length≠0) (hb:0<=jG s /\ jG s<=24) (e28:Bool):
 M.D5 e28 m.ja m.ak m.bg c.Name c.Params c.gz c.Result c.Code s.h (!s.kn) o1 s.op=some (if s.kn=true /\ s.h≠jG s+vS (Fh P s).2 then (false,stS m c s o1)
   else if e28=true then (true,stS m c {s with kn:=true,h:=jG s+vS (Fh P s).2,op:=s.op.take (s.op.length-1),ba:=s.ba.take (s.ba.length-1)} o1)
   else (true,stS m c {s with kn:=true,h:=jG s} o1)):=by
 have hj:s.op.length-1<s.op.length:=by omega
 obtain ⟨h1,h2⟩:=hi.at_ hj;have hl:o1.length=P.length:=by rw[<-hr.pr,List.length_map]
 have eh:(o1.getD (s.op.getD (s.op.length-1) 0).toNat ax.zero).Height=jG s:=by
  rw[hr.ht _ hj];unfold jG;rw[if_neg (by rw[hi.len];exact h0),hi.len]
 have er:(o1.getD (s.op.getD (s.op.length-1) 0).toNat ax.zero).Result=(Fh P s).2:=by
  unfold Fh;rw[<-hr.pr,am5];rfl
 have hin:inB (s.op.getD (s.op.length-1) 0) o1.length=true:=by rw[<-h2,bf,decide_eq_true_eq,hl];exact h1
 have hbit:=Bh (Fh P s).2;have hsl:xG (0:Int) ((s.op.length-1:Nat):Int) s.op.length=true:=by unfold xG;simp
 have hw:Go.IntKind.wrap .i64 (jG s+vS (Fh P s).2)=jG s+vS (Fh P s).2:=wrap_i64 (by omega) (by omega)
 unfold M.D5;simp only[Hz h0 hi.six,Int.toNat_natCast,eh,er,arW,Option.getD_some,Option.isSome_some,hw,hin,bf,hj,decide_true,Bool.true_or,Bool.and_self,Bool.and_true,cond_true,Bool.not_not,hsl]
 by_cases hc:s.kn=true /\ s.h≠jG s+vS (Fh P s).2
 ·have q:(s.kn&&(s.h !=jG s+vS (Fh P s).2))=true:=by rw[Bool.and_eq_true,bne_iff_ne];exact hc
  rw[if_pos hc,q];rfl
 ·have q:(s.kn&&(s.h !=jG s+vS (Fh P s).2))=false:=by rw[Bool.eq_false_iff,ne_eq,Bool.and_eq_true,bne_iff_ne];exact hc
  rw[if_neg hc,q]
  cases e28<;>rfl
theorem ay8 {P:List (Int×Bool)} {s:L6} {o1:List ax} (hr:awY P s o1) (hi:SIn P s) (h:Int):awY P {s with kn:=true,h:=h,op:=s.op.take (s.op.length-1),ba:=s.ba.take (s.ba.length-1)} o1:=by
 refine ⟨hr.pr,fun j hj=> ?_⟩
 simp only[List.length_take] at hj;have e1:(s.op.take (s.op.length-1)).getD j 0=s.op.getD j 0:=by
  rw[List.getD_eq_getElem?_getD,List.getD_eq_getElem?_getD,List.getElem?_take,if_pos (by omega)]
 have e2:(s.ba.take (s.ba.length-1)).getD j 0=s.ba.getD j 0:=by
  rw[List.getD_eq_getElem?_getD,List.getD_eq_getElem?_getD,List.getElem?_take,if_pos (by rw[hi.len];omega)]
 simp only[e1,e2];exact hr.ht j (by omega)
theorem aDk {m:aI} {c:aJ} {P:List (Int×Bool)} {e:Int} {k:Nat} {i:bH} {B B':BS} {s:L6} {o1:List ax} (h:At_ m c P e k i B B' s) (hr:awY P s o1):
 ∃y:Int×RS,M.Ha (k:Int) m.ja m.ak m.bg c.Name c.Params c.gz c.Result c.Code s.h (!s.kn) o1 s.op=some y /\ (match I4 m c P i s with
  | .inl x=>y.1=x
  | .inr s'=>∃o1',y=(0,stS m c s' o1') /\ awY P s' o1'):=by
 obtain ⟨hi,hle⟩:=h.sin;obtain ⟨hop,hA⟩:=h.op;have hbl:=aoP h.ajg;have hbit:=Bh (Fh P s).2;have hk:=h.hk;unfold M.Ha I4;simp only[Int.toNat_natCast,h.hi,bf,hk,decide_true,Bool.and_true,aAu,aAv]
 by_cases ht:i.Op=27 \/ i.Op=28
 ·have h0:=h.open_ ht
  have qt:(i.Op==27||i.Op==28)=true:=by rw[Bool.or_eq_true,beq_iff_eq,beq_iff_eq];exact ht
  rw[if_pos ht,qt,cond_true,aCl (m:=m) (c:=c) hr hi h0 hbl (i.Op==28)]
  by_cases hc:s.kn=true /\ s.h≠jG s+vS (Fh P s).2
  ·rw[if_pos hc,if_pos hc]
   exact ⟨_,rfl,rfl⟩
  ·rw[if_neg hc,if_neg hc]
   by_cases h27:i.Op=27
   ·have q28:(i.Op==28)=false:=by rw[beq_eq_false_iff_ne];omega
    rw[if_pos h27,q28,if_neg (by decide)]
    have:decide ((24:Int)<jG s)=false:=by rw[decide_eq_false_iff_not];omega
    refine ⟨(0,stS m c {s with kn:=true,h:=jG s} o1), ?_,o1,rfl,⟨hr.pr,hr.ht⟩⟩
    simp only[stS,Option.getD_some,this,Bool.not_true,cond_false,Option.isSome_some,cond_true]
   ·have h28:i.Op=28:=by omega
    have q28:(i.Op==28)=true:=by rw[beq_iff_eq];exact h28
    rw[if_neg h27,q28,if_pos rfl]
    by_cases h24:24<jG s+vS (Fh P s).2
    ·rw[if_pos h24]
     simp only[stS,Option.getD_some,decide_eq_true h24,Bool.not_true,cond_false,Option.isSome_some,cond_true];exact ⟨_,rfl,rfl⟩
    ·rw[if_neg h24]
     refine ⟨(0,stS m c {s with kn:=true,h:=jG s+vS (Fh P s).2,op:=s.op.take (s.op.length-1),ba:=s.ba.take (s.ba.length-1)} o1), ?_,o1,rfl,ay8 hr hi _⟩
     simp only[stS,Option.getD_some,decide_eq_false h24,Bool.not_true,cond_false,Option.isSome_some,cond_true]
 ·have qt:(i.Op==27||i.Op==28)=false:=by rw[Bool.eq_false_iff,ne_eq,Bool.or_eq_true,beq_iff_eq,beq_iff_eq];exact ht
  have hcore:=h.mok.core c h.core;rw[if_neg ht,qt,cond_false]
  by_cases hkn:s.kn=false
  ·rw[if_pos hkn,hkn]
   exact ⟨_,rfl,rfl⟩
  ·have hkn':s.kn=true:=by simpa using hkn
   rw[if_neg hkn,hkn'];simp only[Bool.not_true,cond_false,aCj m c i s hcore.1 hcore.2.1 hop,Option.getD_some,Option.isSome_some,Bool.and_self,Bool.true_and,cond_true]
   by_cases hth:xy m c i s=false
   ·rw[if_pos hth,hth]
    exact ⟨_,rfl,rfl⟩
   ·have aw0:xy m c i s=true:=by simpa using hth
    rw[if_neg hth,aw0];have htk:=aoQ h.mok i;have hst:=h.ajg.h;simp only[Bool.not_true,cond_false,aDh m c i s hop hA ⟨fun q=>ht (.inl q),fun q=>ht (.inr q)⟩ aw0,aDi hr hi m c,Option.getD_some,Option.isSome_some,Bool.and_self,Bool.true_and,cond_true]
    have w1:Go.IntKind.wrap .i64 (s.h-(fF m i).1)=s.h-(fF m i).1:=wrap_i64 (by omega) (by omega)
    have w2:Go.IntKind.wrap .i64 (s.h+Go.IntKind.wrap .i64 ((fF m i).2-(fF m i).1))=s.h-(fF m i).1+(fF m i).2:=by
     rw[wrap_i64 (n:=(fF m i).2-(fF m i).1) (by omega) (by omega),wrap_i64 (by omega) (by omega)];omega
    rw[w1,w2]
    by_cases hb:s.h-(fF m i).1<jG s
    ·rw[if_pos hb,decide_eq_true hb]
     exact ⟨_,rfl,rfl⟩
    ·rw[if_neg hb,decide_eq_false hb,cond_false]
     by_cases h24:24<s.h-(fF m i).1+(fF m i).2
     ·rw[if_pos h24,decide_eq_true h24]
      exact ⟨_,rfl,rfl⟩
     ·rw[if_neg h24,decide_eq_false h24,cond_false]
      have hnb:0<=Cj c P i s /\ Cj c P i s<=1:=by
       unfold Cj
       repeat' split
       ·exact Bh _
       ·exact Bh _
       ·exact Bh _
       ·omega
      have aAy:(bif (bif i.Op==29 then i.Op==29 else i.Op==30) then (M.nJ (M.mi.mk m c o1 s.op (s.h-(fF m i).1+(fF m i).2) false) i.A).getD Inhabited.default else (bif i.Op==31 then (M.qC c.Result).getD Inhabited.default else (0:Int)))=Cj c P i s /\ ((bif i.Op==29 then i.Op==29 else i.Op==30)=true->(M.nJ (M.mi.mk m c o1 s.op (s.h-(fF m i).1+(fF m i).2) false) i.A).isSome=true):=by
       rw[aEd]
       by_cases hbr:i.Op=29 \/ i.Op=30
       ·have qbr:(i.Op==29||i.Op==30)=true:=by rw[Bool.or_eq_true,beq_iff_eq,beq_iff_eq];exact hbr
        rw[qbr,cond_true,ay6 h.pin hr.pr hi i (hA (by omega)) hbr aw0]
        exact ⟨rfl,fun _=>rfl⟩
       ·have qbr:(i.Op==29||i.Op==30)=false:=by rw[Bool.eq_false_iff,ne_eq,Bool.or_eq_true,beq_iff_eq,beq_iff_eq];exact hbr
        rw[qbr,cond_false,arW];refine ⟨?_,fun q=>by cases q⟩
        unfold Cj
        by_cases h31:i.Op=31
        ·rw[if_pos h31,h31];rfl
        ·have q31:(i.Op==31)=false:=by rw[beq_eq_false_iff_ne];exact h31
         rw[if_neg h31,if_neg hbr,q31];rfl
      obtain ⟨aAy,hsome⟩:=aAy;rw[aAy];have w3:Go.IntKind.wrap .i64 (s.h-(fF m i).1+(fF m i).2-Cj c P i s)=s.h-(fF m i).1+(fF m i).2-Cj c P i s:=wrap_i64 (by omega) (by omega)
      rw[w3,arW]
      generalize hq8:(bif i.Op==29 then i.Op==29 else i.Op==30)=q8 at hsome
      generalize (M.nJ (M.mi.mk m c o1 s.op (s.h-(fF m i).1+(fF m i).2) false) i.A).isSome=cs at hsome
      have hg:((((cs&&((true|| !(i.Op==29))&&(true||(i.Op==29))))|| !q8)&&(((((true:Bool)&&((true|| !(i.Op==29))&&(true||(i.Op==29))))|| !(i.Op==31))&&(((true|| !(i.Op==29))&&(true||(i.Op==29)))||(i.Op==31)))||q8)))=true:=by
       cases q8
       ·simp
       ·rw[hsome rfl];simp
      simp only[Option.isSome_some,Bool.true_or,Bool.and_self,Bool.true_and,Bool.and_true] at hg ⊢
      by_cases hnd:s.h-(fF m i).1+(fF m i).2-Cj c P i s<jG s
      ·rw[if_pos hnd,decide_eq_true hnd,cond_true]
       simp only[hg,cond_true];exact ⟨_,rfl,rfl⟩
      ·rw[if_neg hnd,decide_eq_false hnd,cond_false]
       rw[show (i.Op==24||i.Op==25||i.Op==26)=Fg i.Op from rfl]
       by_cases ho:Fg i.Op=true
       ·obtain ⟨hj,hat⟩:=h.new ho
        have hl:o1.length=P.length:=by rw[<-hr.pr,List.length_map]
        have hown:M.DY s.op=some s.op:=by
         unfold M.DY;have:=hi.six;rw[show decide (0+s.op.length<=1073741824)=true by rw[decide_eq_true_eq];omega]
         rfl
        have hd:decide (s.op.length+1<=1073741824)=true:=by have:=hi.six;rw[decide_eq_true_eq];omega
        have hjl:B.1.length<o1.length:=by rw[hl];exact hj
        simp only[ho,cond_true,hown,aAt hr.pr h.inc (by have:=h.pl;omega) hj hat,Option.getD_some,Option.isSome_some,Int.toNat_natCast,bf,hjl,decide_true,hg,Bool.and_self,List.length_cons,List.length_nil,Nat.zero_add,hd,if_true]
        refine ⟨_,rfl,o1.set B.1.length (ax.mk (o1.getD B.1.length ax.zero).At (o1.getD B.1.length ax.zero).Else (o1.getD B.1.length ax.zero).End (s.h-(fF m i).1+(fF m i).2) (o1.getD B.1.length ax.zero).Result), ?_,⟨?_, ?_⟩⟩
        ·simp only[stS,h.ajg.Y4,Bool.not_not]
        ·refine Eq.trans (awX o1 B.1.length _ ?_) hr.pr
         rfl
        ·intro j hj'
         simp only[List.length_append,List.length_cons,List.length_nil] at hj' ⊢
         rcases Nat.lt_or_ge j s.op.length with h1 |h1
         ·have e1:(s.op++[s.Y4]).getD j 0=s.op.getD j 0:=by
           rw[List.getD_eq_getElem?_getD,List.getD_eq_getElem?_getD,List.getElem?_append_left h1]
          have e2:(s.ba++[s.h-(fF m i).1+(fF m i).2]).getD j 0=s.ba.getD j 0:=by
           rw[List.getD_eq_getElem?_getD,List.getD_eq_getElem?_getD,List.getElem?_append_left (by rw[hi.len];exact h1)]
          rw[e1,e2,<-hr.ht j h1];have hlt:(s.op.getD j 0).toNat≠B.1.length:=by
           have:=h.aAx.opn (s.op.getD j 0) (by rw[<-h.ajg.op,getD_lt h1];exact List.getElem_mem h1)
           omega
          rw[List.getD_eq_getElem?_getD,List.getElem?_set,if_neg (Ne.symm hlt),<-List.getD_eq_getElem?_getD]
         ·have:j=s.op.length:=by omega
          subst this;have e1:(s.op++[s.Y4]).getD s.op.length 0=s.Y4:=by
           rw[List.getD_eq_getElem?_getD,List.getElem?_append_right (Nat.le_refl _),Nat.sub_self];rfl
          have e2:(s.ba++[s.h-(fF m i).1+(fF m i).2]).getD s.op.length 0=s.h-(fF m i).1+(fF m i).2:=by
           rw[<-hi.len,List.getD_eq_getElem?_getD,List.getElem?_append_right (Nat.le_refl _),Nat.sub_self];rfl
          rw[e1,e2,h.ajg.Y4,Int.toNat_natCast,List.getD_eq_getElem?_getD,List.getElem?_set,if_pos rfl,if_pos hjl];rfl
       ·have ho':Fg i.Op=false:=by simpa using ho
        simp only[ho',cond_false,hg,cond_true,Bool.false_eq_true,if_false];refine ⟨_,rfl,o1, ?_,⟨hr.pr,hr.ht⟩⟩;simp only[stS,Bool.not_not]
end M
namespace M
open Go.V (inB xG aA bU)
theorem arX {m:aI} {c:aJ} {P:List (Int×Bool)} {i:bH} {s:L6} {x:Int} (h:I4 m c P i s= .inl x):x≠0:=by
 unfold I4 at h
 repeat' split at h
 all_goals cases h
 all_goals decide
theorem ay9 {e:Int} {c:List bH} {k:Nat} {i:bH} {s:BS} {x:Int} (h:iC e c k i s= .inl x):x≠0:=by
 unfold iC at h
 repeat' split at h
 all_goals cases h
 all_goals decide
theorem aoS {e:Int} {c:List bH}:∀(n k:Nat) (s:BS) (p:Int×Int),zW e c n k s= .inl p->p.2≠0
 |0,k,s,p,h=>by simp only[zW] at h;cases h
 |n+1,k,s,p,h=>by
  simp only[zW] at h
  cases hx:iC e c k (c.getD k bH.zero) s with
  |inl x=>rw[hx] at h;injection h with h;subst h;exact ay9 hx
  |inr s'=>rw[hx] at h;exact aoS n (k+1) s' p h
theorem aCm (m:aI) (c:aJ) (s:L6) (o1:List ax) (h6:s.op.length<=6):M.DZ m.ja m.ak m.bg c.Name c.Params c.gz c.Result c.Code s.h (!s.kn) o1 s.op=some (L8 s,stS m c s o1):=by
 have hown:M.DY s.op=some s.op:=by
  unfold M.DY;rw[show decide (0+s.op.length<=1073741824)=true by rw[decide_eq_true_eq];omega]
  rfl
 unfold M.DZ L8 stS;rw[hown]
 cases s.kn<;>rfl
structure aza (m:aI) (c:aJ) (P:List (Int×Bool)) (Bf:BS):Prop where
 mok:MOk m
 core:c∈m.bg
 P:P=prS Bf
 inv:BInv c.Code.length Bf
theorem aza.at_ {m:aI} {c:aJ} {P:List (Int×Bool)} {Bf:BS} (h:aza m c P Bf) {e:Int} {k r:Nat} {B B':BS} {s:L6} (hk:k<c.Code.length) (hB:BInv k B) (hs:avp B s) (hb:iC e c.Code k (c.Code.getD k bH.zero) B= .inr B') (hr:zW e c.Code r (k+1) B'= .inr Bf):At_ m c P e k (c.Code.getD k bH.zero) B B' s:=by
 have hl:P.length=Bf.1.length:=by rw[h.P];simp[prS]
 exact {mok:=h.mok,core:=h.core,pin:=by rw[h.P];exact h.inv.lt,inc:=by rw[h.P];exact h.inv.inc,pl:=by rw[hl];have:=h.inv.cnt;have:=(h.mok.core c h.core).2.2;omega,hk:=hk,hi:=rfl,ajg:=hs,aAx:=hB,step:=hb,
        pre:=by rw[h.P];exact (agz r (k+1) B' Bf (J4 hB hb) hr).1}
theorem akE {m:aI} {c:aJ} {P:List (Int×Bool)} {Bf:BS} {e:Int} (hf:aza m c P Bf):∀(f k:Nat) (B:BS) (s:L6) (o1:List ax) (out:List bP),k<=c.Code.length->c.Code.length-k<f->BInv k B->avp B s->zW e c.Code (c.Code.length-k) k B= .inr Bf->awY P s o1->out.length=k->
 ∃o1',M.sO c f (k:Int) m.ja m.ak m.bg c.Name c.Params c.gz c.Result c.Code s.h (!s.kn) out o1 s.op=some (match ajf m c P (c.Code.length-k) k s out with
  | .inl p=> .inl (p.1,p.2,[])
  | .inr p=> .inr (c,m.ja,m.ak,m.bg,c.Name,c.Params,c.gz,c.Result,c.Code,p.1.h, !p.1.kn,p.2,o1',p.1.op))
 |0,k,B,s,o1,out,h1,h2,_,_,_,_,_=>by omega
 |f+1,k,B,s,o1,out,h1,h2,hB,hs,hb,hr,hl=>by
  have hn:=(hf.mok.core c hf.core).2.2
  rcases Nat.lt_or_ge k c.Code.length with hk |hk
  ·obtain ⟨r,hrn⟩:∃r,c.Code.length-k=r+1:=⟨c.Code.length-k-1,by omega⟩
   have hr':c.Code.length-(k+1)=r:=by omega
   rw[hrn] at hb ⊢;simp only[zW] at hb
   cases hx:iC e c.Code k (c.Code.getD k bH.zero) B with
   |inl x=>rw[hx] at hb;cases hb
   |inr B'=>
    rw[hx] at hb;simp only at hb;have hat:=hf.at_ hk hB hs hx hb;obtain ⟨y,hy,hc⟩:=aDk hat hr;have h6:s.op.length<=6:=by rw[hs.op];exact hB.six
    rw[M.sO];have hw:Go.IntKind.wrap .i64 ((k:Int)+1)=((k+1:Nat):Int):=df hk (by omega)
    have hd:decide (out.length+([L8 s]:List bP).length<=1073741824)=true:=by rw[decide_eq_true_eq,hl,List.length_cons,List.length_nil];omega
    simp only[Int.ofNat_lt,hk,decide_true,cond_true,aCm m c s o1 h6,Option.getD_some,stS,hy,Option.isSome_some,Bool.and_true,Bool.and_self,hd,hw,ajf]
    cases hcs:I4 m c P (c.Code.getD k bH.zero) s with
    |inl x=>
     rw[hcs] at hc;simp only at hc;have:(y.1 !=0)=true:=by rw[bne_iff_ne,hc];exact arX hcs
     exact ⟨[],by rw[this,hc];rfl⟩
    |inr s'=>
     rw[hcs] at hc;obtain ⟨o1',rfl,hr2⟩:=hc;have hz:(((0:Int) !=0))=false:=by decide
     obtain ⟨o2,ho2⟩:=akE hf f (k+1) B' s' o1' (out++[L8 s]) (by omega) (by omega) (J4 hB hx) (arV hf.mok hs hx hcs) (by rw[hr'];exact hb) hr2 (by rw[List.length_append,hl];rfl)
     rw[hr'] at ho2;refine ⟨o2, ?_⟩;simp only[hz,cond_false,stS];exact ho2
  ·have:k=c.Code.length:=by omega
   subst this;refine ⟨o1, ?_⟩;rw[M.sO];simp[ajf]
def s0 : L6:=⟨0,[],[],0,true⟩
def pbl (e:Int) (c:aJ):(Int×Int)⊕List (Int×Bool):=agx (List.map pr) (yu e c)
theorem aDm (e e':Int) (c:aJ):pbl e c=pbl e' c:=by
 have h:=aoO e e' c.Code c.Code.length 0 ([],[]) ([],[]) rfl;unfold pbl yu
 cases h1:zW e c.Code c.Code.length 0 ([],[]) with
 |inl p=>
  cases h2:zW e' c.Code c.Code.length 0 ([],[]) with
  |inl q=>rw[h1,h2] at h;injection h with h;rw[h]
  |inr q=>rw[h1,h2] at h;cases h
 |inr p=>
  cases h2:zW e' c.Code c.Code.length 0 ([],[]) with
  |inl q=>rw[h1,h2] at h;cases h
  |inr q=>
   rw[h1,h2] at h
   injection h with h
   have e1:p.1.map strip=q.1.map strip:=(congrArg Prod.fst h:(vK p).1=(vK q).1);have e2:p.2=q.2:=(congrArg Prod.snd h:(vK p).2=(vK q).2);have e3:p.1.map pr=q.1.map pr:=by
    have:=congrArg (List.map pr) e1;rw[List.map_map,List.map_map] at this;exact this
   simp only[e2]
   by_cases h0:q.2.length=0
   ·rw[if_pos h0,if_pos h0];simp only[agx,e3]
   ·rw[if_neg h0,if_neg h0]
def I5 (m:aI) (c:aJ):List bP×Int×Int:=
 match pbl 0 c with
 | .inl p=>([],p.1,p.2)
 | .inr P=>match ajf m c P c.Code.length 0 s0 [] with
   | .inl p=>([],p.1,p.2)
   | .inr p=>if p.1.kn=true /\ p.1.h≠vS c.Result then ([],(c.Code.length:Int),7) else (p.2++[bP.mk true (vS c.Result) []],0,0)
theorem aCO : avp ([],[]) s0:=⟨rfl,rfl,rfl,fun x hx=>by simp[s0] at hx,by simp[s0]⟩
theorem aoT {m:aI} {c:aJ} {P:List (Int×Bool)}:∀(n k:Nat) (s:L6) (a:List bP) (q:L6×List bP),ajf m c P n k s a= .inr q->q.2.length=a.length+n
 |0,k,s,a,q,h=>by simp only[ajf] at h;injection h with h;subst h;rfl
 |n+1,k,s,a,q,h=>by
  simp only[ajf] at h
  cases hx:I4 m c P (c.Code.getD k bH.zero) s with
  |inl x=>rw[hx] at h;cases h
  |inr s'=>
   rw[hx] at h;have:=aoT n (k+1) s' _ q h;rw[List.length_append,List.length_cons,List.length_nil] at this;omega
theorem azb {m:aI} (hm:MOk m) {k:Nat} (hk:k<m.bg.length):M.PL m (k:Int)=some (I5 m m.bg[k]):=by
 have hmem:=List.getElem_mem hk;have hn:=(hm.core _ hmem).2.2;unfold M.PL I5;rw[aDm 0 (-1)];unfold pbl;simp only[Int.toNat_natCast,getD_lt hk,bf,hk,decide_true,Bool.and_true,Bool.and_self]
 generalize hc:m.bg[k]=c at hn hmem ⊢
 rw[aAp c hn];have hb:∀p,yu (-1) c= .inl p->p.2≠0:=fun p h=>by
  unfold yu at h
  cases hx:zW (-1) c.Code c.Code.length 0 ([],[]) with
  |inl q=>rw[hx] at h;injection h with h;subst h;exact aoS _ _ _ _ hx
  |inr q=>
   rw[hx] at h;simp only at h;split at h
   ·cases h
   ·injection h with h;subst h
    show (5:Int)≠0
    decide
 cases hbl:yu (-1) c with
 |inl p=>
  have:(p.2 !=0)=true:=by rw[bne_iff_ne];exact hb p hbl
  simp only[Option.getD_some,Option.isSome_some,agx,this,cond_true]
 |inr b=>
  obtain ⟨Bf,hrun,hbf⟩:∃Bf:BS,zW (-1) c.Code c.Code.length 0 ([],[])= .inr Bf /\ Bf.1=b:=by
   unfold yu at hbl
   cases hx:zW (-1) c.Code c.Code.length 0 ([],[]) with
   |inl q=>rw[hx] at hbl;cases hbl
   |inr q=>
    rw[hx] at hbl;simp only at hbl;split at hbl
    ·injection hbl with hbl;exact ⟨q,rfl,hbl⟩
    ·cases hbl
  have hinv:=(agz c.Code.length 0 ([],[]) Bf arU hrun).2;rw[Nat.zero_add] at hinv;have hf:aza m c (b.map pr) Bf:=⟨hm,hmem,by rw[<-hbf];rfl,hinv⟩
  obtain ⟨o1',ho⟩:=akE (e:= -1) hf aA 0 ([],[]) s0 b [] (Nat.zero_le _) (by have:=bU;omega) arU aCO (by rw[Nat.sub_zero];exact hrun) ⟨rfl,fun j hj=>by simp[s0] at hj⟩ rfl
  have ho':M.sO c aA 0 m.ja m.ak m.bg c.Name c.Params c.gz c.Result c.Code 0 false [] b []=_:=ho;rw[Nat.sub_zero] at ho';have hz:((0:Int) !=0)=false:=by decide
  simp only[Option.getD_some,Option.isSome_some,agx,hz,cond_false,ho']
  cases hcr:ajf m c (b.map pr) c.Code.length 0 s0 [] with
  |inl p=>rfl
  |inr p=>
   have hlen:=aoT _ _ _ _ _ hcr;simp only[arW,Option.getD_some,Option.isSome_some,Bool.not_not,Bool.true_or,Bool.and_self,Bool.and_true,cond_true];have hd:decide (p.2.length+([bP.mk true (vS c.Result) []]:List bP).length<=1073741824)=true:=by
    rw[decide_eq_true_eq,hlen];simp only[List.length_cons,List.length_nil];omega
   by_cases hq:p.1.kn=true /\ p.1.h≠vS c.Result
   ·have q:(p.1.kn&&(p.1.h !=vS c.Result))=true:=by rw[Bool.and_eq_true,bne_iff_ne];exact hq
    rw[if_pos hq,q];rfl
   ·have q:(p.1.kn&&(p.1.h !=vS c.Result))=false:=by rw[Bool.eq_false_iff,ne_eq,Bool.and_eq_true,bne_iff_ne];exact hq
    rw[if_neg hq,q,hd];rfl
end M
namespace M
open Go.V (inB xG aA bU)
abbrev RI := Int×List aF×List aJ×List UInt8×Int×Int×Bool×List bH×List ax×Int×Int×Bool×List Int×List Int
def stI (m:aI) (c:aJ) (bl:List ax) (s:L6):RI:=(m.ja,m.ak,m.bg,c.Name,c.Params,c.gz,c.Result,c.Code,bl,s.Y4,s.h,s.kn,s.op,s.ba)
theorem aDn {m:aI} {c:aJ} {P:List (Int×Bool)} {s:L6} {bl:List ax} (hb:bl.map pr=P) (hi:SIn P s) (h0:s.op.length≠0) (hbl:0<=jG s /\ jG s<=24) (i:bH) (ht:i.Op=27 \/ i.Op=28):
 ∃y:Int×RI,M.zg i m.ja m.ak m.bg c.Name c.Params c.gz c.Result c.Code bl s.Y4 s.h s.kn s.op s.ba=some y /\ (match I4 m c P i s with
  | .inl x=>y.1=x
  | .inr s'=>y=(0,stI m c bl s')):=by
 have hj:s.op.length-1<s.op.length:=by omega
 obtain ⟨h1,h2⟩:=hi.at_ hj;have hl:bl.length=P.length:=by rw[<-hb,List.length_map]
 have er:(bl.getD (s.op.getD (s.op.length-1) 0).toNat ax.zero).Result=(Fh P s).2:=by
  unfold Fh;rw[<-hb,am5];rfl
 have hin:inB (s.op.getD (s.op.length-1) 0) bl.length=true:=by rw[<-h2,bf,decide_eq_true_eq,hl];exact h1
 have hbit:=Bh (Fh P s).2;have hsl:xG (0:Int) ((s.op.length-1:Nat):Int) s.op.length=true:=by unfold xG;simp
 have hsl2:xG (0:Int) ((s.op.length-1:Nat):Int) s.ba.length=true:=by rw[hi.len];exact hsl
 have hw:Go.IntKind.wrap .i64 (jG s+vS (Fh P s).2)=jG s+vS (Fh P s).2:=wrap_i64 (by omega) (by omega)
 have hbase:=aAs s (by rw[hi.len];exact hi.six) m c bl
 unfold I4;rw[if_pos ht];unfold M.zg;simp only[aAu,aAv,hbase,Hz h0 hi.six,Int.toNat_natCast,er,ax5,Option.getD_some,Option.isSome_some,hw,hin,bf,hj,decide_true,Bool.true_or,Bool.and_self,Bool.and_true,cond_true,hsl,hsl2]
 by_cases hc:s.kn=true /\ s.h≠jG s+vS (Fh P s).2
 ·have q:(s.kn&&(s.h !=jG s+vS (Fh P s).2))=true:=by rw[Bool.and_eq_true,bne_iff_ne];exact hc
  rw[if_pos hc,q];exact ⟨_,rfl,rfl⟩
 ·have q:(s.kn&&(s.h !=jG s+vS (Fh P s).2))=false:=by rw[Bool.eq_false_iff,ne_eq,Bool.and_eq_true,bne_iff_ne];exact hc
  rw[if_neg hc,q,cond_false]
  by_cases h27:i.Op=27
  ·have q27:(i.Op==27)=true:=by rw[beq_iff_eq];exact h27
   rw[if_pos h27,q27,cond_true];exact ⟨_,rfl,rfl⟩
  ·have q27:(i.Op==27)=false:=by rw[beq_eq_false_iff_ne];exact h27
   rw[if_neg h27,q27,cond_false]
   by_cases h24:24<jG s+vS (Fh P s).2
   ·rw[if_pos h24]
    simp only[decide_eq_true h24,cond_true];exact ⟨_,rfl,rfl⟩
   ·rw[if_neg h24]
    simp only[decide_eq_false h24,cond_false];exact ⟨_,rfl,by simp only[stI,hi.len]⟩
theorem aDo {m:aI} {c:aJ} {P:List (Int×Bool)} {e:Int} {k:Nat} {i:bH} {B B':BS} {s:L6} {bl:List ax} (h:At_ m c P e k i B B' s) (hb:bl.map pr=P):
 ∃y:Int×RI,M.zh i m.ja m.ak m.bg c.Name c.Params c.gz c.Result c.Code bl s.Y4 s.h s.kn s.op s.ba=some y /\ (match I4 m c P i s with
  | .inl x=>y.1=x
  | .inr s'=>y=(0,stI m c bl s')):=by
 obtain ⟨hi,hle⟩:=h.sin;obtain ⟨hop,hA⟩:=h.op;have hbl:=aoP h.ajg;unfold M.zh;simp only[aAu,aAv]
 by_cases ht:i.Op=27 \/ i.Op=28
 ·have h0:=h.open_ ht
  have qt:(i.Op==27||i.Op==28)=true:=by rw[Bool.or_eq_true,beq_iff_eq,beq_iff_eq];exact ht
  obtain ⟨y,hy,hc⟩:=aDn (m:=m) (c:=c) hb hi h0 hbl i ht;rw[qt,cond_true,hy];exact ⟨y,rfl,hc⟩
 ·have qt:(i.Op==27||i.Op==28)=false:=by rw[Bool.eq_false_iff,ne_eq,Bool.or_eq_true,beq_iff_eq,beq_iff_eq];exact ht
  have hcore:=h.mok.core c h.core;unfold I4;rw[if_neg ht,qt,cond_false]
  by_cases hkn:s.kn=false
  ·rw[if_pos hkn,hkn]
   exact ⟨_,rfl,rfl⟩
  ·have hkn':s.kn=true:=by simpa using hkn
   rw[if_neg hkn];simp only[aAq m c bl i s hcore.1 hcore.2.1 hop,Option.getD_some,Option.isSome_some,Bool.and_self,Bool.true_and,cond_true];rw[show (!s.kn)=false by rw[hkn'];rfl,cond_false]
   by_cases hth:xy m c i s=false
   ·rw[if_pos hth,hth]
    exact ⟨_,rfl,rfl⟩
   ·have aw0:xy m c i s=true:=by simpa using hth
    rw[if_neg hth,aw0];have htk:=aoQ h.mok i;have hst:=h.ajg.h;simp only[Bool.not_true,cond_false,aAr m c bl i s hop hA ⟨fun q=>ht (.inl q),fun q=>ht (.inr q)⟩ aw0,aAs s (by rw[hi.len];exact hi.six) m c bl,ay5 h.pin hb hi i hA aw0,Option.getD_some,Option.isSome_some,Bool.and_self,Bool.true_and,cond_true]
    have w1:Go.IntKind.wrap .i64 (s.h-(fF m i).1)=s.h-(fF m i).1:=wrap_i64 (by omega) (by omega)
    have w2:Go.IntKind.wrap .i64 (s.h-(fF m i).1+(fF m i).2)=s.h-(fF m i).1+(fF m i).2:=wrap_i64 (by omega) (by omega)
    rw[w1,w2]
    by_cases hbs:s.h-(fF m i).1<jG s
    ·rw[if_pos hbs,decide_eq_true hbs]
     exact ⟨_,rfl,rfl⟩
    ·rw[if_neg hbs,decide_eq_false hbs,cond_false]
     by_cases h24:24<s.h-(fF m i).1+(fF m i).2
     ·rw[if_pos h24,decide_eq_true h24]
      exact ⟨_,rfl,rfl⟩
     ·rw[if_neg h24,decide_eq_false h24,cond_false]
      have hnb:0<=Cj c P i s /\ Cj c P i s<=1:=by
       unfold Cj
       repeat' split
       ·exact Bh _
       ·exact Bh _
       ·exact Bh _
       ·omega
      have w3:Go.IntKind.wrap .i64 (s.h-(fF m i).1+(fF m i).2-Cj c P i s)=s.h-(fF m i).1+(fF m i).2-Cj c P i s:=wrap_i64 (by omega) (by omega)
      rw[w3]
      by_cases hnd:s.h-(fF m i).1+(fF m i).2-Cj c P i s<jG s
      ·rw[if_pos hnd,decide_eq_true hnd]
       exact ⟨_,rfl,rfl⟩
      ·rw[if_neg hnd,decide_eq_false hnd,cond_false]
       rw[show (i.Op==24||i.Op==25||i.Op==26)=Fg i.Op from rfl]
       have hk3:((i.Op !=29&&i.Op !=31)&&i.Op !=40)= !(i.Op==29||i.Op==31||i.Op==40):=by
        rw[rW,rW,rW]
        cases (i.Op==29)<;>cases (i.Op==31)<;>cases (i.Op==40)<;>rfl
       have h6:=hi.six
       by_cases ho:Fg i.Op=true
       ·have hcnt:=h.aAx.cnt
        have hnx:Go.IntKind.wrap .i64 (s.Y4+1)=s.Y4+1:=by
         rw[h.ajg.Y4];have:=h.hk;have:=hcore.2.2;exact wrap_i64 (by omega) (by omega)
        have d1:decide (s.ba.length+1<=1073741824)=true:=by rw[decide_eq_true_eq,hi.len];omega
        have d2:decide (s.op.length+1<=1073741824)=true:=by rw[decide_eq_true_eq];omega
        simp only[ho,cond_true,hnx,hk3,List.length_cons,List.length_nil,Nat.zero_add,d1,d2,Bool.and_self,if_true];exact ⟨_,rfl,rfl⟩
       ·have ho':Fg i.Op=false:=by simpa using ho
        simp only[ho',cond_false,hk3,Bool.false_eq_true,if_false];exact ⟨_,rfl,rfl⟩
end M
namespace M
open Go.V (inB xG aA bU)
theorem wz : Go.IntKind.wrap .i64 (((0:Nat):Int)-1)= -1:=by rw[wrap_i64 (by omega) (by omega)];rfl
theorem wz2 : Go.IntKind.wrap .i64 (-1)= -1:=wrap_i64 (by omega) (by omega)
theorem acE (c:aJ) (hn:c.Code.length<=120):∀(f k:Nat) (s:BS),k<=c.Code.length->c.Code.length-k<f->BInv k s->
 M.kM c.Code (c.Code.length:Int) c f (k:Int) s.1 s.2=some (match zW 0 c.Code (c.Code.length-k) k s with
   | .inl p=> .inl (p.1,p.2,[])
   | .inr s'=> .inr (c,s'.1,s'.2))
 |0,k,s,h1,h2,_=>by omega
 |f+1,k,s,h1,h2,hI=>by
  rw[M.kM]
  rcases Nat.lt_or_ge k c.Code.length with hk |hk
  ·obtain ⟨r,hr⟩:∃r,c.Code.length-k=r+1:=⟨c.Code.length-k-1,by omega⟩
   have hr':c.Code.length-(k+1)=r:=by omega
   have ih:=fun s' h=>acE c hn f (k+1) s' (by omega) (by omega) h
   rw[hr'] at ih;rw[hr];simp only[zW];have hinv:=fun s' h=>J4 (e:=0) (c:=c.Code) (i:=c.Code.getD k bH.zero) (s':=s') hI h
   have hw:Go.IntKind.wrap .i64 ((k:Int)+1)=((k+1:Nat):Int):=df hk (by omega)
   have h6:=hI.six;have hcnt:=hI.cnt;simp only[Int.toNat_natCast,bf,Int.ofNat_lt,hk,decide_true,cond_true,Bool.and_true,hw]
   generalize hi:c.Code.getD k bH.zero=i at hinv ⊢
   rw[show (i.Op==24||i.Op==25||i.Op==26)=Fg i.Op from rfl]
   by_cases ho:Fg i.Op=true
   ·rw[ho,cond_true]
    by_cases hl:s.2.length=6
    ·have hb:iC 0 c.Code k i s= .inl 4:=by unfold iC;rw[if_pos ho,if_pos hl]
     rw[hb,hl];rfl
    ·have hb:iC 0 c.Code k i s= .inr (s.1++[ax.mk (k:Int) (-1) 0 0 (i.A==1)],s.2++[(s.1.length:Int)]):=by unfold iC;rw[if_pos ho,if_neg hl]
     have q:(((s.2.length:Nat):Int)==6)=false:=by rw[beq_eq_false_iff_ne];omega
     have d1:decide (s.1.length+1<=1073741824)=true:=by rw[decide_eq_true_eq];omega
     have d2:decide (s.2.length+1<=1073741824)=true:=by rw[decide_eq_true_eq];omega
     have:=ih _ (hinv _ hb);simp only[q,cond_false,List.length_cons,List.length_nil,Nat.zero_add,d1,d2,Bool.and_self,cond_true];rw[hb];exact this
   ·have ho':Fg i.Op=false:=by simpa using ho
    rw[ho',cond_false]
    by_cases h27:i.Op=27
    ·have b27:(i.Op==27)=true:=by rw[h27];rfl
     rw[b27,cond_true]
     by_cases h0:s.2.length=0
     ·have hb:iC 0 c.Code k i s= .inl 5:=by unfold iC;rw[if_neg ho,if_pos h27,if_pos h0]
      rw[hb,h0];simp[wz2]
     ·have ht:=agy hI h0
      have hat:=am4 hI h0;have q:decide (((s.2.length-1:Nat):Int)<0)=false:=by rw[decide_eq_false_iff_not];omega
      have e1:=ht.2.symm;have hA:inB (gW s).At c.Code.length=true:=JM ⟨hat.1,by omega⟩
      have hS:s.2.length-1<s.2.length:=by omega
      simp only[Hz h0 h6,q,Bool.false_or,Int.toNat_natCast,e1,bf,ht.1,hS,decide_true];rw[show List.getD s.1 (Y3 s) ax.zero=gW s from rfl,show (List.getD c.Code (Int.toNat (gW s).At) bH.zero).Op=opAt c.Code (gW s).At from rfl,hA]
      by_cases hc:opAt c.Code (gW s).At≠26 \/ 0<=(gW s).Else
      ·have hb:iC 0 c.Code k i s= .inl 5:=by unfold iC;rw[if_neg ho,if_pos h27,if_neg h0,if_pos hc]
       have hq:((opAt c.Code (gW s).At !=26)||decide (0<=(gW s).Else))=true:=by rw[Bool.or_eq_true,bne_iff_ne,decide_eq_true_eq];exact hc
       rw[hb,hq];simp
      ·have hb:iC 0 c.Code k i s= .inr (s.1.set (Y3 s) (ax.mk (gW s).At (k:Int) (gW s).End (gW s).Height (gW s).Result),s.2):=by unfold iC;rw[if_neg ho,if_pos h27,if_neg h0,if_neg hc]
       have hq:((opAt c.Code (gW s).At !=26)||decide (0<=(gW s).Else))=false:=by
        rw[Bool.eq_false_iff,ne_eq,Bool.or_eq_true,bne_iff_ne,decide_eq_true_eq];exact hc
       have:=ih _ (hinv _ hb);rw[hb,hq];simp only[cond_false,Bool.true_or,Bool.and_self,cond_true];exact this
    ·have b27:(i.Op==27)=false:=by rw[beq_eq_false_iff_ne];exact h27
     rw[b27,cond_false]
     by_cases h28:i.Op=28
     ·have b28:(i.Op==28)=true:=by rw[h28];rfl
      rw[b28,cond_true]
      by_cases h0:s.2.length=0
      ·have hb:iC 0 c.Code k i s= .inl 5:=by unfold iC;rw[if_neg ho,if_neg h27,if_pos h28,if_pos h0]
       rw[hb,h0,wz];rfl
      ·have ht:=agy hI h0
       have hat:=am4 hI h0;have q:decide (((s.2.length-1:Nat):Int)<0)=false:=by rw[decide_eq_false_iff_not];omega
       have e1:=ht.2.symm;have hA:inB (gW s).At c.Code.length=true:=JM ⟨hat.1,by omega⟩
       have hS:s.2.length-1<s.2.length:=by omega
       have hsl:xG (0:Int) ((s.2.length-1:Nat):Int) s.2.length=true:=by unfold xG;simp
       simp only[Hz h0 h6,q,cond_false,Int.toNat_natCast,e1,bf,ht.1,hS,decide_true,hsl];rw[show List.getD s.1 (Y3 s) ax.zero=gW s from rfl,show (List.getD c.Code (Int.toNat (gW s).At) bH.zero).Op=opAt c.Code (gW s).At from rfl,hA]
       by_cases hc:(opAt c.Code (gW s).At=26 /\ (gW s).Result=true) /\ (gW s).Else<0
       ·have hb:iC 0 c.Code k i s= .inl 7:=by unfold iC;rw[if_neg ho,if_neg h27,if_pos h28,if_neg h0,if_pos hc]
        have hq:(((opAt c.Code (gW s).At==26)&&(gW s).Result)&&decide ((gW s).Else<0))=true:=by rw[Bool.and_eq_true,Bool.and_eq_true,beq_iff_eq,decide_eq_true_eq];exact hc
        rw[hb,hq];rfl
       ·have hb:iC 0 c.Code k i s= .inr (s.1.set (Y3 s) (ax.mk (gW s).At (gW s).Else (k:Int) (gW s).Height (gW s).Result),s.2.take (s.2.length-1)):=by unfold iC;rw[if_neg ho,if_neg h27,if_pos h28,if_neg h0,if_neg hc]
        have hq:(((opAt c.Code (gW s).At==26)&&(gW s).Result)&&decide ((gW s).Else<0))=false:=by rw[Bool.eq_false_iff,ne_eq,Bool.and_eq_true,Bool.and_eq_true,beq_iff_eq,decide_eq_true_eq];exact hc
        have:=ih _ (hinv _ hb);rw[hb,hq];simp only[cond_false,Bool.and_self,cond_true];exact this
     ·have b28:(i.Op==28)=false:=by rw[beq_eq_false_iff_ne];exact h28
      have hb:iC 0 c.Code k i s= .inr s:=by unfold iC;rw[if_neg ho,if_neg h27,if_neg h28]
      have:=ih _ (hinv _ hb);rw[b28,cond_false,hb];exact this
  ·have:k=c.Code.length:=by omega
   subst this;simp[zW]
theorem aAz (c:aJ) (hn:c.Code.length<=120):M.Ls c=some (match yu 0 c with
 | .inl p=>([],p.1,p.2)
 | .inr b=>(b,0,0)):=by
 unfold M.Ls yu;have e:=acE c hn aA 0 ([],[]) (Nat.zero_le _) (by have:=bU;omega) arU
 have e':M.kM c.Code (c.Code.length:Int) c aA 0 [] []=_:=e;rw[e',Nat.sub_zero]
 cases h:zW 0 c.Code c.Code.length 0 ([],[]) with
 |inl p=>rfl
 |inr s=>
  simp only
  by_cases h0:s.2.length=0
  ·rw[if_pos h0,h0];rfl
  ·rw[if_neg h0]
   have:decide ((0:Int)<((s.2.length:Nat):Int))=true:=by rw[decide_eq_true_eq];omega
   rw[this];rfl
end M
namespace M
open Go.V (inB xG aA bU)
theorem aCn (m:aI) (c:aJ) (s:L6) (bl:List ax) (h6:s.op.length<=6):M.xK m.ja m.ak m.bg c.Name c.Params c.gz c.Result c.Code bl s.Y4 s.h s.kn s.op s.ba=some ((L8 s).aAA,(L8 s).Height,m.ja,m.ak,m.bg,c.Name,c.Params,c.gz,c.Result,c.Code,bl,s.Y4,s.h,s.kn,(L8 s).aw1,s.op,s.ba):=by
 have hown:M.gQ s.op=some s.op:=by
  unfold M.gQ;rw[show decide (s.op.length<=1099511627776)=true by rw[decide_eq_true_eq];omega]
  rfl
 unfold M.xK L8;rw[hown];obtain ⟨Y4,op,ba,ht,kn⟩:=s
 cases kn<;>rfl
theorem azc (p:bP):bP.mk p.aAA p.Height p.aw1=p:=rfl
theorem akF {m:aI} {c:aJ} {P:List (Int×Bool)} {Bf:BS} {e:Int} (hf:aza m c P Bf) {bl:List ax} (hbl:bl.map pr=P):∀(f k:Nat) (B:BS) (s:L6) (out:List bP),k<=c.Code.length->c.Code.length-k<f->BInv k B->avp B s->zW e c.Code (c.Code.length-k) k B= .inr Bf->out.length=k->
 M.sS bl c.Code (c.Code.length:Int) c f (k:Int) m.ja m.ak m.bg c.Name c.Params c.gz c.Result c.Code bl s.Y4 s.h s.kn out s.op s.ba=some (match ajf m c P (c.Code.length-k) k s out with
   | .inl p=> .inl (p.1,p.2,[],[])
   | .inr p=> .inr (bl,c,m.ja,m.ak,m.bg,c.Name,c.Params,c.gz,c.Result,c.Code,bl,p.1.Y4,p.1.h,p.1.kn,p.2,p.1.op,p.1.ba))
 |0,k,B,s,out,h1,h2,_,_,_,_=>by omega
 |f+1,k,B,s,out,h1,h2,hB,hs,hb,hl=>by
  have hn:=(hf.mok.core c hf.core).2.2
  rcases Nat.lt_or_ge k c.Code.length with hk |hk
  ·obtain ⟨r,hrn⟩:∃r,c.Code.length-k=r+1:=⟨c.Code.length-k-1,by omega⟩
   have hr':c.Code.length-(k+1)=r:=by omega
   rw[hrn] at hb ⊢;simp only[zW] at hb
   cases hx:iC e c.Code k (c.Code.getD k bH.zero) B with
   |inl x=>rw[hx] at hb;cases hb
   |inr B'=>
    rw[hx] at hb;simp only at hb;have hat:=hf.at_ hk hB hs hx hb;obtain ⟨y,hy,hc⟩:=aDo hat hbl;have h6:s.op.length<=6:=by rw[hs.op];exact hB.six
    rw[M.sS];have hw:Go.IntKind.wrap .i64 ((k:Int)+1)=((k+1:Nat):Int):=df hk (by omega)
    have hd:decide (out.length+([L8 s]:List bP).length<=1073741824)=true:=by rw[decide_eq_true_eq,hl,List.length_cons,List.length_nil];omega
    simp only[Int.ofNat_lt,hk,decide_true,cond_true,aCn m c s bl h6,Option.getD_some,azc,stI,Int.toNat_natCast,hy,bf,Option.isSome_some,Bool.and_true,Bool.and_self,hd,hw,ajf]
    cases hcs:I4 m c P (c.Code.getD k bH.zero) s with
    |inl x=>
     rw[hcs] at hc;simp only at hc;have:(y.1 !=0)=true:=by rw[bne_iff_ne,hc];exact arX hcs
     rw[this,hc];rfl
    |inr s'=>
     rw[hcs] at hc;simp only at hc;subst hc;have hz:(((0:Int) !=0))=false:=by decide
     have ho2:=akF hf hbl f (k+1) B' s' (out++[L8 s]) (by omega) (by omega) (J4 hB hx) (arV hf.mok hs hx hcs) (by rw[hr'];exact hb) (by rw[List.length_append,hl];rfl)
     rw[hr'] at ho2;simp only[hz,cond_false,stI];exact ho2
  ·have:k=c.Code.length:=by omega
   subst this;rw[M.sS];simp[ajf]
theorem azd {m:aI} (hm:MOk m) {k:Nat} (hk:k<m.bg.length):M.P6 m (k:Int)=some ((I5 m m.bg[k]).2.1,(I5 m m.bg[k]).2.2,(I5 m m.bg[k]).1):=by
 have hmem:=List.getElem_mem hk;have hn:=(hm.core _ hmem).2.2;unfold M.P6 I5 pbl;simp only[Int.toNat_natCast,getD_lt hk,bf,hk,decide_true,Bool.and_true,Bool.and_self]
 generalize hc:m.bg[k]=c at hn hmem ⊢
 rw[aAz c hn];have hb:∀p,yu 0 c= .inl p->p.2≠0:=fun p h=>by
  unfold yu at h
  cases hx:zW 0 c.Code c.Code.length 0 ([],[]) with
  |inl q=>rw[hx] at h;injection h with h;subst h;exact aoS _ _ _ _ hx
  |inr q=>
   rw[hx] at h;simp only at h;split at h
   ·cases h
   ·injection h with h;subst h
    show (5:Int)≠0
    decide
 cases hbl:yu 0 c with
 |inl p=>
  have:(p.2 !=0)=true:=by rw[bne_iff_ne];exact hb p hbl
  simp only[Option.getD_some,Option.isSome_some,agx,this,cond_true]
  first |done |rfl
 |inr b=>
  obtain ⟨Bf,hrun,hbf⟩:∃Bf:BS,zW 0 c.Code c.Code.length 0 ([],[])= .inr Bf /\ Bf.1=b:=by
   unfold yu at hbl
   cases hx:zW 0 c.Code c.Code.length 0 ([],[]) with
   |inl q=>rw[hx] at hbl;cases hbl
   |inr q=>
    rw[hx] at hbl;simp only at hbl;split at hbl
    ·injection hbl with hbl;exact ⟨q,rfl,hbl⟩
    ·cases hbl
  have hinv:=(agz c.Code.length 0 ([],[]) Bf arU hrun).2;rw[Nat.zero_add] at hinv;have hf:aza m c (b.map pr) Bf:=⟨hm,hmem,by rw[<-hbf];rfl,hinv⟩
  have ho:=akF (e:=0) hf (bl:=b) rfl aA 0 ([],[]) s0 [] (Nat.zero_le _) (by have:=bU;omega) arU aCO (by rw[Nat.sub_zero];exact hrun) rfl
  have ho':M.sS b c.Code (c.Code.length:Int) c aA 0 m.ja m.ak m.bg c.Name c.Params c.gz c.Result c.Code b 0 0 true [] [] []=_:=ho;rw[Nat.sub_zero] at ho';have hz:((0:Int) !=0)=false:=by decide
  simp only[Option.getD_some,Option.isSome_some,agx,hz,cond_false,ho']
  cases hcr:ajf m c (b.map pr) c.Code.length 0 s0 [] with
  |inl p=>rfl
  |inr p=>
   have hlen:=aoT _ _ _ _ _ hcr;simp only[ax5,Option.getD_some,Option.isSome_some,Bool.true_or,Bool.and_self,Bool.and_true,cond_true];have hd:decide (p.2.length+([bP.mk true (vS c.Result) []]:List bP).length<=1073741824)=true:=by
    rw[decide_eq_true_eq,hlen];simp only[List.length_cons,List.length_nil];omega
   by_cases hq:p.1.kn=true /\ p.1.h≠vS c.Result
   ·have q:(p.1.kn&&(p.1.h !=vS c.Result))=true:=by rw[Bool.and_eq_true,bne_iff_ne];exact hq
    rw[if_pos hq,q];rfl
   ·have q:(p.1.kn&&(p.1.h !=vS c.Result))=false:=by rw[Bool.eq_false_iff,ne_eq,Bool.and_eq_true,bne_iff_ne];exact hq
    rw[if_neg hq,q,hd];rfl
end M
namespace M
open Go.V (inB xG aA bU)
def chB (c:UInt8):Bool:=((((decide ((97:Int)<=((c.toNat:Nat):Int))&&decide (((c.toNat:Nat):Int)<=122))||(decide ((48:Int)<=((c.toNat:Nat):Int))&&decide (((c.toNat:Nat):Int)<=57)))||(((c.toNat:Nat):Int)==45))||(((c.toNat:Nat):Int)==46))||(((c.toNat:Nat):Int)==47)
def wOk (s:List UInt8):Bool:=s.all chB&&(decide (1<=s.length)&&decide (s.length<=40))
theorem aES (c:UInt8):decide (M.agu [(45:UInt8),(46:UInt8),(47:UInt8)] ((c.toNat:Nat):Int)<0)= !(((((c.toNat:Nat):Int)==45)||(((c.toNat:Nat):Int)==46))||(((c.toNat:Nat):Int)==47)):=by
 have e:((c.toNat:Nat):Int).toNat.toUInt8=c:=by rw[Int.toNat_natCast];exact UInt8.ofNat_toNat
 unfold M.agu;rw[e];have h:∀(n:UInt8),(n==c)=(((c.toNat:Nat):Int)==((n.toNat:Nat):Int)):=fun n=>by
  rw[Bool.eq_iff_iff,beq_iff_eq,beq_iff_eq];constructor
  ·rintro rfl;rfl
  ·intro h;exact UInt8.toNat_inj.1 (by omega)
 unfold Go.Lib.indexByte Go.Lib.indexByte Go.Lib.indexByte Go.Lib.indexByte;rw[h 45,h 46,h 47];have n1:(((45:UInt8).toNat:Nat):Int)=45:=rfl;have n2:(((46:UInt8).toNat:Nat):Int)=46:=rfl;have n3:(((47:UInt8).toNat:Nat):Int)=47:=rfl;rw[n1,n2,n3]
 cases (((c.toNat:Nat):Int)==45)<;>cases (((c.toNat:Nat):Int)==46)<;>cases (((c.toNat:Nat):Int)==47)<;>rfl
theorem aCP (s:List UInt8):(decide ((1:Int)<=((s.length:Nat):Int))&&decide (((s.length:Nat):Int)<=40))=(decide (1<=s.length)&&decide (s.length<=40)):=by
 congr 1<;>simp only[decide_eq_decide]<;>omega
theorem aAB (s:List UInt8) (h:s.length<=1048576):M.EW s=some (wOk s):=by
 have e:=yF (p:=chB) (F:=M.xe s) (e:=s) (b:=false) s (by omega) (fun f k hk=>by
  rw[M.xe];simp only[getD_lt hk,Int.toNat_natCast,bf,Int.ofNat_lt,hk,decide_true,cond_true,Bool.and_true,df hk (by omega:s.length<2^62)]
  rw[show chB s[k]=(((((decide ((97:Int)<=((s[k].toNat:Nat):Int))&&decide (((s[k].toNat:Nat):Int)<=122))||(decide ((48:Int)<=((s[k].toNat:Nat):Int))&&decide (((s[k].toNat:Nat):Int)<=57)))||(((s[k].toNat:Nat):Int)==45))||(((s[k].toNat:Nat):Int)==46))||(((s[k].toNat:Nat):Int)==47)) from rfl]
  generalize (((((decide ((97:Int)<=((s[k].toNat:Nat):Int))&&decide (((s[k].toNat:Nat):Int)<=122))||(decide ((48:Int)<=((s[k].toNat:Nat):Int))&&decide (((s[k].toNat:Nat):Int)<=57)))||(((s[k].toNat:Nat):Int)==45))||(((s[k].toNat:Nat):Int)==46))||(((s[k].toNat:Nat):Int)==47))=b
  cases b<;>rfl) (fun f=>by rw[M.xe];simp)
 unfold M.EW wOk;rw[e]
 cases s.all chB
 ·rfl
 ·rw[if_pos rfl];simp only[aCP,Bool.true_and]
theorem aDq (s:List UInt8) (h:s.length<=1048576):M.Xa s=some (wOk s):=by
 have e:=yF (p:=chB) (F:=M.yV s (s.length:Int)) (e:=s) (b:=false) s (by omega) (fun f k hk=>by
  rw[M.yV];simp only[getD_lt hk,Int.toNat_natCast,bf,Int.ofNat_lt,hk,decide_true,cond_true,Bool.and_true,Bool.true_or,df hk (by omega:s.length<2^62),aES]
  unfold chB
  generalize (decide ((97:Int)<=((s[k].toNat:Nat):Int))&&decide (((s[k].toNat:Nat):Int)<=122))=b1
  generalize (decide ((48:Int)<=((s[k].toNat:Nat):Int))&&decide (((s[k].toNat:Nat):Int)<=57))=b2
  cases b1<;>cases b2<;>cases (((s[k].toNat:Nat):Int)==45)<;>cases (((s[k].toNat:Nat):Int)==46)<;>cases (((s[k].toNat:Nat):Int)==47)<;>rfl) (fun f=>by rw[M.yV];simp)
 unfold M.Xa wOk;rw[e]
 cases s.all chB
 ·rfl
 ·rw[if_pos rfl];simp only[aCP,Bool.true_and]
theorem aEf {b c:Bool}:(bif b then b else c)=(b||c):=by cases b<;>rfl
theorem agA (op:Int):∃y,M.GV op=some y /\ (op≠1->0<=y.1 /\ y.2.1<=4096):=by
 unfold M.GV;simp only[aEf];simp only[aEg]
 by_cases h1:(op==1)=true
 ·rw[if_pos h1];exact ⟨_,rfl,fun h=>absurd (by simpa using h1) h⟩
 rw[if_neg h1]
 repeat' split
 all_goals
  refine ⟨_,rfl,fun _=> ?_⟩
  constructor<;>simp
noncomputable def adU (i:bH):Bool:=(M.Nw i).getD false
theorem aCQ (i:bH):M.Nw i=some (adU i) /\ M.aeO i=some (adU i):=by
 obtain ⟨y,hy, -⟩:=agA i.Op;have e:M.Nw i=some (adU i):=by
  unfold adU M.Nw;rw[hy];rfl
 exact ⟨e,e⟩
theorem aCo {i:bH} (h:adU i=true):(1<=i.Op /\ i.Op<=40) /\ (i.Op≠1->0<=i.A /\ i.A<=16777216):=by
 obtain ⟨y,hy,hb⟩:=agA i.Op;unfold adU M.Nw at h;rw[hy] at h;simp only[Option.isSome_some,Option.getD_some,Bool.and_self,cond_true,Bool.and_eq_true,decide_eq_true_eq] at h;refine ⟨h.1,fun h1=> ?_⟩
 have:=hb h1;omega
noncomputable def cOk (c:aJ):Bool:=(((decide ((0:Int)<=c.Params)&&decide (c.Params<=8))&&(decide ((0:Int)<=c.gz)&&decide (c.gz<=8)))&&decide (c.Code.length<=120))&&c.Code.all adU
theorem aDr (c:aJ) (h:c.Code.length<=1048576):M.WQ c=some (cOk c):=by
 have e:=ik (p:=fun i=> !adU i) (F:=M.gB c.Code (c.Code.length:Int)) (e:=()) (fun k=>k) c.Code (by omega) (fun f k hk=>by
  rw[M.gB];have ec:M.GX c.Code[k]=some (!adU c.Code[k]):=by unfold M.GX;rw[(aCQ _).1];rfl
  simp only[getD_lt hk,ec,Int.toNat_natCast,bf,Int.ofNat_lt,hk,decide_true,cond_true,Bool.true_and,Bool.and_true,df hk (by omega:c.Code.length<2^62),Option.getD_some,Option.isSome_some]) (fun f=>by
  rw[M.gB];simp)
 have e2:M.je c.Code=some (!c.Code.all adU):=by
  unfold M.je M.mJ;rw[e,List.not_all_eq_any_not,iZ]
  cases c.Code.findIdx? (fun i=> !adU i)<;>simp
 have e3:decide (((c.Code.length:Nat):Int)<=120)=decide (c.Code.length<=120):=by simp only[decide_eq_decide];omega
 unfold M.WQ cOk;rw[e2,e3];simp only[Option.isSome_some,Option.getD_some,Bool.true_or,Bool.and_self,cond_true,Bool.not_not]
theorem aDs (c:aJ) (h:c.Code.length<=1048576) (hn:c.Name.length<=1048576):M.PI c=some (wOk c.Name&&cOk c):=by
 have e:=yF (p:=adU) (F:=M.wW c) (e:=()) (b:=false) c.Code (by omega) (fun f k hk=>by
  rw[M.wW];simp only[getD_lt hk,(aCQ _).2,Int.toNat_natCast,bf,Int.ofNat_lt,hk,decide_true,cond_true,Bool.true_and,Bool.and_true,df hk (by omega:c.Code.length<2^62),Option.getD_some,Option.isSome_some]
  cases adU c.Code[k]<;>rfl) (fun f=>by rw[M.wW];simp)
 have e3:decide ((120:Int)<((c.Code.length:Nat):Int))= !decide (c.Code.length<=120):=by rw[<-decide_not];simp only[decide_eq_decide];omega
 unfold M.PI cOk;rw[aAB c.Name hn,e,e3];simp only[Option.isSome_some,Option.getD_some,Bool.and_self,cond_true]
 generalize (decide ((0:Int)<=c.Params)&&decide (c.Params<=8))=b1
 generalize (decide ((0:Int)<=c.gz)&&decide (c.gz<=8))=b2
 generalize decide (c.Code.length<=120)=b3
 cases wOk c.Name<;>cases b1<;>cases b2<;>cases b3<;>cases c.Code.all adU<;>rfl
def atE (x:aF):Bool:=decide ((0:Int)<=x.Params)&&decide (x.Params<=8)
def ahe (l:List (List UInt8)):Bool:=nodupB l&&l.all wOk
noncomputable def U4 (m:aI):Bool:=(((decide ((1:Int)<=m.ja)&&decide (m.ja<=16))&&decide (m.ak.length<=12))&&decide (m.bg.length<=8))&&((m.ak.all atE&&m.bg.all cOk)&&(ahe (m.ak.map aF.Name)&&ahe (m.bg.map aJ.Name)))
theorem aCR (n:Nat):decide ((12:Int)<((n:Nat):Int))= !decide (n<=12):=by rw[<-decide_not];simp only[decide_eq_decide];omega
theorem len8 (n:Nat):decide ((8:Int)<((n:Nat):Int))= !decide (n<=8):=by rw[<-decide_not];simp only[decide_eq_decide];omega
theorem aAC (l:List aF) (name:List UInt8) (h:l.length<=1048576):∃y,M.Ar l name=some y /\ decide ((0:Int)<=y)=l.any fun x=>x.Name==name:=by
 have e:=ik (p:=fun x:aF=>x.Name==name) (F:=M.lY l name) (e:=()) (fun k=>k) l (by omega) (fun f k hk=>by
  rw[M.lY];simp only[getD_lt hk,Int.toNat_natCast,bf,Int.ofNat_lt,hk,decide_true,cond_true,Bool.and_true,df hk (by omega:l.length<2^62)]) (fun f=>by rw[M.lY];simp)
 unfold M.Ar;rw[e,iZ]
 cases l.findIdx? (fun x:aF=>x.Name==name) with
 |none=>exact ⟨_,rfl,rfl⟩
 |some k=>exact ⟨_,rfl,by simp⟩
theorem aDt (l:List aJ) (name:List UInt8) (h:l.length<=1048576):∃y,M.GM l name=some y /\ decide ((0:Int)<=y)=l.any fun x=>x.Name==name:=by
 have e:=ik (p:=fun x:aJ=>x.Name==name) (F:=M.qB l name) (e:=()) (fun k=>k) l (by omega) (fun f k hk=>by
  rw[M.qB];simp only[getD_lt hk,Int.toNat_natCast,bf,Int.ofNat_lt,hk,decide_true,cond_true,Bool.and_true,df hk (by omega:l.length<2^62)]) (fun f=>by rw[M.qB];simp)
 unfold M.GM;rw[e,iZ]
 cases l.findIdx? (fun x:aJ=>x.Name==name) with
 |none=>exact ⟨_,rfl,rfl⟩
 |some k=>exact ⟨_,rfl,by simp⟩
theorem aEh {i n:Nat} (h:i<=n):xG (0:Int) (i:Int) n=true:=by unfold xG;simp;omega
theorem azf (m:aI) (h:m.sz<=1048576):M.KE m=some (U4 m):=by
 rw[aI.dJ] at h;have hi:m.ak.length<=1048576:=Nat.le_trans (dh aF.sz _) (by omega)
 have hc:m.bg.length<=1048576:=Nat.le_trans (dh aJ.sz _) (by omega)
 have e0:=uQ (p:=fun i=>(wOk (m.ak.getD i aF.zero).Name&&atE (m.ak.getD i aF.zero))&& !((m.ak.take i).any fun x=>x.Name==(m.ak.getD i aF.zero).Name)) (F:=M.uf m) (e:=m) (b:=false) m.ak.length (by omega) (fun f k hk=>by
  rw[M.uf];have hsz:=dY aF.sz _ _ (List.getElem_mem hk);have hn:m.ak[k].Name.length<=1048576:=by rw[aF.dJ] at hsz;omega
  obtain ⟨y,hy,hy2⟩:=aAC (m.ak.take k) m.ak[k].Name (by rw[List.length_take];omega)
  have hd:∀l:List aF,List.drop (Int.toNat (0:Int)) l=l:=fun l=>rfl
  simp only[getD_lt hk,Int.toNat_natCast,bf,Int.ofNat_lt,hk,decide_true,cond_true,Bool.and_true,Bool.true_and,hd,hy,hy2,aAB _ hn,Option.getD_some,Option.isSome_some,Bool.true_or,aEh (Nat.le_of_lt hk),df hk (by omega:m.ak.length<2^62)]
  rw[show atE m.ak[k]=(decide ((0:Int)<=m.ak[k].Params)&&decide (m.ak[k].Params<=8)) from rfl]
  generalize (decide ((0:Int)<=m.ak[k].Params)&&decide (m.ak[k].Params<=8))=b1
  generalize ((m.ak.take k).any fun x=>x.Name==m.ak[k].Name)=b2
  cases wOk m.ak[k].Name<;>cases b1<;>cases b2<;>rfl) (fun f=>by rw[M.uf];simp)
 have e1:=uQ (p:=fun i=>(wOk (m.bg.getD i aJ.zero).Name&&cOk (m.bg.getD i aJ.zero))&& !((m.bg.take i).any fun x=>x.Name==(m.bg.getD i aJ.zero).Name)) (F:=M.ug m) (e:=()) (b:=false) m.bg.length (by omega) (fun f k hk=>by
  rw[M.ug];have hsz:=dY aJ.sz _ _ (List.getElem_mem hk);have hn:m.bg[k].Name.length<=1048576 /\ m.bg[k].Code.length<=1048576:=by
   rw[aJ.dJ] at hsz;have:=dh bH.sz m.bg[k].Code;omega
  obtain ⟨y,hy,hy2⟩:=aDt (m.bg.take k) m.bg[k].Name (by rw[List.length_take];omega)
  have hd:∀l:List aJ,List.drop (Int.toNat (0:Int)) l=l:=fun l=>rfl
  simp only[getD_lt hk,Int.toNat_natCast,bf,Int.ofNat_lt,hk,decide_true,cond_true,Bool.and_true,Bool.true_and,hd,hy,hy2,aDs _ hn.2 hn.1,Option.getD_some,Option.isSome_some,Bool.true_or,aEh (Nat.le_of_lt hk),df hk (by omega:m.bg.length<2^62)]
  generalize ((m.bg.take k).any fun x=>x.Name==m.bg[k].Name)=b2
  cases wOk m.bg[k].Name<;>cases cOk m.bg[k]<;>cases b2<;>rfl) (fun f=>by rw[M.ug];simp)
 rw[agB,aoV aF.Name,aoW (fun x:aF=>wOk x.Name&&atE x),agB] at e0
 rw[agB,aoV aJ.Name,aoW (fun x:aJ=>wOk x.Name&&cOk x),agB] at e1
 have w1:(m.ak.map aF.Name).all wOk=m.ak.all fun x=>wOk x.Name:=by rw[List.all_map];rfl
 have w2:(m.bg.map aJ.Name).all wOk=m.bg.all fun x=>wOk x.Name:=by rw[List.all_map];rfl
 unfold M.KE U4 ahe;rw[aCR,len8,e0,w1,w2]
 generalize (decide ((1:Int)<=m.ja)&&decide (m.ja<=16))=b0
 generalize decide (m.ak.length<=12)=b1
 generalize decide (m.bg.length<=8)=b2
 generalize (m.ak.all fun x=>wOk x.Name)=b3
 generalize m.ak.all atE=b4
 generalize nodupB (m.ak.map aF.Name)=b5
 generalize (m.bg.all fun x=>wOk x.Name)=b6 at e1 ⊢
 generalize m.bg.all cOk=b7 at e1 ⊢
 generalize nodupB (m.bg.map aJ.Name)=b8 at e1 ⊢
 cases b0
 ·rfl
 cases b1
 ·rfl
 cases b2
 ·rfl
 cases b3<;>cases b4<;>cases b5
 all_goals first
  |(cases b6<;>cases b7<;>cases b8<;>rfl)
  |(simp only[Bool.and_self,if_true,Bool.not_true,Bool.or_self,cond_false,Bool.true_and,e1]
    cases b6<;>cases b7<;>cases b8<;>rfl)
end M
namespace M
open Go.V (inB xG aA bU)
theorem ax7 (l:List (List UInt8)) (hl:l.length<=1048576) (h:∀x∈l,x.length<=1048576):M.JY l=some (ahe l):=by
 have e:=ik (p:=fun s=> !wOk s) (F:=M.dV l (l.length:Int)) (e:=()) (fun k=>k) l (by omega) (fun f k hk=>by
  rw[M.dV];have ec:M.DL l[k]=some (!wOk l[k]):=by unfold M.DL;rw[aDq _ (h _ (List.getElem_mem hk))];rfl
  simp only[getD_lt hk,ec,Int.toNat_natCast,bf,Int.ofNat_lt,hk,decide_true,cond_true,Bool.true_and,Bool.and_true,df hk (by omega:l.length<2^62),Option.getD_some,Option.isSome_some]) (fun f=>by
  rw[M.dV];simp)
 have e2:M.gK l=some (!l.all wOk):=by
  unfold M.gK M.jf;rw[e,List.not_all_eq_any_not,iZ]
  cases l.findIdx? (fun i=> !wOk i)<;>simp
 unfold M.JY ahe;rw[e2,FK l hl];simp only[Option.isSome_some,Option.getD_some,Bool.true_or,Bool.and_self,cond_true,Bool.not_not]
theorem ax8 {α:Type} (nm:α->List UInt8) (l:List α) (k:Nat) (hk:k<l.length):(l.take k).map nm++[nm l[k]]=(l.take (k+1)).map nm:=by
 rw[List.take_add_one,List.map_append,List.getElem?_eq_getElem hk];rfl
theorem ahf (m:aI) (h:m.sz<=1048576):M.mM m=some (U4 m):=by
 rw[aI.dJ] at h;have hi:m.ak.length<=1048576:=Nat.le_trans (dh aF.sz _) (by omega)
 have hc:m.bg.length<=1048576:=Nat.le_trans (dh aJ.sz _) (by omega)
 have k0:∀g k,k<=m.ak.length->m.ak.length-k<g->M.jX m.ak (m.ak.length:Int) m [] g (k:Int) ((m.ak.take k).map aF.Name)=some (if (m.ak.drop k).all atE then .inr (m,m.ak.map aF.Name,[]) else .inl false):=by
  intro g
  induction g with
  |zero=>intro k h1 h2;omega
  |succ g ih=>
   intro k h1 h2
   rcases Nat.lt_or_ge k m.ak.length with hk |hk
   ·rw[M.jX]
    have hd:decide ((((m.ak.take k).map aF.Name).length+([m.ak[k].Name]:List (List UInt8)).length)<=1073741824)=true:=by
     simp only[decide_eq_true_eq,List.length_map,List.length_take,List.length_cons,List.length_nil];omega
    simp only[getD_lt hk,Int.toNat_natCast,bf,Int.ofNat_lt,hk,decide_true,cond_true,Bool.true_and,Bool.and_true,df hk (by omega:m.ak.length<2^62),hd,ax8 aF.Name _ k hk]
    rw[ih (k+1) (by omega) (by omega),iQ hk,List.all_cons]
    rw[show atE m.ak[k]=(decide ((0:Int)<=m.ak[k].Params)&&decide (m.ak[k].Params<=8)) from rfl]
    cases (decide ((0:Int)<=m.ak[k].Params)&&decide (m.ak[k].Params<=8))<;>simp
   ·have:k=m.ak.length:=by omega
    subst this;rw[M.jX];simp
 have k1:∀g k,k<=m.bg.length->m.bg.length-k<g->M.jY m.bg (m.bg.length:Int) (m.ak.map aF.Name) g (k:Int) ((m.bg.take k).map aJ.Name)=some (if (m.bg.drop k).all cOk then .inr (m.ak.map aF.Name,m.bg.map aJ.Name) else .inl false):=by
  intro g
  induction g with
  |zero=>intro k h1 h2;omega
  |succ g ih=>
   intro k h1 h2
   rcases Nat.lt_or_ge k m.bg.length with hk |hk
   ·rw[M.jY]
    have hsz:=dY aJ.sz _ _ (List.getElem_mem hk);have hn:m.bg[k].Code.length<=1048576:=by
     rw[aJ.dJ] at hsz;have:=dh bH.sz m.bg[k].Code;omega
    have hd:decide ((((m.bg.take k).map aJ.Name).length+([m.bg[k].Name]:List (List UInt8)).length)<=1073741824)=true:=by
     simp only[decide_eq_true_eq,List.length_map,List.length_take,List.length_cons,List.length_nil];omega
    simp only[getD_lt hk,aDr _ hn,Option.getD_some,Option.isSome_some,Int.toNat_natCast,bf,Int.ofNat_lt,hk,decide_true,cond_true,Bool.true_and,Bool.and_true,df hk (by omega:m.bg.length<2^62),hd,ax8 aJ.Name _ k hk]
    rw[ih (k+1) (by omega) (by omega),iQ hk,List.all_cons]
    cases cOk m.bg[k]<;>simp
   ·have:k=m.bg.length:=by omega
    subst this;rw[M.jY];simp
 have e0:=k0 aA 0 (Nat.zero_le _) (by have:=bU;omega)
 have e0':M.jX m.ak (m.ak.length:Int) m [] aA 0 []=_:=e0;have e1:=k1 aA 0 (Nat.zero_le _) (by have:=bU;omega)
 have e1':M.jY m.bg (m.bg.length:Int) (m.ak.map aF.Name) aA 0 []=_:=e1;rw[List.drop_zero] at e0' e1';have n0:∀x∈m.ak.map aF.Name,x.length<=1048576:=fun x hx=>by
  obtain ⟨y,hy,rfl⟩:=List.mem_map.1 hx;have:=dY aF.sz _ _ hy;rw[aF.dJ] at this;omega
 have n1:∀x∈m.bg.map aJ.Name,x.length<=1048576:=fun x hx=>by
  obtain ⟨y,hy,rfl⟩:=List.mem_map.1 hx;have:=dY aJ.sz _ _ hy;rw[aJ.dJ] at this;omega
 unfold M.mM U4;rw[aCR,len8,e0']
 generalize (decide ((1:Int)<=m.ja)&&decide (m.ja<=16))=b0
 generalize decide (m.ak.length<=12)=b1
 generalize decide (m.bg.length<=8)=b2
 cases b0
 ·rfl
 cases b1
 ·rfl
 cases b2
 ·rfl
 cases m.ak.all atE
 ·rfl
 ·simp only[if_true,Bool.not_true,Bool.or_self,cond_false,e1']
  cases m.bg.all cOk
  ·rfl
  ·simp only[if_true,ax7 _ (by rw[List.length_map];exact hi) n0,ax7 _ (by rw[List.length_map];exact hc) n1,Option.getD_some,Option.isSome_some,Bool.true_or,Bool.and_self,cond_true,Bool.true_and]
theorem aAD {m:aI} (h:U4 m=true):MOk m:=by
 unfold U4 at h;simp only[Bool.and_eq_true,decide_eq_true_eq,List.all_eq_true] at h;obtain ⟨⟨⟨-,hi⟩,hc⟩,⟨h1,h2⟩, -⟩:=h;have hcore:∀x∈m.bg,((0<=x.Params /\ x.Params<=8) /\ (0<=x.gz /\ x.gz<=8) /\ x.Code.length<=120) /\ ∀i∈x.Code,adU i=true:=fun x hx=>by
  have:=h2 x hx;unfold cOk at this;simp only[Bool.and_eq_true,decide_eq_true_eq,List.all_eq_true] at this;exact ⟨⟨this.1.1.1,this.1.1.2,this.1.2⟩,this.2⟩
 refine ⟨hc,hi,fun x hx=> ?_,fun x hx=>(hcore x hx).1,fun x hx i hi'=>aCo ((hcore x hx).2 i hi')⟩
 have:=h1 x hx;unfold atE at this;simpa using this
end M
namespace M
open Go.V (inB xG aA bU)
def aCp (m:aI):Int×Int×Int:=
 match m.bg.findIdx? (fun c=>(I5 m c).2.2 !=0) with
 |some k=>((k:Int),(I5 m (m.bg.getD k aJ.zero)).2)
 |none=>(0,0,0)
def gOf (m:aI) (x:Int):Int×Int×Int:=(x,(I5 m (m.bg.getD x.toNat aJ.zero)).2)
theorem am6 (m:aI) (k:Nat):gOf m (k:Int)=((k:Int),(I5 m (m.bg.getD k aJ.zero)).2):=by
 unfold gOf;rw[Int.toNat_natCast]
theorem aAE {m:aI} (hm:MOk m):M.nC m aA 0=some (match m.bg.findIdx? (fun c=>(I5 m c).2.2 !=0) with
 |some k=> .inl (gOf m (k:Int))
 |none=> .inr ()):=
 ik (p:=fun c=>(I5 m c).2.2 !=0) (F:=M.nC m) (e:=()) (gOf m) m.bg (by have:=hm.Y0;omega) (fun f k hk=>by
  rw[M.nC,am6];have:=hm.Y0;simp only[azb hm hk,getD_lt hk,Int.ofNat_lt,hk,decide_true,cond_true,Option.getD_some,Option.isSome_some,Bool.and_self,df hk (by omega:m.bg.length<2^62)]) (fun f=>by rw[M.nC];simp)
theorem aAF {m:aI} (hm:MOk m):M.jZ (m.bg.length:Int) m aA 0=some (match m.bg.findIdx? (fun c=>(I5 m c).2.2 !=0) with
 |some k=> .inl (gOf m (k:Int))
 |none=> .inr ()):=
 ik (p:=fun c=>(I5 m c).2.2 !=0) (F:=M.jZ (m.bg.length:Int) m) (e:=()) (gOf m) m.bg (by have:=hm.Y0;omega) (fun f k hk=>by
  rw[M.jZ,am6];have:=hm.Y0;have hb:=azd hm hk;simp only[hb,getD_lt hk,Int.ofNat_lt,hk,decide_true,cond_true,Option.getD_some,Option.isSome_some,Bool.and_self,df hk (by omega:m.bg.length<2^62)]) (fun f=>by rw[M.jZ];simp)
noncomputable def aur (m:aI):Int×Int×Int:=if U4 m=true then aCp m else (0,0,1)
theorem aEi (m:aI) (h:m.sz<=1048576):M.GN m=some (aur m):=by
 unfold M.GN aur;rw[azf m h];simp only[Option.getD_some,Option.isSome_some,Bool.and_self,cond_true]
 cases hb:U4 m
 ·rfl
 ·rw[if_pos rfl,aAE (aAD hb)]
  unfold aCp
  cases m.bg.findIdx? (fun c=>(I5 m c).2.2 !=0) with
  |none=>rfl
  |some k=>simp only[Bool.not_true,cond_false,am6]
theorem aCq (m:aI) (h:m.sz<=1048576):M.Az m=some (aur m):=by
 unfold M.Az aur;rw[ahf m h];simp only[Option.getD_some,Option.isSome_some,Bool.and_self,cond_true,Bool.and_true]
 cases hb:U4 m
 ·rfl
 ·have e:M.Aw m=some (aCp m):=by
   unfold M.Aw aCp;rw[aAF (aAD hb)]
   cases m.bg.findIdx? (fun c=>(I5 m c).2.2 !=0) with
   |none=>rfl
   |some k=>simp only[am6]
  rw[if_pos rfl,e];rfl
theorem aD6 (m:aI) (h:m.sz<=1048576):M.KF m=some ((aur m).2.2==0):=by
 unfold M.KF M.RU;rw[aEi m h];rfl
theorem aD7 (m:aI) (h:m.sz<=1048576):M.KW m=some ((aur m).2.2==0):=by
 unfold M.KW;rw[aCq m h];rfl
end M
