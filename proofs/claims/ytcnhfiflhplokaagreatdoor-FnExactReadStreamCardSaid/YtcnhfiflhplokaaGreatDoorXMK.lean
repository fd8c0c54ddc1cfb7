/-
  RUNNING NUMBERS: the mark of a text is some text.
-/
import Derived.Test.YtcnhfiflhplokaaGreatDoorXMK0
import Derived.Test.YtcnhfiflhplokaaGreatDoorXLSM
import Derived.Test.YtcnhfiflhplokaaGreatDoorXLSH
import Derived.Test.YtcnhfiflhplokaaGreatDoorXQU
set_option linter.unusedVariables false
set_option linter.unusedSimpArgs false
namespace M
open Go.V (inB CO aG cZ)
theorem aeP {n:Nat} (h:n<10):Go.IntKind.wrap .u8 (Go.IntKind.wrap .i64 ((48:Int)+(n:Int)))=((48+n:Nat):Int):=by
 rw[wrap_i64 (by omega) (by omega)]
 have:∀m:Fin 10,Go.IntKind.wrap .u8 ((48:Int)+((m.val:Nat):Int))=((48+m.val:Nat):Int):=by decide
 exact this ⟨n,h⟩
theorem aaw {n:Nat} (h:n<10):Go.V.Gh ((48+n:Nat):Int)=true:=by
 unfold Go.V.Gh;simp only[Bool.and_eq_true,decide_eq_true_eq];omega
theorem aeQ {a b:List UInt8} (h:a.length+b.length<=100000):Go.V.adZ a b=true:=by
 unfold Go.V.adZ;rw[decide_eq_true_eq];omega
theorem Md : ∀(j f k:Nat) (out:List UInt8),k<10^j->j<f->k<4611686018427387904->out.length+j<=1000->∃s,M.oq f (k:Int) out=some s /\ s.length<=out.length+j
 |j,0,k,out,_,h,_,_=>by omega
 |0,f+1,k,out,h1,h2,h3,h4=>by
  have:k=0:=by simpa using h1
  subst this;exact ⟨out,by rw[M.oq];simp,Nat.le_refl _⟩
 |j+1,f+1,k,out,h1,h2,h3,h4=>by
  rw[M.oq]
  rcases Nat.eq_zero_or_pos k with h0 |h0
  ·subst h0
   exact ⟨out,by simp,by omega⟩
  ·have hd:decide ((0:Int)<(k:Int))=true:=by rw[decide_eq_true_eq];omega
   have e3:Int.tmod (k:Int) 10=((k%10:Nat):Int):=(Int.ofNat_tmod k 10).symm;have e4:Go.IntKind.wrap .i64 (Int.tdiv (k:Int) 10)=((k/10:Nat):Int):=by
    rw[show Int.tdiv (k:Int) 10=((k/10:Nat):Int) from (Int.ofNat_tdiv k 10).symm,wrap_i64 (by omega) (by omega)]
   have hm:k%10<10:=Nat.mod_lt _ (by decide)
   obtain ⟨s,g1,g2⟩:=Md j f (k/10) ([Go.V.Ae ((48+k%10:Nat):Int)]++out) (by rw[Nat.pow_succ] at h1;omega) (by omega) (by omega) (by simp;omega)
   refine ⟨s, ?_,by simp at g2;omega⟩
   simp only[hd,e3,e4,aeP hm,aaw hm,cond_true,List.map_cons,List.map_nil];rw[aeQ (by simp;omega)]
   exact g1
theorem aax (k:Int) (h0:0<=k) (h1:k<=1000000000000):∃s,M.fK k=some s:=by
 obtain ⟨n,rfl⟩:=Int.eq_ofNat_of_zero_le h0;unfold M.fK
 by_cases hz:(n:Int)<=0
 ·rw[decide_eq_true hz];exact ⟨_,rfl⟩
 ·rw[decide_eq_false hz]
  obtain ⟨s,e,hl⟩:=Md 13 aG n [] (by omega) (by have:=cZ;omega) (by omega) (by simp)
  rw[e];simp only[cond_false];rw[aeQ (by simp at hl ⊢;omega)]
  exact ⟨_,rfl⟩
noncomputable def mT (k:Int):List UInt8:=(M.fK k).getD Inhabited.default
theorem Yf {k:Int} (h0:0<=k) (h1:k<=1000000000000):M.fK k=some (mT k):=by
 obtain ⟨s,e⟩:=aax k h0 h1;unfold mT;rw[e];rfl
noncomputable def mS (k:Int) (_:List UInt8):Int×List UInt8:=(k+1,mT k)
theorem ac4 (l:List (List UInt8)) (k:Int):k<=(bT mS k l).1 /\ (bT mS k l).1=k+(l.length:Int):=by
 induction l generalizing k with
 |nil=>simp[bT]
 |cons x r ih=>have:=ih (k+1);simp only[bT,mS,List.length_cons] at*;omega
theorem aay (a:List (List UInt8)) (ha:a.length<=1048576) (k:Int) (h0:0<=k) (h1:k<=100000000000):M.lu k a=some (bT mS k a):=by
 unfold M.lu;rw[Qr (F:=M.jB) (mk:=mS) a ha (fun i q=>q=k+(i:Int)) [] (fun f q i l hi hl hg hI=>by
  subst hI;rw[M.jB];have hmt:=Yf (k:=k+(i:Int)) (by omega) (by omega)
  have hlt:decide ((i:Int)<((l.length:Nat):Int))=true:=by rw[decide_eq_true_eq];omega
  have hin:inB (i:Int) l.length=true:=by rw[dS];simpa using hl
  simp only[hlt,hin,hmt,Int.toNat_natCast,cond_true,Bool.true_and,Bool.and_true,Option.isSome_some,Option.getD_some,gW hi (kQ ha)];have hw:Go.IntKind.wrap .i64 (k+(i:Int)+1)=k+(i:Int)+1:=wrap_i64 (by omega) (by omega)
  rw[hw];exact ⟨rfl,by simp[mS];omega⟩) (fun f q l hl=>by rw[M.jB];simp[hl]) k (by simp)]
end M
namespace M
open Go.V (inB CO aG cZ)
theorem ae.p1 (a b c d):(ae.mk a b c d).Kind=a:=rfl
theorem ae.p2 (a b c d):(ae.mk a b c d).Name=b:=rfl
theorem ae.p3 (a b c d):(ae.mk a b c d).aQ=c:=rfl
theorem ae.p4 (a b c d):(ae.mk a b c d).Kids=d:=rfl
theorem af.p1 (a b c d):(af.mk a b c d).Kind=a:=rfl
theorem af.p2 (a b c d):(af.mk a b c d).Num=b:=rfl
theorem af.p3 (a b c d):(af.mk a b c d).Text=c:=rfl
theorem af.p4 (a b c d):(af.mk a b c d).Kids=d:=rfl
mutual
noncomputable def IB :Int->ae->Int×ae
 |k, .mk _ _ ls ks=>((Vm (bT mS (k+1+1) ls).1 ks).1, .mk k (mT (k+1)) (bT mS (k+1+1) ls).2 (Vm (bT mS (k+1+1) ls).1 ks).2)
noncomputable def Vm :Int->List ae->Int×List ae
 |k,[]=>(k,[])
 |k,x::r=>((Vm (IB k x).1 r).1,(IB k x).2::(Vm (IB k x).1 r).2)
end
theorem Ze : ∀(k:Int) (l:List ae),Vm k l=bT IB k l
 |k,[]=>by simp only[Vm,bT]
 |k,x::r=>by simp only[Vm,bT,Ze]
theorem Qs (k:Int) (a:ae):IB k a=((bT IB (bT mS (k+1+1) a.aQ).1 a.Kids).1, .mk k (mT (k+1)) (bT mS (k+1+1) a.aQ).2 (bT IB (bT mS (k+1+1) a.aQ).1 a.Kids).2):=by
 cases a;simp only[IB,Ze];rfl
mutual
theorem ab1 : ∀(x:ae) (k:Int),k<=(IB k x).1 /\ (IB k x).1<=k+2+2*(x.sz:Int)
 | .mk a b ls ks,k=>by
   have h1:=ac4 ls (k+1+1);have h2:=Zf ks (bT mS (k+1+1) ls).1;have h3:=dV List.length ls;have h4:=ae.Nq ks;simp only[IB,ae.sz];omega
theorem Zf : ∀(l:List ae) (k:Int),k<=(Vm k l).1 /\ (Vm k l).1<=k+2*(jv ae.sz l:Int)
 | [],k=>by simp[Vm,jv]
 |x::r,k=>by
  have h1:=ab1 x k;have h2:=Zf r (IB k x).1;simp only[Vm,jv];omega
end
theorem ab2 (l:List ae) (k:Int):k<=(bT IB k l).1 /\ (bT IB k l).1<=k+2*(jv ae.sz l:Int):=by
 rw[<-Ze];exact Zf l k
theorem Yg : ∀(n:Nat) (a:List ae) (k:Int),jv ae.sz a<n->jv ae.sz a<=1048576->0<=k->k+2*(jv ae.sz a:Int)<=100000000000->M.ou n k a=some (bT IB k a)
 |0,a,k,h,_,_,_=>by omega
 |n+1,a,k,h,hz,h0,h1=>by
  have hlen:=dV ae.sz a
  show M.tC (M.ou n) k a=_
  unfold M.tC;rw[Qr (F:=M.lY (M.ou n)) (mk:=IB) a (by omega) (fun i q=>0<=q /\ q+2*(jv ae.sz (a.drop i):Int)<=100000000000) ae.zero (fun f q i l hi hl hg hI=>by
   rw[iy hi,jv] at hI;have hle:=ab1 a[i] q;have hmem:=gK ae.sz a a[i] (List.getElem_mem hi);have hpos:=qL ae.sz a a[i] (List.getElem_mem hi);have hs:=ae.jP a[i];have hll:=dV List.length a[i].aQ;have hkk:=dV ae.sz a[i].Kids;have hms:=ac4 a[i].aQ (q+1+1);rw[M.lY];have hlt:decide ((i:Int)<((l.length:Nat):Int))=true:=by rw[decide_eq_true_eq];omega
   have hin:inB (i:Int) l.length=true:=by rw[dS];simpa using hl
   have w1:Go.IntKind.wrap .i64 (q+1)=q+1:=wrap_i64 (by omega) (by omega)
   have w2:Go.IntKind.wrap .i64 (q+1+1)=q+1+1:=wrap_i64 (by omega) (by omega)
   have e1:=Yf (k:=q+1) (by omega) (by omega)
   have e2:=aay a[i].aQ (by omega) (q+1+1) (by omega) (by omega)
   have e3:=Yg n a[i].Kids (bT mS (q+1+1) a[i].aQ).1 (by omega) (by omega) (by omega) (by omega)
   refine ⟨?_,by omega,by omega⟩
   simp only[hlt,hin,Int.toNat_natCast,cond_true,Bool.true_and,Bool.and_true,aaz,hl,List.length_set,hg,w1,w2,ae.p1,ae.p2,ae.p3,ae.p4,e1,e2,e3,Option.isSome_some,Option.getD_some,gW hi (kQ (show a.length<=1048576 by omega)),List.set_set]
   rw[Qs]) (fun f q l hl=>by rw[M.lY];simp[hl]) k ⟨h0,by simpa using h1⟩]
theorem ab3 (a:List ae) (k:Int) (hz:jv ae.sz a<=1048576) (h0:0<=k) (h1:k<=1000000000):M.Dt k a=some (bT IB k a):=
 Yg _ a k (by have:=cZ;omega) hz h0 (by omega)
mutual
noncomputable def IC :Int->af->Int×af
 |k, .mk _ _ _ ks=>((Vo (k+1+1+1) ks).1, .mk k (k+1) (mT (k+1+1)) (Vo (k+1+1+1) ks).2)
noncomputable def Vo :Int->List af->Int×List af
 |k,[]=>(k,[])
 |k,x::r=>((Vo (IC k x).1 r).1,(IC k x).2::(Vo (IC k x).1 r).2)
end
theorem Zg : ∀(k:Int) (l:List af),Vo k l=bT IC k l
 |k,[]=>by simp only[Vo,bT]
 |k,x::r=>by simp only[Vo,bT,Zg]
theorem Qu (k:Int) (a:af):IC k a=((bT IC (k+1+1+1) a.Kids).1, .mk k (k+1) (mT (k+1+1)) (bT IC (k+1+1+1) a.Kids).2):=by
 cases a;simp only[IC,Zg];rfl
mutual
theorem ab4 : ∀(x:af) (k:Int),k<=(IC k x).1 /\ (IC k x).1<=k+3+3*(x.sz:Int)
 | .mk a b t ks,k=>by
   have h2:=Zh ks (k+1+1+1);have h4:=af.Nq ks;simp only[IC,af.sz];omega
theorem Zh : ∀(l:List af) (k:Int),k<=(Vo k l).1 /\ (Vo k l).1<=k+3*(jv af.sz l:Int)
 | [],k=>by simp[Vo,jv]
 |x::r,k=>by
  have h1:=ab4 x k;have h2:=Zh r (IC k x).1;simp only[Vo,jv];omega
end
theorem ab5 (l:List af) (k:Int):k<=(bT IC k l).1 /\ (bT IC k l).1<=k+3*(jv af.sz l:Int):=by
 rw[<-Zg];exact Zh l k
theorem Yh : ∀(n:Nat) (a:List af) (k:Int),jv af.sz a<n->jv af.sz a<=1048576->0<=k->k+3*(jv af.sz a:Int)<=100000000000->M.lZ n k a=some (bT IC k a)
 |0,a,k,h,_,_,_=>by omega
 |n+1,a,k,h,hz,h0,h1=>by
  have hlen:=dV af.sz a
  show M.ru (M.lZ n) k a=_
  unfold M.ru;rw[Qr (F:=M.kC (M.lZ n)) (mk:=IC) a (by omega) (fun i q=>0<=q /\ q+3*(jv af.sz (a.drop i):Int)<=100000000000) af.zero (fun f q i l hi hl hg hI=>by
   rw[iy hi,jv] at hI;have hle:=ab4 a[i] q;have hmem:=gK af.sz a a[i] (List.getElem_mem hi);have hpos:=qL af.sz a a[i] (List.getElem_mem hi);have hs:=af.jP a[i];have hkk:=dV af.sz a[i].Kids;rw[M.kC];have hlt:decide ((i:Int)<((l.length:Nat):Int))=true:=by rw[decide_eq_true_eq];omega
   have hin:inB (i:Int) l.length=true:=by rw[dS];simpa using hl
   have w1:Go.IntKind.wrap .i64 (q+1)=q+1:=wrap_i64 (by omega) (by omega)
   have w2:Go.IntKind.wrap .i64 (q+1+1)=q+1+1:=wrap_i64 (by omega) (by omega)
   have w3:Go.IntKind.wrap .i64 (q+1+1+1)=q+1+1+1:=wrap_i64 (by omega) (by omega)
   have e1:=Yf (k:=q+1+1) (by omega) (by omega)
   have e3:=Yh n a[i].Kids (q+1+1+1) (by omega) (by omega) (by omega) (by omega)
   refine ⟨?_,by omega,by omega⟩
   simp only[hlt,hin,Int.toNat_natCast,cond_true,Bool.true_and,Bool.and_true,aaz,hl,List.length_set,hg,w1,w2,w3,af.p1,af.p2,af.p3,af.p4,e1,e3,Option.isSome_some,Option.getD_some,gW hi (kQ (show a.length<=1048576 by omega)),List.set_set]
   rw[Qu]) (fun f q l hl=>by rw[M.kC];simp[hl]) k ⟨h0,by simpa using h1⟩]
theorem ab6 (a:List af) (k:Int) (hz:jv af.sz a<=1048576) (h0:0<=k) (h1:k<=1000000000):M.Ad k a=some (bT IC k a):=
 Yh _ a k (by have:=cZ;omega) hz h0 (by omega)
end M
namespace M
open Go.V (inB CO aG cZ)
theorem Kr {α β Y:Type} {F:Nat->Int->List β->Option Y} {h:List β->Option Y} (g:α->β) (l:List α) (hn:l.length<=1048576) (aeR:List β)
 (step:∀f k out,∀hk:k<l.length,out.length=aeR.length+k->F (f+1) (k:Int) out=F f ((k+1:Nat):Int) (out++[g l[k]]))
 (stop:∀f out,F (f+1) (l.length:Int) out=h out):F aG 0 aeR=h (aeR++l.map g):=by
 have key:∀f k out,k<=l.length->l.length-k<f->out.length=aeR.length+k->F f (k:Int) out=h (out++(l.drop k).map g):=by
  intro f
  induction f with
  |zero=>intro k out h1 h2;omega
  |succ f ih=>
   intro k out h1 h2 ho
   rcases Nat.lt_or_ge k l.length with hk |hk
   ·rw[step f k out hk ho,ih (k+1) _ (by omega) (by omega) (by simp[ho];omega),iy hk]
    simp only[List.map_cons,List.append_assoc,List.singleton_append]
   ·have:k=l.length:=by omega
    subst this;rw[stop,List.drop_length];simp
 have:=key aG 0 aeR (Nat.zero_le _) (by have:=cZ;omega) rfl
 simpa using this
theorem Zi {a b:Nat} (h:a+b<=1073741824):decide (a+b<=1073741824)=true:=by rw[decide_eq_true_eq];exact h
theorem aaA : ∀(m:Nat) (t:ae),t.sz<m->t.sz<=1048576->M.nK m t=some (t.Kind,t.Name,t.aQ,t.Kids)
 |0,t,h,_=>by omega
 |m+1,t,h,hN=>by
  have hs:=ae.jP t;have hkk:=dV ae.sz t.Kids;have hll:=dV List.length t.aQ
  show M.wE (M.nK m) t=_
  unfold M.wE;have e1:M.uX (M.nK m) t.Kids=some t.Kids:=by
   unfold M.uX;rw[Kr (F:=M.lU (M.nK m) t.Kids (t.Kids.length:Int)) (h:=some) id t.Kids (by omega) [] (fun f k out hk ho=>by
    have hmem:=gK ae.sz t.Kids t.Kids[k] (List.getElem_mem hk);have hpos:=qL ae.sz t.Kids t.Kids[k] (List.getElem_mem hk);rw[M.lU];have e:=aaA m t.Kids[k] (by omega) (by omega)
    have hc:=Zi (a:=out.length) (b:=1) (by simp at ho;omega)
    simp only[ae.aU,Int.ofNat_lt,hk,decide_true,cond_true,Int.toNat_natCast,getD_lt hk,e,dS,Option.isSome_some,Option.getD_some,ae.eta,List.length_cons,List.length_nil,Nat.zero_add,hc,Bool.true_and,Bool.and_true,gW hk (kQ (show t.Kids.length<=1048576 by omega)),id]) (fun f out=>by rw[M.lU];simp)]
   simp
  have e2:M.dL t.aQ=some t.aQ:=by
   unfold M.dL;rw[decide_eq_true (by omega)];rfl
  simp only[e1,e2,Option.isSome_some,Option.getD_some,Bool.true_and,Bool.and_true,cond_true]
theorem aht (t:ae) (h:t.sz<=1048576):M.FW t=some (t.Kind,t.Name,t.aQ,t.Kids):=
 aaA _ t (by have:=cZ;omega) h
theorem Vp (rec:af->Option (Int×Int×List UInt8×List af)) (l:List af) (hl:l.length<=1048576) (hr:∀x∈l,rec x=some (x.Kind,x.Num,x.Text,x.Kids)):M.kL rec l=some l:=by
 unfold M.kL;rw[Kr (F:=M.ku rec l (l.length:Int)) (h:=some) id l hl [] (fun f k out hk ho=>by
  rw[M.ku];have e:=hr l[k] (List.getElem_mem hk);have hc:=Zi (a:=out.length) (b:=1) (by simp at ho;omega)
  simp only[af.aU,Int.ofNat_lt,hk,decide_true,cond_true,Int.toNat_natCast,getD_lt hk,e,dS,Option.isSome_some,Option.getD_some,af.eta,List.length_cons,List.length_nil,Nat.zero_add,hc,Bool.true_and,Bool.and_true,gW hk (kQ hl),id]) (fun f out=>by rw[M.ku];simp)]
 simp
theorem aaB : ∀(m:Nat) (t:af),t.sz<m->t.sz<=1048576->M.oh m t=some (t.Kind,t.Num,t.Text,t.Kids)
 |0,t,h,_=>by omega
 |m+1,t,h,hN=>by
  have hs:=af.jP t;have hkk:=dV af.sz t.Kids
  show M.sZ (M.oh m) t=_
  unfold M.sZ;have e1:=Vp (M.oh m) t.Kids (by omega) fun x hx=>by
   have:=gK af.sz t.Kids x hx;have:=qL af.sz t.Kids x hx;exact aaB m x (by omega) (by omega)
  simp only[e1,Option.isSome_some,Option.getD_some,Bool.true_and,Bool.and_true,cond_true]
theorem ahu (t:af) (h:t.sz<=1048576):M.uY t=some (t.Kind,t.Num,t.Text,t.Kids):=
 aaB _ t (by have:=cZ;omega) h
theorem aeS (l:List af) (h:jv af.sz l<=1048576):M.kL M.uY l=some l:=
 Vp _ l (Nat.le_trans (dV _ _) h) fun x hx=>ahu x (Nat.le_trans (gK af.sz l x hx) h)
def ah.mJ (s:ah):Int×(List UInt8)×Int×Bool×Int×Int×Bool×Bool×(List (List UInt8))×(List ae)×(List af):=(s.cu.Kind,s.cu.Name,s.Room,s.fB,s.Put,s.L9,s.Shut,s.Gone,s.cu.aQ,s.cu.Kids,s.Buffer)
theorem Vq (s:ah) (ht:s.cu.sz<=1048576) (hb:jv af.sz s.Buffer<=1048576):M.qc s=some s.mJ:=by
 unfold M.qc;simp only[ae.aU,aeS _ hb,aht _ ht,Option.isSome_some,Option.getD_some,Bool.true_and,Bool.and_true,cond_true]
 rfl
end M
namespace M
open Go.V (inB CO aG cZ)
theorem aaC (a:List (List UInt8)) (ha:a.length<=1048576) (k:Int) (h0:0<=k) (h1:k<=100000000000):M.jK (bT mS k a).2 k=some (bT mS k a).1:=by
 unfold M.jK;rw[Qv (F:=M.jC (bT mS k a).2) (mk:=mS) (fin:=id) a ha (fun i q=>q=k+(i:Int)) [] k (by simp) (fun f q i y hi e1 e2 hI=>by
  subst hI;subst e2;rw[M.jC];have hmt:=Yf (k:=k+(i:Int)) (by omega) (by omega)
  have hlt:decide ((i:Int)<(((bT mS k a).2.length:Nat):Int))=true:=by rw[decide_eq_true_eq,oU];omega
  have hin:inB (i:Int) (bT mS k a).2.length=true:=by rw[dS,oU];simpa using hi
  have hw:Go.IntKind.wrap .i64 (k+(i:Int)+1)=k+(i:Int)+1:=wrap_i64 (by omega) (by omega)
  simp only[hlt,hin,hmt,e1,mS,Int.toNat_natCast,cond_true,cond_false,Bool.true_and,Bool.and_true,Option.isSome_some,Option.getD_some,gW hi (kQ ha),beq_self_eq_true,Bool.not_true,hw];exact ⟨trivial,by omega⟩) (fun f q=>by rw[M.jC];simp[oU])]
 rfl
theorem aeT (k:Int) (a:ae):(IB k a).2.Kind=k:=by rw[Qs];rfl
theorem aeU (k:Int) (a:ae):(IB k a).2.Name=mT (k+1):=by rw[Qs];rfl
theorem ab7 (k:Int) (a:ae):(IB k a).2.aQ=(bT mS (k+1+1) a.aQ).2:=by rw[Qs];rfl
theorem aeV (k:Int) (a:ae):(IB k a).2.Kids=(bT IB (bT mS (k+1+1) a.aQ).1 a.Kids).2:=by rw[Qs];rfl
theorem ag5 (k:Int) (a:ae):(IB k a).1=(bT IB (bT mS (k+1+1) a.aQ).1 a.Kids).1:=by rw[Qs]
theorem vz {n:Int} (h:0<=n):decide (n<0)=false:=by rw[decide_eq_false_iff_not];omega
theorem Yi : ∀(n:Nat) (a:List ae) (k:Int),jv ae.sz a<n->jv ae.sz a<=1048576->0<=k->k+2*(jv ae.sz a:Int)<=100000000000->M.oz n (bT IB k a).2 k=some (bT IB k a).1
 |0,a,k,h,_,_,_=>by omega
 |n+1,a,k,h,hz,h0,h1=>by
  have hlen:=dV ae.sz a
  show M.tH (M.oz n) (bT IB k a).2 k=_
  unfold M.tH;rw[Qv (F:=M.l7 (M.oz n) (bT IB k a).2) (mk:=IB) (fin:=id) a (by omega) (fun i q=>0<=q /\ q+2*(jv ae.sz (a.drop i):Int)<=100000000000) ae.zero k ⟨h0,by simpa using h1⟩ (fun f q i y hi e1 e2 hI=>by
   subst e2;rw[iy hi,jv] at hI;have hle:=ab1 a[i] q;have hmem:=gK ae.sz a a[i] (List.getElem_mem hi);have hpos:=qL ae.sz a a[i] (List.getElem_mem hi);have hs:=ae.jP a[i];have hll:=dV List.length a[i].aQ;have hkk:=dV ae.sz a[i].Kids;have hms:=ac4 a[i].aQ (q+1+1);rw[M.l7];have hlt:decide ((i:Int)<(((bT IB k a).2.length:Nat):Int))=true:=by rw[decide_eq_true_eq,oU];omega
   have hin:inB (i:Int) (bT IB k a).2.length=true:=by rw[dS,oU];simpa using hi
   have w1:Go.IntKind.wrap .i64 (q+1)=q+1:=wrap_i64 (by omega) (by omega)
   have w2:Go.IntKind.wrap .i64 (q+1+1)=q+1+1:=wrap_i64 (by omega) (by omega)
   have m1:=Yf (k:=q+1) (by omega) (by omega)
   have m2:=aaC a[i].aQ (by omega) (q+1+1) (by omega) (by omega)
   have m3:=Yi n a[i].Kids (bT mS (q+1+1) a[i].aQ).1 (by omega) (by omega) (by omega) (by omega)
   have n1:=vz (n:=(bT mS (q+1+1) a[i].aQ).1) (by omega)
   have n2:=vz (n:=(bT IB (bT mS (q+1+1) a[i].aQ).1 a[i].Kids).1) (by rw[<-ag5];omega)
   refine ⟨?_,by omega,by omega⟩
   simp only[hlt,hin,e1,Int.toNat_natCast,cond_true,cond_false,Bool.true_and,Bool.and_true,aeT,aeU,ab7,aeV,w1,w2,m1,m2,m3,n1,n2,Option.isSome_some,Option.getD_some,gW hi (kQ (show a.length<=1048576 by omega)),beq_self_eq_true,bne_self_eq_false,Bool.not_true,Bool.and_self]
   rw[ag5]) (fun f q=>by rw[M.l7];simp[oU])]
  rfl
theorem ab8 (a:List ae) (k:Int) (hz:jv ae.sz a<=1048576) (h0:0<=k) (h1:k<=1000000000):M.zf (bT IB k a).2 k=some (bT IB k a).1:=
 Yi _ a k (by have:=cZ;omega) hz h0 (by omega)
theorem aeW (k:Int) (a:af):(IC k a).2.Kind=k:=by rw[Qu];rfl
theorem agw (k:Int) (a:af):(IC k a).2.Num=k+1:=by rw[Qu];rfl
theorem aeX (k:Int) (a:af):(IC k a).2.Text=mT (k+1+1):=by rw[Qu];rfl
theorem aeY (k:Int) (a:af):(IC k a).2.Kids=(bT IC (k+1+1+1) a.Kids).2:=by rw[Qu];rfl
theorem ag6 (k:Int) (a:af):(IC k a).1=(bT IC (k+1+1+1) a.Kids).1:=by rw[Qu]
theorem Yj : ∀(n:Nat) (a:List af) (k:Int),jv af.sz a<n->jv af.sz a<=1048576->0<=k->k+3*(jv af.sz a:Int)<=100000000000->M.l9 n (bT IC k a).2 k=some (bT IC k a).1
 |0,a,k,h,_,_,_=>by omega
 |n+1,a,k,h,hz,h0,h1=>by
  have hlen:=dV af.sz a
  show M.ry (M.l9 n) (bT IC k a).2 k=_
  unfold M.ry;rw[Qv (F:=M.kD (M.l9 n) (bT IC k a).2) (mk:=IC) (fin:=id) a (by omega) (fun i q=>0<=q /\ q+3*(jv af.sz (a.drop i):Int)<=100000000000) af.zero k ⟨h0,by simpa using h1⟩ (fun f q i y hi e1 e2 hI=>by
   subst e2;rw[iy hi,jv] at hI;have hle:=ab4 a[i] q;have hmem:=gK af.sz a a[i] (List.getElem_mem hi);have hpos:=qL af.sz a a[i] (List.getElem_mem hi);have hs:=af.jP a[i];have hkk:=dV af.sz a[i].Kids;rw[M.kD];have hlt:decide ((i:Int)<(((bT IC k a).2.length:Nat):Int))=true:=by rw[decide_eq_true_eq,oU];omega
   have hin:inB (i:Int) (bT IC k a).2.length=true:=by rw[dS,oU];simpa using hi
   have w1:Go.IntKind.wrap .i64 (q+1)=q+1:=wrap_i64 (by omega) (by omega)
   have w2:Go.IntKind.wrap .i64 (q+1+1)=q+1+1:=wrap_i64 (by omega) (by omega)
   have w3:Go.IntKind.wrap .i64 (q+1+1+1)=q+1+1+1:=wrap_i64 (by omega) (by omega)
   have m1:=Yf (k:=q+1+1) (by omega) (by omega)
   have m3:=Yj n a[i].Kids (q+1+1+1) (by omega) (by omega) (by omega) (by omega)
   have n2:=vz (n:=(bT IC (q+1+1+1) a[i].Kids).1) (by rw[<-ag6];omega)
   refine ⟨?_,by omega,by omega⟩
   simp only[hlt,hin,e1,Int.toNat_natCast,cond_true,cond_false,Bool.true_and,Bool.and_true,aeW,agw,aeX,aeY,w1,w2,w3,m1,m3,n2,Option.isSome_some,Option.getD_some,gW hi (kQ (show a.length<=1048576 by omega)),beq_self_eq_true,bne_self_eq_false,Bool.not_true,Bool.and_self]
   rw[ag6]) (fun f q=>by rw[M.kD];simp[oU])]
  rfl
theorem ab9 (a:List af) (k:Int) (hz:jv af.sz a<=1048576) (h0:0<=k) (h1:k<=1000000000):M.wO (bT IC k a).2 k=some (bT IC k a).1:=
 Yj _ a k (by have:=cZ;omega) hz h0 (by omega)
noncomputable def k1 (k:Int) (s:ah):Int:=(bT mS k s.cu.aQ).1
noncomputable def k2 (k:Int) (s:ah):Int:=(bT IB (k1 k s) s.cu.Kids).1
noncomputable def k3 (k:Int) (s:ah):Int:=(bT IC (k2 k s) s.Buffer).1
noncomputable def mkL (k:Int) (s:ah):List (List UInt8):=(bT mS k s.cu.aQ).2
noncomputable def mkK (k:Int) (s:ah):List ae:=(bT IB (k1 k s) s.cu.Kids).2
noncomputable def mkB (k:Int) (s:ah):List af:=(bT IC (k2 k s) s.Buffer).2
theorem ac5 {k:Int} {s:ah} (ht:s.cu.sz<=1048576) (hb:jv af.sz s.Buffer<=1048576) (h0:0<=k) (h1:k<=100000000):
 (k<=k1 k s /\ k1 k s<=k2 k s /\ k2 k s<=k3 k s /\ k3 k s<=k+10000000) /\ s.cu.aQ.length<=1048576 /\ jv ae.sz s.cu.Kids<=1048576:=by
 have hs:=ae.jP s.cu;have hll:=dV List.length s.cu.aQ;have a1:=ac4 s.cu.aQ k;have a2:=ab2 s.cu.Kids (k1 k s);have a3:=ab5 s.Buffer (k2 k s);unfold k3 k2 k1 at*;refine ⟨?_,by omega,by omega⟩
 omega
theorem XT (a:Int) (a2:List UInt8) (a3:Int) (a4:Bool) (a5 a6:Int) (a7 a8:Bool) (s:ah) (k:Int) (ht:s.cu.sz<=1048576) (hb:jv af.sz s.Buffer<=1048576) (h0:0<=k) (h1:k<=100000000):
 M.jJ a a2 a3 a4 a5 a6 a7 a8 k s.cu.aQ s.cu.Kids s.Buffer=some (k3 k s,mkL k s,mkK k s,mkB k s):=by
 have hk:=ac5 (k:=k) ht hb h0 h1;unfold M.jJ M.BQ;have e1:=aay s.cu.aQ hk.2.1 k h0 (by omega)
 have e2:=ab3 s.cu.Kids (k1 k s) hk.2.2 (by omega) (by omega)
 have e3:=ab6 s.Buffer (k2 k s) hb (by omega) (by omega)
 unfold k2 k1 at e3;unfold k1 at e2;simp only[e1,e2,e3,Option.isSome_some,Option.getD_some,Bool.true_and,Bool.and_true,cond_true]
 rfl
theorem XU (a:Int) (a2:List UInt8) (a3:Int) (a4:Bool) (a5 a6:Int) (a7 a8:Bool) (s:ah) (k:Int) (ht:s.cu.sz<=1048576) (hb:jv af.sz s.Buffer<=1048576) (h0:0<=k) (h1:k<=100000000):
 M.nN (ah.mk (ae.mk a a2 (mkL k s) (mkK k s)) a3 a4 (mkB k s) a5 a6 a7 a8) k=some (k3 k s):=by
 have hk:=ac5 (k:=k) ht hb h0 h1;have e1:M.jK (mkL k s) k=some (k1 k s):=aaC s.cu.aQ hk.2.1 k h0 (by omega)
 have e2:M.zf (mkK k s) (k1 k s)=some (k2 k s):=ab8 s.cu.Kids (k1 k s) hk.2.2 (by omega) (by omega)
 have e3:M.wO (mkB k s) (k2 k s)=some (k3 k s):=ab9 s.Buffer (k2 k s) hb (by omega) (by omega)
 have e0:M.xZ (ae.mk a a2 (mkL k s) (mkK k s)) k=some (k2 k s):=by
  unfold M.xZ;simp only[ae.p3,ae.p4,e1,e2,Option.isSome_some,Option.getD_some,Bool.true_and,Bool.and_true,cond_true,cond_false,vz (show 0<=k1 k s by omega),vz (show 0<=k2 k s by omega)]
 unfold M.nN;simp only[ae.aU,e0,e3,Option.isSome_some,Option.getD_some,Bool.true_and,Bool.and_true,cond_true,cond_false,vz (show 0<=k2 k s by omega),vz (show 0<=k3 k s by omega)]
end M
namespace M
open Go.V (inB CO aG cZ)
theorem ag7 : ∀(m:Nat) (t:ae),t.sz<m->t.sz<=1048576->M.qZ m t=some t
 |0,t,h,_=>absurd h (Nat.not_lt_zero _)
 |m+1,t,h,hN=>by
  have hl:=ae.kJ hN;have hlb:=ae.Vr hN;have key:∀f k,k<=t.Kids.length->t.Kids.length-k<f->M.pJ (M.qZ m) (0:Int) [] t.Kind t.Name [] [] ([]++t.aQ) f (k:Int) t (t.Kids.take k)=some ((0:Int),[],t.Kind,t.Name,[],[],t.aQ,t.Kids):=by
   intro f
   induction f with
   |zero=>intro k h1 h2;omega
   |succ f ih=>
    intro k h1 h2
    rcases Nat.lt_or_ge k t.Kids.length with hk |hk
    ·rw[M.pJ]
     have hx:=ae.sQ (List.getElem_mem hk);have hd:decide (((t.Kids.take k).length+([t.Kids[k]]:List ae).length)<=1073741824)=true:=by
      simp only[decide_eq_true_eq,List.length_take,List.length_cons,List.length_nil];omega
     have ht:t.Kids.take k++[t.Kids[k]]=t.Kids.take (k+1):=by
      rw[List.take_add_one,List.getElem?_eq_getElem hk];rfl
     simp only[ae.aU,getD_lt hk,ag7 m t.Kids[k] (by omega) (by omega),Int.toNat_natCast,dS,Int.ofNat_lt,hk,decide_true,cond_true,Bool.true_and,Bool.and_true,gW hk (by omega:t.Kids.length<2^62),Option.getD_some,Option.isSome_some,hd,ht]
     exact ih (k+1) (by omega) (by omega)
    ·have:k=t.Kids.length:=by omega
     subst this;rw[M.pJ];simp
  show M.Bv (M.qZ m) t=_
  unfold M.Bv;have e:=key aG 0 (Nat.zero_le _) (by have:=cZ;omega)
  have e':M.pJ (M.qZ m) (0:Int) [] t.Kind t.Name [] [] ([]++t.aQ) aG 0 t []=_:=e;have hd:decide (0+t.aQ.length<=1073741824)=true:=by simp only[decide_eq_true_eq];omega
  simp only[ae.aU,e',hd,Bool.and_self,cond_true]
  cases t;rfl
theorem ag8 : ∀(m:Nat) (v:af),v.sz<m->v.sz<=1048576->M.kN m v=some v
 |0,v,h,_=>absurd h (Nat.not_lt_zero _)
 |m+1,v,h,hN=>by
  have hs:=af.jP v;have hkk:=dV af.sz v.Kids
  show M.wG (M.kN m) v=_
  unfold M.wG;have e:=Kr (F:=fun f i o=>M.jI (M.kN m) 0 0 [] v.Kind v.Num v.Text [] f i v o) (h:=fun o=>some ((0:Int),(0:Int),([]:List UInt8),v.Kind,v.Num,v.Text,([]:List af),o)) id v.Kids (by omega) [] (fun f k out hk ho=>by
   have hmem:=gK af.sz v.Kids v.Kids[k] (List.getElem_mem hk);have hpos:=qL af.sz v.Kids v.Kids[k] (List.getElem_mem hk)
   show M.jI (M.kN m) 0 0 [] v.Kind v.Num v.Text [] (f+1) (k:Int) v out=_
   rw[M.jI];have e:=ag8 m v.Kids[k] (by omega) (by omega)
   have hc:=Zi (a:=out.length) (b:=1) (by simp at ho;omega)
   simp only[af.aU,Int.ofNat_lt,hk,decide_true,cond_true,Int.toNat_natCast,getD_lt hk,e,dS,Option.isSome_some,Option.getD_some,List.length_cons,List.length_nil,Nat.zero_add,hc,Bool.true_and,Bool.and_true,gW hk (kQ (show v.Kids.length<=1048576 by omega)),id]) (fun f out=>by
   show M.jI (M.kN m) 0 0 [] v.Kind v.Num v.Text [] (f+1) (v.Kids.length:Int) v out=_
   rw[M.jI];simp)
  simp only[List.map_id,List.nil_append] at e;rw[af.aU,e];exact congrArg some (af.eta v)
theorem aiQ (v:af) (h:v.sz<=1048576):M.F5 v=some v:=ag8 _ v (by have:=cZ;omega) h
theorem ahv (l:List af) (h:jv af.sz l<=1048576):M.ve l=some l:=by
 have hl:=dV af.sz l;unfold M.ve;rw[Kr (F:=M.lW l) (h:=some) id l (by omega) [] (fun f k out hk ho=>by
  rw[M.lW];have e:=aiQ l[k] (Nat.le_trans (gK af.sz l l[k] (List.getElem_mem hk)) h);have hc:=Zi (a:=out.length) (b:=1) (by simp at ho;omega)
  simp only[af.aU,Int.ofNat_lt,hk,decide_true,cond_true,Int.toNat_natCast,getD_lt hk,e,dS,Option.isSome_some,Option.getD_some,List.length_cons,List.length_nil,Nat.zero_add,hc,Bool.true_and,Bool.and_true,gW hk (kQ (show l.length<=1048576 by omega)),id]) (fun f out=>by rw[M.lW];simp)]
 simp
theorem ah.eta (s:ah):ah.mk s.cu s.Room s.fB s.Buffer s.Put s.L9 s.Shut s.Gone=s:=rfl
theorem ac6 (s:ah) (h:s.sz<=1048576):M.BA s=some s:=by
 unfold M.BA;have e:=ag7 aG s.cu (by have:=ah.tY h;have:=cZ;omega) (ah.tY h)
 have e':M.OD s.cu=some s.cu:=e;simp only[ae.aU,ahv _ (ah.D8 h),e',Option.isSome_some,Option.getD_some,Bool.true_and,Bool.and_true,cond_true]
def ad2 : ah:=ah.mk (ae.mk 0 [] [] []) 0 false [] 0 0 false false
theorem ac7 : ad2.sz=0:=by rw[ah.jP];rfl
def ah.ac8 (s:ah) (c:Int):Int×(List UInt8)×Int×Bool×Int×Int×Bool×Bool×Int×(List (List UInt8))×(List M.ae)×(List M.af):=(s.cu.Kind,s.cu.Name,s.Room,s.fB,s.Put,s.L9,s.Shut,s.Gone,c,s.cu.aQ,s.cu.Kids,s.Buffer)
end M
namespace M
open Go.V (inB CO aG cZ)
theorem Zj (s:ah) (h:s.sz<=1048576):decide (k3 1 s<0)=false:=by
 have:=ac5 (k:=1) (ah.tY h) (ah.D8 h) (by omega) (by omega)
 exact vz (by omega)
theorem aki (s:ah) (h:s.sz<=1048576):1<=k3 1 s /\ k3 1 s<=10000001:=by
 have:=ac5 (k:=1) (ah.tY h) (ah.D8 h) (by omega) (by omega)
 omega
theorem Zk (s:ah) (h:s.sz<=1048576) (a:Int) (a2:List UInt8) (a3:Int) (a4:Bool) (a5 a6:Int) (a7 a8:Bool):
 M.jJ a a2 a3 a4 a5 a6 a7 a8 1 s.cu.aQ s.cu.Kids s.Buffer=some (k3 1 s,mkL 1 s,mkK 1 s,mkB 1 s):=
 XT a a2 a3 a4 a5 a6 a7 a8 s 1 (ah.tY h) (ah.D8 h) (by omega) (by omega)
theorem ae0 (s:ah) (h:s.sz<=1048576) (a:Int) (a2:List UInt8) (a3:Int) (a4:Bool) (a5 a6:Int) (a7 a8:Bool):
 M.nN (ah.mk (ae.mk a a2 (mkL 1 s) (mkK 1 s)) a3 a4 (mkB 1 s) a5 a6 a7 a8) 1=some (k3 1 s):=
 XU a a2 a3 a4 a5 a6 a7 a8 s 1 (ah.tY h) (ah.D8 h) (by omega) (by omega)
end M
namespace M
open Go.V (inB CO aG cZ)
theorem ajz {α:Type} (f:α->Nat) (a b:List α):jv f (a++b)=jv f a+jv f b:=by
 induction a with
 |nil=>simp[jv]
 |cons x r ih=>simp only[List.cons_append,jv,ih];omega
theorem ais {α:Type} (f:α->Nat) (n:Nat) (l:List α):jv f (l.take n)+jv f (l.drop n)=jv f l:=by
 rw[<-ajz,List.take_append_drop]
def aha (s:ah) (most:Int):Nat:=min most.toNat s.Buffer.length
def ahZ (s:ah) (most:Int):ah×List af×Int:=
 bif !stB s then (ad2,[],1) else bif !(decide ((1:Int)<=most)&&decide (most<=(8:Int))) then (ad2,[],2) else bif s.Gone then (ad2,[],5)
 else bif ((s.Buffer.length:Int)==0)&&s.Shut then (ad2,[],3)
 else (ah.mk s.cu s.Room s.fB (s.Buffer.drop (aha s most)) s.Put (Go.IntKind.wrap .i64 (s.L9+(aha s most:Int))) s.Shut s.Gone,s.Buffer.take (aha s most),0)
def ah.akC (s:ah) (c:Int) (v:List af):Int×(List UInt8)×Int×Bool×Int×Int×Bool×Bool×Int×(List (List UInt8))×(List M.ae)×(List M.af)×(List M.af):=(s.cu.Kind,s.cu.Name,s.Room,s.fB,s.Put,s.L9,s.Shut,s.Gone,c,s.cu.aQ,s.cu.Kids,s.Buffer,v)
theorem akq (s:ah) (most:Int) (h:1<=most):(bif decide ((s.Buffer.length:Int)<most) then (s.Buffer.length:Int) else most)=(aha s most:Int):=by
 unfold aha
 by_cases c:(s.Buffer.length:Int)<most
 ·rw[decide_eq_true c,cond_true];omega
 ·rw[decide_eq_false c,cond_false];omega
theorem akr (s:ah) (most:Int) (h:1<=most):M.ahm most (s.Buffer.length:Int)=some (aha s most:Int):=by
 unfold M.ahm aha
 by_cases c:most<(s.Buffer.length:Int)
 ·rw[decide_eq_true c,cond_true];congr 1;omega
 ·rw[decide_eq_false c,cond_false];congr 1;omega
theorem aim (s:ah) (most:Int):aha s most<=s.Buffer.length:=by unfold aha;omega
theorem ajA {a b n:Nat} (h1:a<=b) (h2:b<=n):CO (a:Int) (b:Int) n=true:=by
 unfold CO;simp only[Bool.and_eq_true,decide_eq_true_eq];omega
theorem akE {b n:Nat} (h2:b<=n):CO (0:Int) (b:Int) n=true:=ajA (a:=0) (Nat.zero_le _) h2
theorem akM (s:ah) (most:Int) (h:s.sz<=1048576):M.agu s most=some (ahZ s most):=by
 unfold M.agu M.ahn ahZ;have hb:=ah.D8 h;have hp:=ais af.sz (aha s most) s.Buffer;simp only[ah.aU,ae.aU,aaD s h,ac6 s h,Option.isSome_some,Option.getD_some,Bool.true_and,Bool.and_true,cond_true]
 cases hs:stB s
 ·rfl
 ·cases hm:(decide ((1:Int)<=most)&&decide (most<=(8:Int)))
  ·rfl
  ·rw[Bool.and_eq_true,decide_eq_true_eq,decide_eq_true_eq] at hm
   have e1:=akr s most hm.1;have e2:=ajA (aim s most) (Nat.le_refl _);have e3:=akE (aim s most);have e4:=ahv (s.Buffer.take (aha s most)) (by omega)
   have e5:=ahv (s.Buffer.drop (aha s most)) (by omega)
   have e6:List.drop (Int.toNat 0) (List.take (aha s most) s.Buffer)=List.take (aha s most) s.Buffer:=rfl
   cases s.Gone
   ·cases (((s.Buffer.length:Int)==0)&&s.Shut)
    ·simp only[e1,e2,e3,e4,e5,e6,Option.isSome_some,Option.getD_some,Int.toNat_natCast,List.take_length,Bool.not_true,cond_false,cond_true,Bool.true_and,Bool.and_true,Bool.not_false]
    ·rfl
   ·rfl
theorem akP (s:ah) (most:Int) (h:s.sz<=1048576):M.agv s most=some ((ahZ s most).1.akC (ahZ s most).2.2 (ahZ s most).2.1):=by
 unfold M.agv M.agU ahZ;have hb:=ah.D8 h;have hp:=ais af.sz (aha s most) s.Buffer;simp only[ah.aU,aaE s h,Vq s (ah.tY h) (ah.D8 h),ah.mJ,Option.isSome_some,Option.getD_some,Bool.true_and,Bool.and_true,cond_true]
 cases hs:stB s
 ·rfl
 ·cases hm:(decide ((1:Int)<=most)&&decide (most<=(8:Int)))
  ·rfl
  ·rw[Bool.and_eq_true,decide_eq_true_eq,decide_eq_true_eq] at hm
   have e1:=akq s most hm.1;have e2:=ajA (aim s most) (Nat.le_refl _);have e3:=akE (aim s most);have e4:=aeS (s.Buffer.take (aha s most)) (by omega)
   have e6:List.drop (Int.toNat 0) (List.take (aha s most) s.Buffer)=List.take (aha s most) s.Buffer:=rfl
   cases s.Gone
   ·cases (((s.Buffer.length:Int)==0)&&s.Shut)
    ·simp only[e1,e2,e3,e4,e6,Option.isSome_some,Option.getD_some,Int.toNat_natCast,Bool.not_true,cond_false,cond_true,Bool.true_and,Bool.and_true,Bool.not_false,bne_self_eq_false]
     rfl
    ·rfl
   ·rfl
theorem aks (s:ah) (most:Int) (h:s.sz<=1048576):(ahZ s most).1.sz<=1048576 /\ jv af.sz (ahZ s most).2.1<=1048576:=by
 have hp:=ais af.sz (aha s most) s.Buffer;have hb:=ah.D8 h;unfold ahZ
 cases stB s<;>cases (decide ((1:Int)<=most)&&decide (most<=(8:Int)))<;>cases s.Gone<;>cases (((s.Buffer.length:Int)==0)&&s.Shut)<;>simp only[Bool.not_false,Bool.not_true,cond_true,cond_false,ac7,jv]<;>try omega
 rw[ah.jP] at h ⊢;exact ⟨by simp only[];omega,by omega⟩
theorem aiE (x:ah) (most:Int) (hx:x.Ok):M.agr x most=some true:=by
 unfold M.agr;rw[ah.aU,Yc x 1048576 hx (by omega) (by omega)]
 by_cases h1:(x.sz:Int)<=1048576
 ·have h:x.sz<=1048576:=by omega
  have n1:¬(1048576-(x.sz:Int)<0):=by omega
  rw[if_pos h1];have hr:=aks x most h;have e1:=akP x most h;have e2:=akM x most h
  generalize ahZ x most=r at hr e1 e2
  obtain ⟨r,v,c⟩:=r;have q0:=Yd x h;have q1:=Zk x h;have q2:=Zk r hr.1;have q3:=ae0 r hr.1;have q4:=Zj x h;have q5:=Zj r hr.1;have q6:=Kq x h;have q7:=Kq r hr.1;have q8:=adW v hr.2;have hk:=aki r hr.1;have q9:=ab6 v (k3 1 r) hr.2 (by omega) (by omega)
  have q10:=ab9 v (k3 1 r) hr.2 (by omega) (by omega)
  have q11:=vz (n:=(bT IC (k3 1 r) v).1) (by have:=ab5 v (k3 1 r);omega)
  simp only[ah.akC] at e1;simp only[ah.aU,q0,e1,e2,ae.eta,ah.eta,q1,q2,q3,q4,q5,q6,q7,q8,q9,q10,q11,Option.getD_some,Option.isSome_some,n1,decide_false,cond_false,Bool.and_true,Bool.and_self,Bool.true_and,cond_true,beq_self_eq_true,bne_self_eq_false,Bool.not_true,Bool.or_false,Bool.not_false,Bool.or_true,Bool.true_or]
 ·rw[if_neg h1];simp
end M
