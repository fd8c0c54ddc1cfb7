/-
  RUNNING NUMBERS: the mark of a text is some text.
-/
import Derived.Test.YtjlkjnhhpmoenaaGreatDoorXMK0
import Derived.Test.YtjlkjnhhpmoenaaGreatDoorXLSM
import Derived.Test.YtjlkjnhhpmoenaaGreatDoorXLSH
import Derived.Test.YtjlkjnhhpmoenaaGreatDoorXQU
set_option linter.unusedVariables false
set_option linter.unusedSimpArgs false
namespace M
open Go.V (inB xH aG bZ)
theorem ahl {n:Nat} (h:n<10):Go.IntKind.wrap .u8 (Go.IntKind.wrap .i64 ((48:Int)+(n:Int)))=((48+n:Nat):Int):=by
 rw[wrap_i64 (by omega) (by omega)]
 have:∀m:Fin 10,Go.IntKind.wrap .u8 ((48:Int)+((m.val:Nat):Int))=((48+m.val:Nat):Int):=by decide
 exact this ⟨n,h⟩
theorem acQ {n:Nat} (h:n<10):Go.V.I8 ((48+n:Nat):Int)=true:=by
 unfold Go.V.I8;simp only[Bool.and_eq_true,decide_eq_true_eq];omega
theorem ahm {a b:List UInt8} (h:a.length+b.length<=100000):Go.V.agn a b=true:=by
 unfold Go.V.agn;rw[decide_eq_true_eq];omega
theorem OX : ∀(j f k:Nat) (out:List UInt8),k<10^j->j<f->k<4611686018427387904->out.length+j<=1000->∃s,M.pg f (k:Int) out=some s /\ s.length<=out.length+j
 |j,0,k,out,_,h,_,_=>by omega
 |0,f+1,k,out,h1,h2,h3,h4=>by
  have:k=0:=by simpa using h1
  subst this;exact ⟨out,by rw[M.pg];simp,Nat.le_refl _⟩
 |j+1,f+1,k,out,h1,h2,h3,h4=>by
  rw[M.pg]
  rcases Nat.eq_zero_or_pos k with h0 |h0
  ·subst h0
   exact ⟨out,by simp,by omega⟩
  ·have hd:decide ((0:Int)<(k:Int))=true:=by rw[decide_eq_true_eq];omega
   have e3:Int.tmod (k:Int) 10=((k%10:Nat):Int):=(Int.ofNat_tmod k 10).symm;have e4:Go.IntKind.wrap .i64 (Int.tdiv (k:Int) 10)=((k/10:Nat):Int):=by
    rw[show Int.tdiv (k:Int) 10=((k/10:Nat):Int) from (Int.ofNat_tdiv k 10).symm,wrap_i64 (by omega) (by omega)]
   have hm:k%10<10:=Nat.mod_lt _ (by decide)
   obtain ⟨s,g1,g2⟩:=OX j f (k/10) ([Go.V.CS ((48+k%10:Nat):Int)]++out) (by rw[Nat.pow_succ] at h1;omega) (by omega) (by omega) (by simp;omega)
   refine ⟨s, ?_,by simp at g2;omega⟩
   simp only[hd,e3,e4,ahl hm,acQ hm,cond_true,List.map_cons,List.map_nil];rw[ahm (by simp;omega)]
   exact g1
theorem acR (k:Int) (h0:0<=k) (h1:k<=1000000000000):∃s,M.gz k=some s:=by
 obtain ⟨n,rfl⟩:=Int.eq_ofNat_of_zero_le h0;unfold M.gz
 by_cases hz:(n:Int)<=0
 ·rw[decide_eq_true hz];exact ⟨_,rfl⟩
 ·rw[decide_eq_false hz]
  obtain ⟨s,e,hl⟩:=OX 13 aG n [] (by omega) (by have:=bZ;omega) (by omega) (by simp)
  rw[e];simp only[cond_false];rw[ahm (by simp at hl ⊢;omega)]
  exact ⟨_,rfl⟩
noncomputable def mT (k:Int):List UInt8:=(M.gz k).getD Inhabited.default
theorem aaB {k:Int} (h0:0<=k) (h1:k<=1000000000000):M.gz k=some (mT k):=by
 obtain ⟨s,e⟩:=acR k h0 h1;unfold mT;rw[e];rfl
noncomputable def mS (k:Int) (_:List UInt8):Int×List UInt8:=(k+1,mT k)
theorem afu (l:List (List UInt8)) (k:Int):k<=(bP mS k l).1 /\ (bP mS k l).1=k+(l.length:Int):=by
 induction l generalizing k with
 |nil=>simp[bP]
 |cons x r ih=>have:=ih (k+1);simp only[bP,mS,List.length_cons] at*;omega
theorem acS (a:List (List UInt8)) (ha:a.length<=1048576) (k:Int) (h0:0<=k) (h1:k<=100000000000):M.lV k a=some (bP mS k a):=by
 unfold M.lV;rw[Np (F:=M.jV) (mk:=mS) a ha (fun i q=>q=k+(i:Int)) [] (fun f q i l hi hl hg hI=>by
  subst hI;rw[M.jV];have hmt:=aaB (k:=k+(i:Int)) (by omega) (by omega)
  have hlt:decide ((i:Int)<((l.length:Nat):Int))=true:=by rw[decide_eq_true_eq];omega
  have hin:inB (i:Int) l.length=true:=by rw[dK];simpa using hl
  simp only[hlt,hin,hmt,Int.toNat_natCast,cond_true,Bool.true_and,Bool.and_true,Option.isSome_some,Option.getD_some,fZ hi (kZ ha)];have hw:Go.IntKind.wrap .i64 (k+(i:Int)+1)=k+(i:Int)+1:=wrap_i64 (by omega) (by omega)
  rw[hw];exact ⟨rfl,by simp[mS];omega⟩) (fun f q l hl=>by rw[M.jV];simp[hl]) k (by simp)]
end M
namespace M
open Go.V (inB xH aG bZ)
theorem ae.p1 (a b c d):(ae.mk a b c d).Kind=a:=rfl
theorem ae.p2 (a b c d):(ae.mk a b c d).Name=b:=rfl
theorem ae.p3 (a b c d):(ae.mk a b c d).aJ=c:=rfl
theorem ae.p4 (a b c d):(ae.mk a b c d).Kids=d:=rfl
theorem af.p1 (a b c d):(af.mk a b c d).Kind=a:=rfl
theorem af.p2 (a b c d):(af.mk a b c d).Num=b:=rfl
theorem af.p3 (a b c d):(af.mk a b c d).Text=c:=rfl
theorem af.p4 (a b c d):(af.mk a b c d).Kids=d:=rfl
mutual
noncomputable def KH :Int->ae->Int×ae
 |k, .mk _ _ ls ks=>((XP (bP mS (k+1+1) ls).1 ks).1, .mk k (mT (k+1)) (bP mS (k+1+1) ls).2 (XP (bP mS (k+1+1) ls).1 ks).2)
noncomputable def XP :Int->List ae->Int×List ae
 |k,[]=>(k,[])
 |k,x::r=>((XP (KH k x).1 r).1,(KH k x).2::(XP (KH k x).1 r).2)
end
theorem abE : ∀(k:Int) (l:List ae),XP k l=bP KH k l
 |k,[]=>by simp only[XP,bP]
 |k,x::r=>by simp only[XP,bP,abE]
theorem TR (k:Int) (a:ae):KH k a=((bP KH (bP mS (k+1+1) a.aJ).1 a.Kids).1, .mk k (mT (k+1)) (bP mS (k+1+1) a.aJ).2 (bP KH (bP mS (k+1+1) a.aJ).1 a.Kids).2):=by
 cases a;simp only[KH,abE];rfl
mutual
theorem aev : ∀(x:ae) (k:Int),k<=(KH k x).1 /\ (KH k x).1<=k+2+2*(x.sz:Int)
 | .mk a b ls ks,k=>by
   have h1:=afu ls (k+1+1);have h2:=abG ks (bP mS (k+1+1) ls).1;have h3:=eF List.length ls;have h4:=ae.PW ks;simp only[KH,ae.sz];omega
theorem abG : ∀(l:List ae) (k:Int),k<=(XP k l).1 /\ (XP k l).1<=k+2*(iD ae.sz l:Int)
 | [],k=>by simp[XP,iD]
 |x::r,k=>by
  have h1:=aev x k;have h2:=abG r (KH k x).1;simp only[XP,iD];omega
end
theorem aew (l:List ae) (k:Int):k<=(bP KH k l).1 /\ (bP KH k l).1<=k+2*(iD ae.sz l:Int):=by
 rw[<-abE];exact abG l k
theorem aaC : ∀(n:Nat) (a:List ae) (k:Int),iD ae.sz a<n->iD ae.sz a<=1048576->0<=k->k+2*(iD ae.sz a:Int)<=100000000000->M.pq n k a=some (bP KH k a)
 |0,a,k,h,_,_,_=>by omega
 |n+1,a,k,h,hz,h0,h1=>by
  have hlen:=eF ae.sz a
  show M.vH (M.pq n) k a=_
  unfold M.vH;rw[Np (F:=M.mZ (M.pq n)) (mk:=KH) a (by omega) (fun i q=>0<=q /\ q+2*(iD ae.sz (a.drop i):Int)<=100000000000) ae.zero (fun f q i l hi hl hg hI=>by
   rw[jS hi,iD] at hI;have hle:=aev a[i] q;have hmem:=iP ae.sz a a[i] (List.getElem_mem hi);have hpos:=sN ae.sz a a[i] (List.getElem_mem hi);have hs:=ae.jR a[i];have hll:=eF List.length a[i].aJ;have hkk:=eF ae.sz a[i].Kids;have hms:=afu a[i].aJ (q+1+1);rw[M.mZ];have hlt:decide ((i:Int)<((l.length:Nat):Int))=true:=by rw[decide_eq_true_eq];omega
   have hin:inB (i:Int) l.length=true:=by rw[dK];simpa using hl
   have w1:Go.IntKind.wrap .i64 (q+1)=q+1:=wrap_i64 (by omega) (by omega)
   have w2:Go.IntKind.wrap .i64 (q+1+1)=q+1+1:=wrap_i64 (by omega) (by omega)
   have e1:=aaB (k:=q+1) (by omega) (by omega)
   have e2:=acS a[i].aJ (by omega) (q+1+1) (by omega) (by omega)
   have e3:=aaC n a[i].Kids (bP mS (q+1+1) a[i].aJ).1 (by omega) (by omega) (by omega) (by omega)
   refine ⟨?_,by omega,by omega⟩
   simp only[hlt,hin,Int.toNat_natCast,cond_true,Bool.true_and,Bool.and_true,XQ,hl,List.length_set,hg,w1,w2,ae.p1,ae.p2,ae.p3,ae.p4,e1,e2,e3,Option.isSome_some,Option.getD_some,fZ hi (kZ (show a.length<=1048576 by omega)),List.set_set]
   rw[TR]) (fun f q l hl=>by rw[M.mZ];simp[hl]) k ⟨h0,by simpa using h1⟩]
theorem aex (a:List ae) (k:Int) (hz:iD ae.sz a<=1048576) (h0:0<=k) (h1:k<=1000000000):M.Fj k a=some (bP KH k a):=
 aaC _ a k (by have:=bZ;omega) hz h0 (by omega)
mutual
noncomputable def KE :Int->af->Int×af
 |k, .mk _ _ _ ks=>((XR (k+1+1+1) ks).1, .mk k (k+1) (mT (k+1+1)) (XR (k+1+1+1) ks).2)
noncomputable def XR :Int->List af->Int×List af
 |k,[]=>(k,[])
 |k,x::r=>((XR (KE k x).1 r).1,(KE k x).2::(XR (KE k x).1 r).2)
end
theorem abH : ∀(k:Int) (l:List af),XR k l=bP KE k l
 |k,[]=>by simp only[XR,bP]
 |k,x::r=>by simp only[XR,bP,abH]
theorem TS (k:Int) (a:af):KE k a=((bP KE (k+1+1+1) a.Kids).1, .mk k (k+1) (mT (k+1+1)) (bP KE (k+1+1+1) a.Kids).2):=by
 cases a;simp only[KE,abH];rfl
mutual
theorem aey : ∀(x:af) (k:Int),k<=(KE k x).1 /\ (KE k x).1<=k+3+3*(x.sz:Int)
 | .mk a b t ks,k=>by
   have h2:=abI ks (k+1+1+1);have h4:=af.PW ks;simp only[KE,af.sz];omega
theorem abI : ∀(l:List af) (k:Int),k<=(XR k l).1 /\ (XR k l).1<=k+3*(iD af.sz l:Int)
 | [],k=>by simp[XR,iD]
 |x::r,k=>by
  have h1:=aey x k;have h2:=abI r (KE k x).1;simp only[XR,iD];omega
end
theorem XT (l:List af) (k:Int):k<=(bP KE k l).1 /\ (bP KE k l).1<=k+3*(iD af.sz l:Int):=by
 rw[<-abH];exact abI l k
theorem aaD : ∀(n:Nat) (a:List af) (k:Int),iD af.sz a<n->iD af.sz a<=1048576->0<=k->k+3*(iD af.sz a:Int)<=100000000000->M.ng n k a=some (bP KE k a)
 |0,a,k,h,_,_,_=>by omega
 |n+1,a,k,h,hz,h0,h1=>by
  have hlen:=eF af.sz a
  show M.tK (M.ng n) k a=_
  unfold M.tK;rw[Np (F:=M.kV (M.ng n)) (mk:=KE) a (by omega) (fun i q=>0<=q /\ q+3*(iD af.sz (a.drop i):Int)<=100000000000) af.zero (fun f q i l hi hl hg hI=>by
   rw[jS hi,iD] at hI;have hle:=aey a[i] q;have hmem:=iP af.sz a a[i] (List.getElem_mem hi);have hpos:=sN af.sz a a[i] (List.getElem_mem hi);have hs:=af.jR a[i];have hkk:=eF af.sz a[i].Kids;rw[M.kV];have hlt:decide ((i:Int)<((l.length:Nat):Int))=true:=by rw[decide_eq_true_eq];omega
   have hin:inB (i:Int) l.length=true:=by rw[dK];simpa using hl
   have w1:Go.IntKind.wrap .i64 (q+1)=q+1:=wrap_i64 (by omega) (by omega)
   have w2:Go.IntKind.wrap .i64 (q+1+1)=q+1+1:=wrap_i64 (by omega) (by omega)
   have w3:Go.IntKind.wrap .i64 (q+1+1+1)=q+1+1+1:=wrap_i64 (by omega) (by omega)
   have e1:=aaB (k:=q+1+1) (by omega) (by omega)
   have e3:=aaD n a[i].Kids (q+1+1+1) (by omega) (by omega) (by omega) (by omega)
   refine ⟨?_,by omega,by omega⟩
   simp only[hlt,hin,Int.toNat_natCast,cond_true,Bool.true_and,Bool.and_true,XQ,hl,List.length_set,hg,w1,w2,w3,af.p1,af.p2,af.p3,af.p4,e1,e3,Option.isSome_some,Option.getD_some,fZ hi (kZ (show a.length<=1048576 by omega)),List.set_set]
   rw[TS]) (fun f q l hl=>by rw[M.kV];simp[hl]) k ⟨h0,by simpa using h1⟩]
theorem XU (a:List af) (k:Int) (hz:iD af.sz a<=1048576) (h0:0<=k) (h1:k<=1000000000):M.qR k a=some (bP KE k a):=
 aaD _ a k (by have:=bZ;omega) hz h0 (by omega)
end M
namespace M
open Go.V (inB xH aG bZ)
theorem Nq {α β Y:Type} {F:Nat->Int->List β->Option Y} {h:List β->Option Y} (g:α->β) (l:List α) (hn:l.length<=1048576) (ahn:List β)
 (step:∀f k out,∀hk:k<l.length,out.length=ahn.length+k->F (f+1) (k:Int) out=F f ((k+1:Nat):Int) (out++[g l[k]]))
 (stop:∀f out,F (f+1) (l.length:Int) out=h out):F aG 0 ahn=h (ahn++l.map g):=by
 have key:∀f k out,k<=l.length->l.length-k<f->out.length=ahn.length+k->F f (k:Int) out=h (out++(l.drop k).map g):=by
  intro f
  induction f with
  |zero=>intro k out h1 h2;omega
  |succ f ih=>
   intro k out h1 h2 ho
   rcases Nat.lt_or_ge k l.length with hk |hk
   ·rw[step f k out hk ho,ih (k+1) _ (by omega) (by omega) (by simp[ho];omega),jS hk]
    simp only[List.map_cons,List.append_assoc,List.singleton_append]
   ·have:k=l.length:=by omega
    subst this;rw[stop,List.drop_length];simp
 have:=key aG 0 ahn (Nat.zero_le _) (by have:=bZ;omega) rfl
 simpa using this
theorem Gv {a b:Nat} (h:a+b<=1073741824):decide (a+b<=1073741824)=true:=by rw[decide_eq_true_eq];exact h
theorem acT : ∀(m:Nat) (t:ae),t.sz<m->t.sz<=1048576->M.oN m t=some (t.Kind,t.Name,t.aJ,t.Kids)
 |0,t,h,_=>by omega
 |m+1,t,h,hN=>by
  have hs:=ae.jR t;have hkk:=eF ae.sz t.Kids;have hll:=eF List.length t.aJ
  show M.xY (M.oN m) t=_
  unfold M.xY;have e1:M.xk (M.oN m) t.Kids=some t.Kids:=by
   unfold M.xk;rw[Nq (F:=M.mW (M.oN m) t.Kids (t.Kids.length:Int)) (h:=some) id t.Kids (by omega) [] (fun f k out hk ho=>by
    have hmem:=iP ae.sz t.Kids t.Kids[k] (List.getElem_mem hk);have hpos:=sN ae.sz t.Kids t.Kids[k] (List.getElem_mem hk);rw[M.mW];have e:=acT m t.Kids[k] (by omega) (by omega)
    have hc:=Gv (a:=out.length) (b:=1) (by simp at ho;omega)
    simp only[ae.aT,Int.ofNat_lt,hk,decide_true,cond_true,Int.toNat_natCast,getD_lt hk,e,dK,Option.isSome_some,Option.getD_some,ae.eta,List.length_cons,List.length_nil,Nat.zero_add,hc,Bool.true_and,Bool.and_true,fZ hk (kZ (show t.Kids.length<=1048576 by omega)),id]) (fun f out=>by rw[M.mW];simp)]
   simp
  have e2:M.dR t.aJ=some t.aJ:=by
   unfold M.dR;rw[decide_eq_true (by omega)];rfl
  simp only[e1,e2,Option.isSome_some,Option.getD_some,Bool.true_and,Bool.and_true,cond_true]
theorem ake (t:ae) (h:t.sz<=1048576):M.IM t=some (t.Kind,t.Name,t.aJ,t.Kids):=
 acT _ t (by have:=bZ;omega) h
theorem XV (rec:af->Option (Int×Int×List UInt8×List af)) (l:List af) (hl:l.length<=1048576) (hr:∀x∈l,rec x=some (x.Kind,x.Num,x.Text,x.Kids)):M.ik rec l=some l:=by
 unfold M.ik;rw[Nq (F:=M.kY rec l (l.length:Int)) (h:=some) id l hl [] (fun f k out hk ho=>by
  rw[M.kY];have e:=hr l[k] (List.getElem_mem hk);have hc:=Gv (a:=out.length) (b:=1) (by simp at ho;omega)
  simp only[af.aT,Int.ofNat_lt,hk,decide_true,cond_true,Int.toNat_natCast,getD_lt hk,e,dK,Option.isSome_some,Option.getD_some,af.eta,List.length_cons,List.length_nil,Nat.zero_add,hc,Bool.true_and,Bool.and_true,fZ hk (kZ hl),id]) (fun f out=>by rw[M.kY];simp)]
 simp
theorem acU : ∀(m:Nat) (t:af),t.sz<m->t.sz<=1048576->M.pI m t=some (t.Kind,t.Num,t.Text,t.Kids)
 |0,t,h,_=>by omega
 |m+1,t,h,hN=>by
  have hs:=af.jR t;have hkk:=eF af.sz t.Kids
  show M.vM (M.pI m) t=_
  unfold M.vM;have e1:=XV (M.pI m) t.Kids (by omega) fun x hx=>by
   have:=iP af.sz t.Kids x hx;have:=sN af.sz t.Kids x hx;exact acU m x (by omega) (by omega)
  simp only[e1,Option.isSome_some,Option.getD_some,Bool.true_and,Bool.and_true,cond_true]
theorem akf (t:af) (h:t.sz<=1048576):M.jM t=some (t.Kind,t.Num,t.Text,t.Kids):=
 acU _ t (by have:=bZ;omega) h
theorem XW (l:List af) (h:iD af.sz l<=1048576):M.ik M.jM l=some l:=
 XV _ l (Nat.le_trans (eF _ _) h) fun x hx=>akf x (Nat.le_trans (iP af.sz l x hx) h)
def ah.lD (s:ah):Int×(List UInt8)×Int×Bool×Int×Int×Bool×Bool×(List (List UInt8))×(List ae)×(List af):=(s.aQ.Kind,s.aQ.Name,s.Room,s.dn,s.Put,s.BG,s.Shut,s.Gone,s.aQ.aJ,s.aQ.Kids,s.Buffer)
theorem XX (s:ah) (ht:s.aQ.sz<=1048576) (hb:iD af.sz s.Buffer<=1048576):M.rf s=some s.lD:=by
 unfold M.rf;simp only[ae.aT,XW _ hb,ake _ ht,Option.isSome_some,Option.getD_some,Bool.true_and,Bool.and_true,cond_true]
 rfl
end M
namespace M
open Go.V (inB xH aG bZ)
theorem acV (a:List (List UInt8)) (ha:a.length<=1048576) (k:Int) (h0:0<=k) (h1:k<=100000000000):M.kE (bP mS k a).2 k=some (bP mS k a).1:=by
 unfold M.kE;rw[TU (F:=M.jW (bP mS k a).2) (mk:=mS) (fin:=id) a ha (fun i q=>q=k+(i:Int)) [] k (by simp) (fun f q i y hi e1 e2 hI=>by
  subst hI;subst e2;rw[M.jW];have hmt:=aaB (k:=k+(i:Int)) (by omega) (by omega)
  have hlt:decide ((i:Int)<(((bP mS k a).2.length:Nat):Int))=true:=by rw[decide_eq_true_eq,qw];omega
  have hin:inB (i:Int) (bP mS k a).2.length=true:=by rw[dK,qw];simpa using hi
  have hw:Go.IntKind.wrap .i64 (k+(i:Int)+1)=k+(i:Int)+1:=wrap_i64 (by omega) (by omega)
  simp only[hlt,hin,hmt,e1,mS,Int.toNat_natCast,cond_true,cond_false,Bool.true_and,Bool.and_true,Option.isSome_some,Option.getD_some,fZ hi (kZ ha),beq_self_eq_true,Bool.not_true,hw];exact ⟨trivial,by omega⟩) (fun f q=>by rw[M.jW];simp[qw])]
 rfl
theorem aho (k:Int) (a:ae):(KH k a).2.Kind=k:=by rw[TR];rfl
theorem ahp (k:Int) (a:ae):(KH k a).2.Name=mT (k+1):=by rw[TR];rfl
theorem aez (k:Int) (a:ae):(KH k a).2.aJ=(bP mS (k+1+1) a.aJ).2:=by rw[TR];rfl
theorem ahq (k:Int) (a:ae):(KH k a).2.Kids=(bP KH (bP mS (k+1+1) a.aJ).1 a.Kids).2:=by rw[TR];rfl
theorem ajT (k:Int) (a:ae):(KH k a).1=(bP KH (bP mS (k+1+1) a.aJ).1 a.Kids).1:=by rw[TR]
theorem su {n:Int} (h:0<=n):decide (n<0)=false:=by rw[decide_eq_false_iff_not];omega
theorem aaE : ∀(n:Nat) (a:List ae) (k:Int),iD ae.sz a<n->iD ae.sz a<=1048576->0<=k->k+2*(iD ae.sz a:Int)<=100000000000->M.pz n (bP KH k a).2 k=some (bP KH k a).1
 |0,a,k,h,_,_,_=>by omega
 |n+1,a,k,h,hz,h0,h1=>by
  have hlen:=eF ae.sz a
  show M.vI (M.pz n) (bP KH k a).2 k=_
  unfold M.vI;rw[TU (F:=M.ni (M.pz n) (bP KH k a).2) (mk:=KH) (fin:=id) a (by omega) (fun i q=>0<=q /\ q+2*(iD ae.sz (a.drop i):Int)<=100000000000) ae.zero k ⟨h0,by simpa using h1⟩ (fun f q i y hi e1 e2 hI=>by
   subst e2;rw[jS hi,iD] at hI;have hle:=aev a[i] q;have hmem:=iP ae.sz a a[i] (List.getElem_mem hi);have hpos:=sN ae.sz a a[i] (List.getElem_mem hi);have hs:=ae.jR a[i];have hll:=eF List.length a[i].aJ;have hkk:=eF ae.sz a[i].Kids;have hms:=afu a[i].aJ (q+1+1);rw[M.ni];have hlt:decide ((i:Int)<(((bP KH k a).2.length:Nat):Int))=true:=by rw[decide_eq_true_eq,qw];omega
   have hin:inB (i:Int) (bP KH k a).2.length=true:=by rw[dK,qw];simpa using hi
   have w1:Go.IntKind.wrap .i64 (q+1)=q+1:=wrap_i64 (by omega) (by omega)
   have w2:Go.IntKind.wrap .i64 (q+1+1)=q+1+1:=wrap_i64 (by omega) (by omega)
   have m1:=aaB (k:=q+1) (by omega) (by omega)
   have m2:=acV a[i].aJ (by omega) (q+1+1) (by omega) (by omega)
   have m3:=aaE n a[i].Kids (bP mS (q+1+1) a[i].aJ).1 (by omega) (by omega) (by omega) (by omega)
   have n1:=su (n:=(bP mS (q+1+1) a[i].aJ).1) (by omega)
   have n2:=su (n:=(bP KH (bP mS (q+1+1) a[i].aJ).1 a[i].Kids).1) (by rw[<-ajT];omega)
   refine ⟨?_,by omega,by omega⟩
   simp only[hlt,hin,e1,Int.toNat_natCast,cond_true,cond_false,Bool.true_and,Bool.and_true,aho,ahp,aez,ahq,w1,w2,m1,m2,m3,n1,n2,Option.isSome_some,Option.getD_some,fZ hi (kZ (show a.length<=1048576 by omega)),beq_self_eq_true,bne_self_eq_false,Bool.not_true,Bool.and_self]
   rw[ajT]) (fun f q=>by rw[M.ni];simp[qw])]
  rfl
theorem aeA (a:List ae) (k:Int) (hz:iD ae.sz a<=1048576) (h0:0<=k) (h1:k<=1000000000):M.AY (bP KH k a).2 k=some (bP KH k a).1:=
 aaE _ a k (by have:=bZ;omega) hz h0 (by omega)
theorem ahr (k:Int) (a:af):(KE k a).2.Kind=k:=by rw[TS];rfl
theorem ai2 (k:Int) (a:af):(KE k a).2.Num=k+1:=by rw[TS];rfl
theorem ahs (k:Int) (a:af):(KE k a).2.Text=mT (k+1+1):=by rw[TS];rfl
theorem aht (k:Int) (a:af):(KE k a).2.Kids=(bP KE (k+1+1+1) a.Kids).2:=by rw[TS];rfl
theorem ajU (k:Int) (a:af):(KE k a).1=(bP KE (k+1+1+1) a.Kids).1:=by rw[TS]
theorem aaF : ∀(n:Nat) (a:List af) (k:Int),iD af.sz a<n->iD af.sz a<=1048576->0<=k->k+3*(iD af.sz a:Int)<=100000000000->M.ny n (bP KE k a).2 k=some (bP KE k a).1
 |0,a,k,h,_,_,_=>by omega
 |n+1,a,k,h,hz,h0,h1=>by
  have hlen:=eF af.sz a
  show M.tN (M.ny n) (bP KE k a).2 k=_
  unfold M.tN;rw[TU (F:=M.kW (M.ny n) (bP KE k a).2) (mk:=KE) (fin:=id) a (by omega) (fun i q=>0<=q /\ q+3*(iD af.sz (a.drop i):Int)<=100000000000) af.zero k ⟨h0,by simpa using h1⟩ (fun f q i y hi e1 e2 hI=>by
   subst e2;rw[jS hi,iD] at hI;have hle:=aey a[i] q;have hmem:=iP af.sz a a[i] (List.getElem_mem hi);have hpos:=sN af.sz a a[i] (List.getElem_mem hi);have hs:=af.jR a[i];have hkk:=eF af.sz a[i].Kids;rw[M.kW];have hlt:decide ((i:Int)<(((bP KE k a).2.length:Nat):Int))=true:=by rw[decide_eq_true_eq,qw];omega
   have hin:inB (i:Int) (bP KE k a).2.length=true:=by rw[dK,qw];simpa using hi
   have w1:Go.IntKind.wrap .i64 (q+1)=q+1:=wrap_i64 (by omega) (by omega)
   have w2:Go.IntKind.wrap .i64 (q+1+1)=q+1+1:=wrap_i64 (by omega) (by omega)
   have w3:Go.IntKind.wrap .i64 (q+1+1+1)=q+1+1+1:=wrap_i64 (by omega) (by omega)
   have m1:=aaB (k:=q+1+1) (by omega) (by omega)
   have m3:=aaF n a[i].Kids (q+1+1+1) (by omega) (by omega) (by omega) (by omega)
   have n2:=su (n:=(bP KE (q+1+1+1) a[i].Kids).1) (by rw[<-ajU];omega)
   refine ⟨?_,by omega,by omega⟩
   simp only[hlt,hin,e1,Int.toNat_natCast,cond_true,cond_false,Bool.true_and,Bool.and_true,ahr,ai2,ahs,aht,w1,w2,w3,m1,m3,n2,Option.isSome_some,Option.getD_some,fZ hi (kZ (show a.length<=1048576 by omega)),beq_self_eq_true,bne_self_eq_false,Bool.not_true,Bool.and_self]
   rw[ajU]) (fun f q=>by rw[M.kW];simp[qw])]
  rfl
theorem XY (a:List af) (k:Int) (hz:iD af.sz a<=1048576) (h0:0<=k) (h1:k<=1000000000):M.qU (bP KE k a).2 k=some (bP KE k a).1:=
 aaF _ a k (by have:=bZ;omega) hz h0 (by omega)
noncomputable def k1 (k:Int) (s:ah):Int:=(bP mS k s.aQ.aJ).1
noncomputable def k2 (k:Int) (s:ah):Int:=(bP KH (k1 k s) s.aQ.Kids).1
noncomputable def k3 (k:Int) (s:ah):Int:=(bP KE (k2 k s) s.Buffer).1
noncomputable def mkL (k:Int) (s:ah):List (List UInt8):=(bP mS k s.aQ.aJ).2
noncomputable def mkK (k:Int) (s:ah):List ae:=(bP KH (k1 k s) s.aQ.Kids).2
noncomputable def mkB (k:Int) (s:ah):List af:=(bP KE (k2 k s) s.Buffer).2
theorem afv {k:Int} {s:ah} (ht:s.aQ.sz<=1048576) (hb:iD af.sz s.Buffer<=1048576) (h0:0<=k) (h1:k<=100000000):
 (k<=k1 k s /\ k1 k s<=k2 k s /\ k2 k s<=k3 k s /\ k3 k s<=k+10000000) /\ s.aQ.aJ.length<=1048576 /\ iD ae.sz s.aQ.Kids<=1048576:=by
 have hs:=ae.jR s.aQ;have hll:=eF List.length s.aQ.aJ;have a1:=afu s.aQ.aJ k;have a2:=aew s.aQ.Kids (k1 k s);have a3:=XT s.Buffer (k2 k s);unfold k3 k2 k1 at*;refine ⟨?_,by omega,by omega⟩
 omega
theorem aae (a:Int) (a2:List UInt8) (a3:Int) (a4:Bool) (a5 a6:Int) (a7 a8:Bool) (s:ah) (k:Int) (ht:s.aQ.sz<=1048576) (hb:iD af.sz s.Buffer<=1048576) (h0:0<=k) (h1:k<=100000000):
 M.oP a a2 a3 a4 a5 a6 a7 a8 k s.aQ.aJ s.aQ.Kids s.Buffer=some (k3 k s,mkL k s,mkK k s,mkB k s):=by
 have hk:=afv (k:=k) ht hb h0 h1;unfold M.oP M.Eg;have e1:=acS s.aQ.aJ hk.2.1 k h0 (by omega)
 have e2:=aex s.aQ.Kids (k1 k s) hk.2.2 (by omega) (by omega)
 have e3:=XU s.Buffer (k2 k s) hb (by omega) (by omega)
 unfold k2 k1 at e3;unfold k1 at e2;simp only[e1,e2,e3,Option.isSome_some,Option.getD_some,Bool.true_and,Bool.and_true,cond_true]
 rfl
theorem aaf (a:Int) (a2:List UInt8) (a3:Int) (a4:Bool) (a5 a6:Int) (a7 a8:Bool) (s:ah) (k:Int) (ht:s.aQ.sz<=1048576) (hb:iD af.sz s.Buffer<=1048576) (h0:0<=k) (h1:k<=100000000):
 M.qV (ah.mk (ae.mk a a2 (mkL k s) (mkK k s)) a3 a4 (mkB k s) a5 a6 a7 a8) k=some (k3 k s):=by
 have hk:=afv (k:=k) ht hb h0 h1;have e1:M.kE (mkL k s) k=some (k1 k s):=acV s.aQ.aJ hk.2.1 k h0 (by omega)
 have e2:M.AY (mkK k s) (k1 k s)=some (k2 k s):=aeA s.aQ.Kids (k1 k s) hk.2.2 (by omega) (by omega)
 have e3:M.qU (mkB k s) (k2 k s)=some (k3 k s):=XY s.Buffer (k2 k s) hb (by omega) (by omega)
 have e0:M.zF (ae.mk a a2 (mkL k s) (mkK k s)) k=some (k2 k s):=by
  unfold M.zF;simp only[ae.p3,ae.p4,e1,e2,Option.isSome_some,Option.getD_some,Bool.true_and,Bool.and_true,cond_true,cond_false,su (show 0<=k1 k s by omega),su (show 0<=k2 k s by omega)]
 unfold M.qV;simp only[ae.aT,e0,e3,Option.isSome_some,Option.getD_some,Bool.true_and,Bool.and_true,cond_true,cond_false,su (show 0<=k2 k s by omega),su (show 0<=k3 k s by omega)]
end M
namespace M
open Go.V (inB xH aG bZ)
theorem ajV : ∀(m:Nat) (t:ae),t.sz<m->t.sz<=1048576->M.tC m t=some t
 |0,t,h,_=>absurd h (Nat.not_lt_zero _)
 |m+1,t,h,hN=>by
  have hl:=ae.lC hN;have hlb:=ae.XZ hN;have key:∀f k,k<=t.Kids.length->t.Kids.length-k<f->M.qK (M.tC m) (0:Int) [] t.Kind t.Name [] [] ([]++t.aJ) f (k:Int) t (t.Kids.take k)=some ((0:Int),[],t.Kind,t.Name,[],[],t.aJ,t.Kids):=by
   intro f
   induction f with
   |zero=>intro k h1 h2;omega
   |succ f ih=>
    intro k h1 h2
    rcases Nat.lt_or_ge k t.Kids.length with hk |hk
    ·rw[M.qK]
     have hx:=ae.uY (List.getElem_mem hk);have hd:decide (((t.Kids.take k).length+([t.Kids[k]]:List ae).length)<=1073741824)=true:=by
      simp only[decide_eq_true_eq,List.length_take,List.length_cons,List.length_nil];omega
     have ht:t.Kids.take k++[t.Kids[k]]=t.Kids.take (k+1):=by
      rw[List.take_add_one,List.getElem?_eq_getElem hk];rfl
     simp only[ae.aT,getD_lt hk,ajV m t.Kids[k] (by omega) (by omega),Int.toNat_natCast,dK,Int.ofNat_lt,hk,decide_true,cond_true,Bool.true_and,Bool.and_true,fZ hk (by omega:t.Kids.length<2^62),Option.getD_some,Option.isSome_some,hd,ht]
     exact ih (k+1) (by omega) (by omega)
    ·have:k=t.Kids.length:=by omega
     subst this;rw[M.qK];simp
  show M.D5 (M.tC m) t=_
  unfold M.D5;have e:=key aG 0 (Nat.zero_le _) (by have:=bZ;omega)
  have e':M.qK (M.tC m) (0:Int) [] t.Kind t.Name [] [] ([]++t.aJ) aG 0 t []=_:=e;have hd:decide (0+t.aJ.length<=1073741824)=true:=by simp only[decide_eq_true_eq];omega
  simp only[ae.aT,e',hd,Bool.and_self,cond_true]
  cases t;rfl
theorem ajW : ∀(m:Nat) (v:af),v.sz<m->v.sz<=1048576->M.lG m v=some v
 |0,v,h,_=>absurd h (Nat.not_lt_zero _)
 |m+1,v,h,hN=>by
  have hs:=af.jR v;have hkk:=eF af.sz v.Kids
  show M.x8 (M.lG m) v=_
  unfold M.x8;have e:=Nq (F:=fun f i o=>M.kD (M.lG m) 0 0 [] v.Kind v.Num v.Text [] f i v o) (h:=fun o=>some ((0:Int),(0:Int),([]:List UInt8),v.Kind,v.Num,v.Text,([]:List af),o)) id v.Kids (by omega) [] (fun f k out hk ho=>by
   have hmem:=iP af.sz v.Kids v.Kids[k] (List.getElem_mem hk);have hpos:=sN af.sz v.Kids v.Kids[k] (List.getElem_mem hk)
   show M.kD (M.lG m) 0 0 [] v.Kind v.Num v.Text [] (f+1) (k:Int) v out=_
   rw[M.kD];have e:=ajW m v.Kids[k] (by omega) (by omega)
   have hc:=Gv (a:=out.length) (b:=1) (by simp at ho;omega)
   simp only[af.aT,Int.ofNat_lt,hk,decide_true,cond_true,Int.toNat_natCast,getD_lt hk,e,dK,Option.isSome_some,Option.getD_some,List.length_cons,List.length_nil,Nat.zero_add,hc,Bool.true_and,Bool.and_true,fZ hk (kZ (show v.Kids.length<=1048576 by omega)),id]) (fun f out=>by
   show M.kD (M.lG m) 0 0 [] v.Kind v.Num v.Text [] (f+1) (v.Kids.length:Int) v out=_
   rw[M.kD];simp)
  simp only[List.map_id,List.nil_append] at e;rw[af.aT,e];exact congrArg some (af.eta v)
theorem alC (v:af) (h:v.sz<=1048576):M.IV v=some v:=ajW _ v (by have:=bZ;omega) h
theorem X0 (l:List af) (h:iD af.sz l<=1048576):M.jL l=some l:=by
 have hl:=eF af.sz l;unfold M.jL;rw[Nq (F:=M.nz l) (h:=some) id l (by omega) [] (fun f k out hk ho=>by
  rw[M.nz];have e:=alC l[k] (Nat.le_trans (iP af.sz l l[k] (List.getElem_mem hk)) h);have hc:=Gv (a:=out.length) (b:=1) (by simp at ho;omega)
  simp only[af.aT,Int.ofNat_lt,hk,decide_true,cond_true,Int.toNat_natCast,getD_lt hk,e,dK,Option.isSome_some,Option.getD_some,List.length_cons,List.length_nil,Nat.zero_add,hc,Bool.true_and,Bool.and_true,fZ hk (kZ (show l.length<=1048576 by omega)),id]) (fun f out=>by rw[M.nz];simp)]
 simp
theorem ah.eta (s:ah):ah.mk s.aQ s.Room s.dn s.Buffer s.Put s.BG s.Shut s.Gone=s:=rfl
theorem afw (s:ah) (h:s.sz<=1048576):M.Ew s=some s:=by
 unfold M.Ew;have e:=ajV aG s.aQ (by have:=ah.vX h;have:=bZ;omega) (ah.vX h)
 have e':M.QQ s.aQ=some s.aQ:=e;simp only[ae.aT,X0 _ (ah.EF h),e',Option.isSome_some,Option.getD_some,Bool.true_and,Bool.and_true,cond_true]
def acW : ah:=ah.mk (ae.mk 0 [] [] []) 0 false [] 0 0 false false
theorem RD : acW.sz=0:=by rw[ah.jR];rfl
end M
namespace M
open Go.V (inB xH aG bZ)
theorem ahu (s:ah) (h:s.sz<=1048576):decide (k3 1 s<0)=false:=by
 have:=afv (k:=1) (ah.vX h) (ah.EF h) (by omega) (by omega)
 exact su (by omega)
theorem ajX (s:ah) (h:s.sz<=1048576):1<=k3 1 s /\ k3 1 s<=10000001:=by
 have:=afv (k:=1) (ah.vX h) (ah.EF h) (by omega) (by omega)
 omega
theorem ahv (s:ah) (h:s.sz<=1048576) (a:Int) (a2:List UInt8) (a3:Int) (a4:Bool) (a5 a6:Int) (a7 a8:Bool):
 M.oP a a2 a3 a4 a5 a6 a7 a8 1 s.aQ.aJ s.aQ.Kids s.Buffer=some (k3 1 s,mkL 1 s,mkK 1 s,mkB 1 s):=
 aae a a2 a3 a4 a5 a6 a7 a8 s 1 (ah.vX h) (ah.EF h) (by omega) (by omega)
theorem akg (s:ah) (h:s.sz<=1048576) (a:Int) (a2:List UInt8) (a3:Int) (a4:Bool) (a5 a6:Int) (a7 a8:Bool):
 M.qV (ah.mk (ae.mk a a2 (mkL 1 s) (mkK 1 s)) a3 a4 (mkB 1 s) a5 a6 a7 a8) 1=some (k3 1 s):=
 aaf a a2 a3 a4 a5 a6 a7 a8 s 1 (ah.vX h) (ah.EF h) (by omega) (by omega)
end M
namespace M
open Go.V (inB xH aG bZ)
theorem aeB {α:Type} (f:α->Nat) (a b:List α):iD f (a++b)=iD f a+iD f b:=by
 induction a with
 |nil=>simp[iD]
 |cons x r ih=>simp only[List.cons_append,iD,ih];omega
theorem Nr {α:Type} (f:α->Nat) (n:Nat) (l:List α):iD f (l.take n)+iD f (l.drop n)=iD f l:=by
 rw[<-aeB,List.take_append_drop]
def y7 (s:ah) (most:Int):Nat:=min most.toNat s.Buffer.length
theorem ai3 (s:ah) (most:Int) (h:1<=most):(bif decide ((s.Buffer.length:Int)<most) then (s.Buffer.length:Int) else most)=(y7 s most:Int):=by
 unfold y7
 by_cases c:(s.Buffer.length:Int)<most
 ·rw[decide_eq_true c,cond_true];omega
 ·rw[decide_eq_false c,cond_false];omega
theorem ai4 (s:ah) (most:Int) (h:1<=most):M.vJ most (s.Buffer.length:Int)=some (y7 s most:Int):=by
 unfold M.vJ y7
 by_cases c:most<(s.Buffer.length:Int)
 ·rw[decide_eq_true c,cond_true];congr 1;omega
 ·rw[decide_eq_false c,cond_false];congr 1;omega
theorem RF (s:ah) (most:Int):y7 s most<=s.Buffer.length:=by unfold y7;omega
theorem aeC {a b n:Nat} (h1:a<=b) (h2:b<=n):xH (a:Int) (b:Int) n=true:=by
 unfold xH;simp only[Bool.and_eq_true,decide_eq_true_eq];omega
theorem afx {b n:Nat} (h2:b<=n):xH (0:Int) (b:Int) n=true:=aeC (a:=0) (Nat.zero_le _) h2
end M
namespace M
open Go.V (inB xH aG bZ)
def RG (s:ah):Int:=if s.dn then 1 else 1000000
theorem akh (s:ah):M.vG s=some (RG s):=by unfold M.vG RG;cases s.dn<;>rfl
theorem aki (s:ah):M.Dk s=some (RG s):=by unfold M.Dk RG;cases s.dn<;>rfl
theorem agy {s:ah} (h:stB s=true):aag s.aQ=true /\ 1<=s.Room /\ s.Room<=6 /\ (s.Buffer.length:Int)<=s.Room /\ acX s=true /\ 0<=s.BG /\ s.BG<=s.Put /\ s.Put<=1000000:=by
 unfold stB at h;simp only[Bool.and_eq_true,decide_eq_true_eq,Bool.not_eq_true',decide_eq_false_iff_not] at h;have hp:s.Put<=1000000:=by
  have:=h.1.2.1.2.2
  cases hf:s.dn<;>simp[hf] at this<;>omega
 exact ⟨h.1.1.1.1,h.1.1.1.2.1.1,h.1.1.1.2.1.2,h.1.1.2.1,h.1.1.2.2,by have:=h.1.2.1.1;omega,h.1.2.1.2.1,hp⟩
def nX (s:ah) (l:List af):Nat:=min l.length (s.Room-(s.Buffer.length:Int)).toNat
def wrP (s:ah) (l:List af):Int×Int×ah:=
 bif decide ((8:Int)<(l.length:Int))||decide (RG s<Go.IntKind.wrap .i64 (s.Put+(l.length:Int))) then (0,4,s) else bif s.Shut then (0,5,s) else bif s.Gone then (0,17,s)
 else ((nX s l:Int),0,ah.mk s.aQ s.Room s.dn (s.Buffer++l.take (nX s l)) (Go.IntKind.wrap .i64 (s.Put+(nX s l:Int))) s.BG s.Shut s.Gone)
def ah.flat3 (n c:Int) (s:ah):Int×Int×Int×(List UInt8)×Int×Bool×Int×Int×Bool×Bool×(List (List UInt8))×(List M.ae)×(List M.af):=(n,c,s.aQ.Kind,s.aQ.Name,s.Room,s.dn,s.Put,s.BG,s.Shut,s.Gone,s.aQ.aJ,s.aQ.Kids,s.Buffer)
theorem ahw {s:ah} {l:List af} (h:0<=s.Room) (h2:s.Room<=6) (hb:(s.Buffer.length:Int)<=s.Room):
 (bif decide (Go.IntKind.wrap .i64 (s.Room-(s.Buffer.length:Int))<(l.length:Int)) then Go.IntKind.wrap .i64 (s.Room-(s.Buffer.length:Int)) else (l.length:Int))=(nX s l:Int):=by
 have w:Go.IntKind.wrap .i64 (s.Room-(s.Buffer.length:Int))=s.Room-(s.Buffer.length:Int):=wrap_i64 (by omega) (by omega)
 unfold nX;rw[w]
 by_cases c:s.Room-(s.Buffer.length:Int)<(l.length:Int)
 ·rw[decide_eq_true c,cond_true];omega
 ·rw[decide_eq_false c,cond_false];omega
theorem ahx {s:ah} {l:List af} (h:0<=s.Room) (h2:s.Room<=6) (hb:(s.Buffer.length:Int)<=s.Room):
 M.vJ (l.length:Int) (Go.IntKind.wrap .i64 (s.Room-(s.Buffer.length:Int)))=some (nX s l:Int):=by
 have w:Go.IntKind.wrap .i64 (s.Room-(s.Buffer.length:Int))=s.Room-(s.Buffer.length:Int):=wrap_i64 (by omega) (by omega)
 unfold M.vJ nX;rw[w]
 by_cases c:(l.length:Int)<s.Room-(s.Buffer.length:Int)
 ·rw[decide_eq_true c,cond_true];congr 1;omega
 ·rw[decide_eq_false c,cond_false];congr 1;omega
theorem aaG (s:ah) (l:List af):nX s l<=l.length:=by unfold nX;omega
theorem amu (s:ah) (l:List af) (hl:iD af.sz l<=1048576) (h1:0<=s.Room) (h2:s.Room<=6) (hb:(s.Buffer.length:Int)<=s.Room):
 M.qo l s.aQ.Kind s.aQ.Name s.Room s.dn s.Put s.BG s.Shut s.Gone s.aQ.aJ s.aQ.Kids s.Buffer=some (ah.flat3 (wrP s l).1 (wrP s l).2.1 (wrP s l).2.2):=by
 unfold M.qo wrP;have hp:=Nr af.sz (nX s l) l;have hlen:=eF af.sz l;have e1:=XW (l.take (nX s l)) (by omega)
 have e2:=afx (aaG s l);have e6:List.drop (Int.toNat 0) (List.take (nX s l) l)=List.take (nX s l) l:=rfl;have e3:=Gv (a:=s.Buffer.length) (b:=(l.take (nX s l)).length) (by rw[List.length_take];omega)
 simp only[ae.eta,ah.eta,akh,ahw h1 h2 hb,e1,e2,e3,e6,Option.getD_some,Option.isSome_some,Int.toNat_natCast,Bool.true_or,Bool.true_and,Bool.and_true,cond_true]
 generalize (decide ((8:Int)<(l.length:Int))||decide (RG s<Go.IntKind.wrap .i64 (s.Put+(l.length:Int))))=b
 generalize nX s l=k
 clear e1 e2 e3 e6 hp;obtain ⟨ty,room,fut,buf,put,got,shut,gone⟩:=s
 cases b<;>cases shut<;>cases gone<;>rfl
end M
namespace M
open Go.V (inB xH aG bZ)
def wrS (s:ah) (l:List af):ah×Int×Int:=bif (wrP s l).2.1==0 then ((wrP s l).2.2,(wrP s l).1,0) else (acW,0,(wrP s l).2.1)
theorem amw (s:ah) (l:List af) (hs:s.sz<=1048576) (hl:iD af.sz l<=1048576) (h1:0<=s.Room) (h2:s.Room<=6) (hb:(s.Buffer.length:Int)<=s.Room):
 M.zK s l=some (wrS s l):=by
 unfold M.zK wrS wrP;have hp:=Nr af.sz (nX s l) l;have hlen:=eF af.sz l;have e0:=X0 s.Buffer (ah.EF hs);have e1:=X0 (l.take (nX s l)) (by omega)
 have e2:=afx (aaG s l);have e6:List.drop (Int.toNat 0) (List.take (nX s l) l)=List.take (nX s l) l:=rfl;have e3:=Gv (a:=s.Buffer.length) (b:=(l.take (nX s l)).length) (by rw[List.length_take];omega)
 simp only[ae.aT,ah.aT,aki,ahx h1 h2 hb,e0,e1,e2,e3,e6,Option.getD_some,Option.isSome_some,Int.toNat_natCast,Bool.true_or,Bool.true_and,Bool.and_true,cond_true]
 generalize (decide ((8:Int)<(l.length:Int))||decide (RG s<Go.IntKind.wrap .i64 (s.Put+(l.length:Int))))=b
 generalize nX s l=k
 clear e0 e1 e2 e3 e6 hp;obtain ⟨ty,room,fut,buf,put,got,shut,gone⟩:=s
 cases b<;>cases shut<;>cases gone<;>rfl
end M
namespace M
open Go.V (inB xH aG bZ)
theorem LV {α:Type} {f:α->Nat}:∀{l:List α},(∀x∈l,f x=0)->iD f l=l.length
 | [],_=>rfl
 |x::r,h=>by simp only[iD,List.length_cons,h x (by simp),LV (l:=r) fun y hy=>h y (by simp[hy])];omega
theorem amx {v:af} {t:ae} (h:kQ v t=true) (ht:t.Kind=9):v.sz=0:=by
 rw[X3] at h;simp only[kT,headB,ht,Bool.and_eq_true,Bool.or_eq_true] at h;have h1:v.Text=[]:=by
  rcases h.1.1.2 with h |h
  ·simpa using h
  ·simp at h
 have h2:v.Kids=[]:=by
  have:=h.2;simp at this;exact List.eq_nil_of_length_eq_zero this.1.symm
 rw[af.jR,h1,h2];rfl
structure TV (s:ah):Prop where
 r0:0<=s.Room
 r6:s.Room<=6
 len:(s.Buffer.length:Int)<=s.Room
 ty:s.aQ.sz<=1048000
 vals:∀v∈s.Buffer,v.sz=0
theorem TV.buf {s:ah} (h:TV s):iD af.sz s.Buffer<=6:=by
 rw[LV h.vals];have:=h.len;have:=h.r6;omega
theorem TV.sz {s:ah} (h:TV s):s.sz<=1048576:=by
 rw[ah.jR];have:=h.buf;have:=h.ty;omega
def shP (s:ah):Int×ah:=bif s.Shut then (5,s) else bif (s.dn&& !s.Gone)&&(s.Put==0) then (3,s) else (0,ah.mk s.aQ s.Room s.dn s.Buffer s.Put s.BG true s.Gone)
def lvP (s:ah):Int×ah:=bif s.Gone then (5,s) else (0,ah.mk s.aQ s.Room s.dn [] s.Put s.BG s.Shut true)
def X4 (s:ah) (most:Int):Int×ah×List af:=bif s.Gone then (5,s,[]) else bif ((s.Buffer.length:Int)==0)&&s.Shut then (3,s,[])
 else (0,ah.mk s.aQ s.Room s.dn (s.Buffer.drop (y7 s most)) s.Put (Go.IntKind.wrap .i64 (s.BG+(y7 s most:Int))) s.Shut s.Gone,s.Buffer.take (y7 s most))
def spc (c:Int) (s:ah):ah:=bif c==0 then s else acW
theorem amy (s:ah):M.Dj s=some (spc (shP s).1 (shP s).2,(shP s).1):=by
 unfold M.Dj shP;simp only[ae.aT]
 cases s.Shut<;>cases ((s.dn&& !s.Gone)&&(s.Put==0))<;>rfl
theorem amz (s:ah):M.zx s=some (spc (lvP s).1 (lvP s).2,(lvP s).1):=by
 unfold M.zx lvP;simp only[ae.aT]
 cases s.Gone<;>rfl
def ah.acY (c:Int) (s:ah):Int×Int×(List UInt8)×Int×Bool×Int×Int×Bool×Bool×(List (List UInt8))×(List M.ae)×(List M.af):=(c,s.aQ.Kind,s.aQ.Name,s.Room,s.dn,s.Put,s.BG,s.Shut,s.Gone,s.aQ.aJ,s.aQ.Kids,s.Buffer)
theorem amA (s:ah):M.ou s.aQ.Kind s.aQ.Name s.Room s.dn s.Put s.BG s.Shut s.Gone s.aQ.aJ s.aQ.Kids s.Buffer=some (ah.acY (shP s).1 (shP s).2):=by
 unfold M.ou shP;have hc:((s.dn&&(s.Put==0))&& !s.Gone)=((s.dn&& !s.Gone)&&(s.Put==0)):=by cases s.dn<;>cases s.Gone<;>cases (s.Put==0)<;>rfl
 rw[hc]
 cases h:s.Shut<;>cases ((s.dn&& !s.Gone)&&(s.Put==0))<;>simp only[cond_true,cond_false,ah.acY,h]
theorem amB (s:ah):M.mi s.aQ.Kind s.aQ.Name s.Room s.dn s.Put s.BG s.Shut s.Gone s.aQ.aJ s.aQ.Kids s.Buffer=some (ah.acY (lvP s).1 (lvP s).2):=by
 unfold M.mi lvP
 cases h:s.Gone<;>simp only[cond_true,cond_false,ah.acY,h]
theorem amC (s:ah) (most:Int) (hm:1<=most) (hb:iD af.sz s.Buffer<=1048576):M.Dp s most=some (spc (X4 s most).1 (X4 s most).2.1,(X4 s most).2.2,(X4 s most).1):=by
 unfold M.Dp X4;have hp:=Nr af.sz (y7 s most) s.Buffer;have e1:=ai4 s most hm;have e2:=aeC (RF s most) (Nat.le_refl _);have e3:=afx (RF s most);have e4:=X0 (s.Buffer.take (y7 s most)) (by omega)
 have e5:=X0 (s.Buffer.drop (y7 s most)) (by omega)
 have e6:List.drop (Int.toNat 0) (List.take (y7 s most) s.Buffer)=List.take (y7 s most) s.Buffer:=rfl;simp only[ae.aT,e1,e2,e3,e4,e5,e6,Option.isSome_some,Option.getD_some,Int.toNat_natCast,List.take_length,Bool.not_true,cond_false,cond_true,Bool.true_and,Bool.and_true,Bool.not_false]
 cases h:s.Gone<;>cases (((s.Buffer.length:Int)==0)&&s.Shut)<;>simp only[cond_true,cond_false,spc,h]<;>rfl
def ah.flat5 (c:Int) (s:ah) (v:List af):Int×Int×(List UInt8)×Int×Bool×Int×Int×Bool×Bool×(List M.af)×(List (List UInt8))×(List M.ae)×(List M.af):=(c,s.aQ.Kind,s.aQ.Name,s.Room,s.dn,s.Put,s.BG,s.Shut,s.Gone,v,s.aQ.aJ,s.aQ.Kids,s.Buffer)
theorem amD (s:ah) (most:Int) (hm:1<=most) (hm8:most<=8) (hb:iD af.sz s.Buffer<=1048576):
 M.rZ most s.aQ.Kind s.aQ.Name s.Room s.dn s.Put s.BG s.Shut s.Gone s.aQ.aJ s.aQ.Kids s.Buffer=some (ah.flat5 (X4 s most).1 (X4 s most).2.1 (X4 s most).2.2):=by
 unfold M.rZ X4;have hp:=Nr af.sz (y7 s most) s.Buffer;have e1:=ai3 s most hm;have e2:=aeC (RF s most) (Nat.le_refl _);have e3:=afx (RF s most);have e4:=XW (s.Buffer.take (y7 s most)) (by omega)
 have e6:List.drop (Int.toNat 0) (List.take (y7 s most) s.Buffer)=List.take (y7 s most) s.Buffer:=rfl;have e7:(!(decide ((1:Int)<=most)&&decide (most<=(8:Int))))=false:=by rw[decide_eq_true hm,decide_eq_true hm8];rfl
 simp only[e1,e2,e3,e4,e6,e7,Option.isSome_some,Option.getD_some,Int.toNat_natCast,Bool.not_true,cond_false,cond_true,Bool.true_and,Bool.and_true,Bool.not_false]
 cases h:s.Gone<;>cases h2:(((s.Buffer.length:Int)==0)&&s.Shut)<;>simp only[cond_true,cond_false,ah.flat5,h]
def ai5 (n:Int):af:=af.mk 9 n [] []
def LW (first:Int) (n:Nat):List af:=(List.range n).map fun (k:Nat)=>ai5 (Go.IntKind.wrap .i64 (first+(k:Int)))
theorem ai6 (n:Int):(ai5 n).sz=0:=by rw[af.jR];rfl
theorem abK (first:Int) (n:Nat):∀v∈LW first n,v.sz=0:=fun v hv=>by
 obtain ⟨k, -,rfl⟩:=List.mem_map.1 hv;exact ai6 _
theorem X5 (first:Int) (n:Nat):(LW first n).length=n:=by simp[LW]
theorem aaH {F:Nat->Int->List af->Option (List af)} (first:Int) (n:Nat) (hn:n<=8)
 (step:∀f (k:Nat) out,k<n->out.length=k->F (f+1) (k:Int) out=F f ((k+1:Nat):Int) (out++[ai5 (Go.IntKind.wrap .i64 (first+(k:Int)))])) (stop:∀f out,F (f+1) (n:Int) out=some out):
 F aG 0 []=some (LW first n):=by
 have key:∀f k,k<=n->n-k<f->F f (k:Int) (LW first k)=some (LW first n):=by
  intro f
  induction f with
  |zero=>intro k h1 h2;omega
  |succ f ih=>
   intro k h1 h2
   rcases Nat.lt_or_ge k n with hk |hk
   ·rw[step f k _ hk (X5 _ _)]
    have:LW first k++[ai5 (Go.IntKind.wrap .i64 (first+(k:Int)))]=LW first (k+1):=by
     simp[LW,List.range_succ]
    rw[this];exact ih (k+1) (by omega) (by omega)
   ·have:k=n:=by omega
    subst this;exact stop f _
 exact key aG 0 (Nat.zero_le _) (by have:=bZ;omega)
theorem akj (first:Int) (n:Nat) (hn:n<=8):M.uH first (n:Int)=some (LW first n):=by
 unfold M.uH;rw[aaH (F:=M.kX first (n:Int)) first n hn (fun f k out hk ho=>by
  rw[M.kX];have hc:=Gv (a:=out.length) (b:=1) (by omega)
  simp only[Int.ofNat_lt,hk,decide_true,cond_true,List.length_cons,List.length_nil,Nat.zero_add,hc,Bool.and_true,fZ hk (by omega:n<2^62)]
  rfl) (fun f out=>by rw[M.kX];simp)]
theorem akk (first:Int) (n:Nat) (hn:n<=8):M.rY first (n:Int)=some (LW first n):=by
 unfold M.rY;rw[aaH (F:=M.jX first (n:Int)) first n hn (fun f k out hk ho=>by
  rw[M.jX];have hc:=Gv (a:=out.length) (b:=1) (by omega)
  simp only[Int.ofNat_lt,hk,decide_true,cond_true,List.length_cons,List.length_nil,Nat.zero_add,hc,Bool.and_true,fZ hk (by omega:n<2^62)]
  rfl) (fun f out=>by rw[M.jX];simp)]
def I9 (a:ai):Bool:=(!(decide ((0:Int)<=a.nD)&&decide (a.nD<=(8:Int))))||(a.Close&&(a.nD !=(0:Int)))
def Io (n:Int):Int:=if 1<n then n else 1
abbrev PSt := ah×Int×List af
noncomputable def sO (st:PSt) (a:ai):PSt:=
 bif a.Write&&a.Close then ((shP st.1).2,st.2.1,st.2.2) else bif a.Close then ((lvP st.1).2,st.2.1,st.2.2)
 else bif a.Write then ((wrP st.1 (LW st.2.1 a.nD.toNat)).2.2,Go.IntKind.wrap .i64 (st.2.1+(wrP st.1 (LW st.2.1 a.nD.toNat)).1),st.2.2)
 else ((X4 st.1 (Io a.nD)).2.1,st.2.1,st.2.2++(X4 st.1 (Io a.nD)).2.2)
theorem ai7 {s:ah} (h:TV s):TV (shP s).2:=by
 unfold shP
 cases s.Shut<;>cases ((s.dn&& !s.Gone)&&(s.Put==0))<;>exact ⟨h.r0,h.r6,h.len,h.ty,h.vals⟩
theorem ai8 {s:ah} (h:TV s):TV (lvP s).2:=by
 unfold lvP
 cases s.Gone
 ·exact ⟨h.r0,h.r6,by simpa using h.r0,h.ty,by simp⟩
 ·exact h
theorem abL {s:ah} (h:TV s) (m:Int):TV (X4 s m).2.1 /\ (X4 s m).2.2.length<=6 /\ ∀v∈(X4 s m).2.2,v.sz=0:=by
 unfold X4;have hl:=h.len;have h6:=h.r6
 cases s.Gone
 ·cases (((s.Buffer.length:Int)==0)&&s.Shut)
  ·exact ⟨⟨h.r0,h.r6,by simp only[List.length_drop,cond_false];omega,h.ty,fun v hv=>h.vals v (List.mem_of_mem_drop hv)⟩,by simp only[List.length_take,cond_false];omega,fun v hv=>h.vals v (List.mem_of_mem_take hv)⟩
  ·exact ⟨h,by simp,by simp⟩
 ·exact ⟨h,by simp,by simp⟩
theorem ai9 {s:ah} (h:TV s) (l:List af) (hl:∀v∈l,v.sz=0):TV (wrP s l).2.2:=by
 unfold wrP;have h1:=h.len;have h6:=h.r6
 cases (decide ((8:Int)<(l.length:Int))||decide (RG s<Go.IntKind.wrap .i64 (s.Put+(l.length:Int))))<;>cases s.Shut<;>cases s.Gone<;>first
  |exact h
  |exact ⟨h.r0,h.r6,by simp only[cond_false,List.length_append,List.length_take];unfold nX;omega,h.ty,fun v hv=>by
    simp only[cond_false,List.mem_append] at hv
    rcases hv with hv |hv
    ·exact h.vals v hv
    ·exact hl v (List.mem_of_mem_take hv)⟩
def PJ (k:Nat) (st:PSt):Prop:=TV st.1 /\ st.2.2.length<=6*k /\ ∀v∈st.2.2,v.sz=0
theorem TW {k:Nat} {st:PSt} (h:PJ k st) (a:ai):PJ (k+1) (sO st a):=by
 obtain ⟨h1,h2,h3⟩:=h;unfold sO
 cases (a.Write&&a.Close)
 ·cases a.Close
  ·cases a.Write
   ·have:=abL h1 (Io a.nD)
    refine ⟨this.1, ?_,fun v hv=> ?_⟩
    ·simp only[cond_false,List.length_append];omega
    ·simp only[cond_false,List.mem_append] at hv
     rcases hv with hv |hv
     ·exact h3 v hv
     ·exact this.2.2 v hv
   ·exact ⟨ai9 h1 _ (abK _ _),by simp only[cond_false,cond_true];omega,h3⟩
  ·exact ⟨ai8 h1,by simp only[cond_false,cond_true];omega,h3⟩
 ·exact ⟨ai7 h1,by simp only[cond_true];omega,h3⟩
theorem aeD (c:Int) (s s':ah) (h:c≠0->s'=s):(bif c==0 then spc c s' else s)=s':=by
 unfold spc
 cases hc:(c==0)
 ·have:c≠0:=by intro e;subst e;simp at hc
  exact (h this).symm
 ·rfl
theorem aja (s:ah):(shP s).1≠0->(shP s).2=s:=by
 unfold shP;cases s.Shut<;>cases ((s.dn&& !s.Gone)&&(s.Put==0))<;>simp
theorem ajb (s:ah):(lvP s).1≠0->(lvP s).2=s:=by unfold lvP;cases s.Gone<;>simp
theorem ajc (s:ah) (m:Int):(X4 s m).1≠0->(X4 s m).2.1=s:=by
 unfold X4;cases s.Gone<;>cases (((s.Buffer.length:Int)==0)&&s.Shut)<;>simp
theorem ajd (s:ah) (l:List af):(wrP s l).2.1≠0->(wrP s l).2.2=s /\ (wrP s l).1=0:=by
 unfold wrP
 cases (decide ((8:Int)<(l.length:Int))||decide (RG s<Go.IntKind.wrap .i64 (s.Put+(l.length:Int))))<;>cases s.Shut<;>cases s.Gone<;>simp
end M
namespace M
open Go.V (inB xH aG bZ)
theorem acZ {a:ai} (h:I9 a=false):0<=a.nD /\ a.nD<=8:=by
 unfold I9 at h;simp only[Bool.or_eq_false_iff,Bool.not_eq_false',Bool.and_eq_true,decide_eq_true_eq] at h;exact h.1
theorem alD {n:Int} (h:0<=n):M.rE n (1:Int)=some (Io n):=by
 unfold M.rE Io
 by_cases c:(1:Int)<n
 ·rw[if_pos c,decide_eq_true c];rfl
 ·rw[if_neg c,decide_eq_false c];rfl
theorem alE (n:Int):(bif decide ((1:Int)<n) then n else (1:Int))=Io n:=by
 unfold Io
 by_cases c:(1:Int)<n
 ·rw[if_pos c,decide_eq_true c];rfl
 ·rw[if_neg c,decide_eq_false c];rfl
theorem ahy (n:Int):1<=Io n:=by unfold Io;split<;>omega
theorem akm {n:Int} (h:n<=8):Io n<=8:=by unfold Io;split<;>omega
set_option maxHeartbeats 1000000 in
theorem akn (list:List ai) (hl:list.length<=60) (hA:∀a∈list,I9 a=false) (t6:Int) (t62:List UInt8) (t63:Int) (t64:Bool) (t65 t66:Int) (t67 t68:Bool) (o7:List (List UInt8)) (o8:List ae) (o9:List af) (st:PSt) (h0:PJ 0 st):
 M.dC list t6 t62 t63 t64 t65 t66 t67 t68 o7 o8 o9 aG st.2.1 0 st.1 st.2.2=some (t6,t62,t63,t64,t65,t66,t67,t68,(list.foldl sO st).1,(list.foldl sO st).2.2,o7,o8,o9):=by
 refine aaI (F:=fun f i st=>M.dC list t6 t62 t63 t64 t65 t66 t67 t68 o7 o8 o9 f st.2.1 i st.1 st.2.2) (g:=sO) (h:=fun st=>(t6,t62,t63,t64,t65,t66,t67,t68,st.1,st.2.2,o7,o8,o9)) list (by omega) PJ (fun f k st hk hJ=> ?_) (fun f st _=> ?_) st h0
 ·refine ⟨?_,TW hJ _⟩
  have hP:=hJ.1;have hb:=hP.buf;have hm:=acZ (hA list[k] (List.getElem_mem hk));have hn:((list[k].nD.toNat:Nat):Int)=list[k].nD:=by omega
  have e1:=amy st.1;have e2:=amz st.1;have e3:=akj st.2.1 list[k].nD.toNat (by omega)
  rw[hn] at e3;have e4:=amw st.1 (LW st.2.1 list[k].nD.toNat) hP.sz (by rw[LV (abK _ _),X5];omega) hP.r0 hP.r6 hP.len
  have e5:=alD hm.1;have e6:=amC st.1 (Io list[k].nD) (ahy _) (by omega)
  have hr:=(abL hP (Io list[k].nD)).2.1;have hc:=Gv (a:=st.2.2.length) (b:=(X4 st.1 (Io list[k].nD)).2.2.length) (by have:=hJ.2.1;omega)
  have w:=fZ hk (by omega:list.length<2^62)
  show M.dC list t6 t62 t63 t64 t65 t66 t67 t68 o7 o8 o9 (f+1) st.2.1 (k:Int) st.1 st.2.2=_
  rw[M.dC];simp only[Int.ofNat_lt,hk,decide_true,cond_true,Int.toNat_natCast,getD_lt hk,ah.aT,e1,e2,e3,e4,e5,e6,dK,Option.isSome_some,Option.getD_some,Bool.true_and,Bool.and_true,w,hc];unfold sO
  cases hW:list[k].Write<;>cases hC:list[k].Close<;>simp only[Bool.and_true,Bool.and_false,Bool.false_and,Bool.true_and,cond_true,cond_false,Bool.and_self]
  ·have:=aeD (X4 st.1 (Io list[k].nD)).1 st.1 (X4 st.1 (Io list[k].nD)).2.1 (ajc _ _)
   cases hz:((X4 st.1 (Io list[k].nD)).1==0)<;>rw[hz] at this<;>simp only[cond_true,cond_false] at this ⊢
   ·rw[<-this]
   ·rw[this]
  ·have:=aeD (lvP st.1).1 st.1 (lvP st.1).2 (ajb _)
   cases hz:((lvP st.1).1==0)<;>rw[hz] at this<;>simp only[cond_true,cond_false] at this ⊢
   ·rw[<-this]
   ·rw[this]
  ·unfold wrS
   cases hz:((wrP st.1 (LW st.2.1 list[k].nD.toNat)).2.1==0)
   ·have hne:(wrP st.1 (LW st.2.1 list[k].nD.toNat)).2.1≠0:=by intro e;rw[e] at hz;simp at hz
    have:=ajd _ _ hne;simp only[cond_false,hz,this.1,this.2]
   ·simp only[cond_true]
    rfl
  ·have:=aeD (shP st.1).1 st.1 (shP st.1).2 (aja _)
   cases hz:((shP st.1).1==0)<;>rw[hz] at this<;>simp only[cond_true,cond_false] at this ⊢
   ·rw[<-this]
   ·rw[this]
 ·show M.dC list t6 t62 t63 t64 t65 t66 t67 t68 o7 o8 o9 (f+1) st.2.1 (list.length:Int) st.1 st.2.2=_
  rw[M.dC];simp[ah.aT]
set_option maxHeartbeats 1000000 in
theorem ako (list:List ai) (hl:list.length<=60) (hA:∀a∈list,I9 a=false) (t6:Int) (t62:List UInt8) (t63:Int) (t64:Bool) (t65 t66:Int) (t67 t68:Bool) (o7:List (List UInt8)) (o8:List ae) (o9:List af) (st:PSt) (h0:PJ 0 st):
 M.fB list (list.length:Int) t6 t62 t63 t64 t65 t66 t67 t68 o7 o8 o9 aG st.2.1 0 st.1.aQ.Kind st.1.aQ.Name st.1.Room st.1.dn st.1.Put st.1.BG st.1.Shut st.1.Gone st.2.2 st.1.aQ.aJ st.1.aQ.Kids st.1.Buffer
   =some (t6,t62,t63,t64,t65,t66,t67,t68,(list.foldl sO st).1.aQ.Kind,(list.foldl sO st).1.aQ.Name,(list.foldl sO st).1.Room,(list.foldl sO st).1.dn,(list.foldl sO st).1.Put,(list.foldl sO st).1.BG,(list.foldl sO st).1.Shut,(list.foldl sO st).1.Gone,(list.foldl sO st).2.2,o7,o8,o9,(list.foldl sO st).1.aQ.aJ,(list.foldl sO st).1.aQ.Kids,(list.foldl sO st).1.Buffer):=by
 refine aaI (F:=fun f i st=>M.fB list (list.length:Int) t6 t62 t63 t64 t65 t66 t67 t68 o7 o8 o9 f st.2.1 i st.1.aQ.Kind st.1.aQ.Name st.1.Room st.1.dn st.1.Put st.1.BG st.1.Shut st.1.Gone st.2.2 st.1.aQ.aJ st.1.aQ.Kids st.1.Buffer) (g:=sO)
  (h:=fun st=>(t6,t62,t63,t64,t65,t66,t67,t68,st.1.aQ.Kind,st.1.aQ.Name,st.1.Room,st.1.dn,st.1.Put,st.1.BG,st.1.Shut,st.1.Gone,st.2.2,o7,o8,o9,st.1.aQ.aJ,st.1.aQ.Kids,st.1.Buffer)) list (by omega) PJ (fun f k st hk hJ=> ?_) (fun f st _=> ?_) st h0
 ·refine ⟨?_,TW hJ _⟩
  have hP:=hJ.1;have hb:=hP.buf;have hm:=acZ (hA list[k] (List.getElem_mem hk));have hn:((list[k].nD.toNat:Nat):Int)=list[k].nD:=by omega
  have e1:=amA st.1;have e2:=amB st.1;have e3:=akk st.2.1 list[k].nD.toNat (by omega)
  rw[hn] at e3;have e4:=amu st.1 (LW st.2.1 list[k].nD.toNat) (by rw[LV (abK _ _),X5];omega) hP.r0 hP.r6 hP.len
  have e6:=amD st.1 (Io list[k].nD) (ahy _) (akm hm.2) (by omega)
  have hr:=(abL hP (Io list[k].nD)).2.1;have hc:=Gv (a:=st.2.2.length) (b:=(X4 st.1 (Io list[k].nD)).2.2.length) (by have:=hJ.2.1;omega)
  have w:=fZ hk (by omega:list.length<2^62)
  show M.fB list (list.length:Int) t6 t62 t63 t64 t65 t66 t67 t68 o7 o8 o9 (f+1) st.2.1 (k:Int) st.1.aQ.Kind st.1.aQ.Name st.1.Room st.1.dn st.1.Put st.1.BG st.1.Shut st.1.Gone st.2.2 st.1.aQ.aJ st.1.aQ.Kids st.1.Buffer=_
  rw[M.fB];simp only[Int.ofNat_lt,hk,decide_true,cond_true,Int.toNat_natCast,getD_lt hk,alE,e1,e2,e3,e4,e6,dK,Option.isSome_some,Option.getD_some,Bool.true_and,Bool.and_true,w,ah.acY,ah.flat3,ah.flat5,hc];unfold sO
  cases hW:list[k].Write<;>cases hC:list[k].Close<;>simp only[Bool.and_true,Bool.and_false,Bool.false_and,Bool.true_and,cond_true,cond_false,Bool.and_self]
 ·show M.fB list (list.length:Int) t6 t62 t63 t64 t65 t66 t67 t68 o7 o8 o9 (f+1) st.2.1 (list.length:Int) st.1.aQ.Kind st.1.aQ.Name st.1.Room st.1.dn st.1.Put st.1.BG st.1.Shut st.1.Gone st.2.2 st.1.aQ.aJ st.1.aQ.Kids st.1.Buffer=_
  rw[M.fB];simp
end M
namespace M
open Go.V (inB xH aG bZ)
theorem ty9 {t:ae} (h:tOk t=true) (hk:t.Kind=9):t.sz=0:=by
 unfold tOk at h;rw[Dq] at h;simp only[Ja,aje,abM,ac0,hk,Bool.and_eq_true] at h;have h1:t.aJ=[]:=by
  have:=h.2.1.1.1;simp at this;exact this
 have h2:t.Name=[]:=by
  have:=h.2.1.1.2;simp at this;exact this
 have h3:t.Kids=[]:=by
  have:=h.2.1.2;simp at this;exact this
 rw[ae.jR,h1,h2,h3];rfl
noncomputable def OY (s:ah) (first:Int) (l:List ai):ah×List af×Int:=
 bif !stB s then (acW,[],1) else bif s.aQ.Kind !=9 then (acW,[],7) else bif !(decide ((-(1000000:Int))<=first)&&decide (first<=(1000000:Int))) then (acW,[],2)
 else bif decide ((60:Int)<(l.length:Int)) then (acW,[],4) else bif l.any I9 then (acW,[],1)
 else ((l.foldl sO (s,first,[])).1,(l.foldl sO (s,first,[])).2.2,0)
theorem start {s:ah} (hs:stB s=true) (hk:s.aQ.Kind=9) (first:Int):PJ 0 (s,first,[]):=by
 have hf:=agy hs;refine ⟨⟨show 0<=s.Room by have:=hf.2.1;omega,hf.2.2.1,hf.2.2.2.1, ?_,fun v hv=> ?_⟩,by simp,by simp⟩
 ·show s.aQ.sz<=1048000
  rw[ty9 (abN hf.1) hk];omega
 ·have:=hf.2.2.2.2.1
  unfold acX at this;exact amx (List.all_eq_true.1 this v hv) hk
theorem RH : ∀(l:List ai) (k:Nat) (st:PSt),PJ k st->PJ (k+l.length) (l.foldl sO st)
 | [],k,st,h=>h
 |a::r,k,st,h=>by
  have:=RH r (k+1) (sO st a) (TW h a);rw[List.foldl_cons,List.length_cons]
  rwa [Nat.add_right_comm,Nat.add_assoc] at this
theorem alF (s:ah) (first:Int) (l:List ai) (hl:l.length<=60):
 M.gZ first l (0:Int) [] (0:Int) false (0:Int) (0:Int) false false [] [] [] aG (0:Int) s=some (match l.findIdx? I9 with
   |some k=> .inl ((1:Int),(0:Int),[],(0:Int),false,(0:Int),(0:Int),false,false,[],[],[],[])
   |none=> .inr (first,l,s,(0:Int),[],(0:Int),false,(0:Int),(0:Int),false,false,[],[],[])):=by
 refine uN (p:=I9) (F:=fun f i=>M.gZ first l (0:Int) [] (0:Int) false (0:Int) (0:Int) false false [] [] [] f i s) (fun _=>((1:Int),(0:Int),[],(0:Int),false,(0:Int),(0:Int),false,false,[],[],[],[])) l (by omega) (fun f k hk=> ?_) (fun f=> ?_)
 ·show M.gZ first l (0:Int) [] (0:Int) false (0:Int) (0:Int) false false [] [] [] (f+1) (k:Int) s=_
  rw[M.gZ];simp only[Int.ofNat_lt,hk,decide_true,cond_true,Int.toNat_natCast,getD_lt hk,ah.aT,dK,Bool.true_or,Bool.true_and,Bool.and_true,fZ hk (by omega:l.length<2^62)]
  rfl
 ·show M.gZ first l (0:Int) [] (0:Int) false (0:Int) (0:Int) false false [] [] [] (f+1) (l.length:Int) s=_
  rw[M.gZ];simp[ah.aT]
theorem alG (l:List ai) (hl:l.length<=60):M.dm l=some (l.any I9):=by
 have e:=contains_of (p:=I9) (F:=M.bQ l (l.length:Int)) l (by omega) (fun f k hk=>by
  rw[M.bQ];have c:M.rG l[k]=some (I9 l[k]):=rfl;simp only[getD_lt hk,c,Int.toNat_natCast,dK,Int.ofNat_lt,hk,decide_true,cond_true,Bool.true_or,Bool.true_and,Bool.and_true,fZ hk (by omega:l.length<2^62),Option.getD_some,Option.isSome_some]) (fun f=>by
  rw[M.bQ];simp)
 have e2:M.dX l=_:=e;unfold M.dm;rw[e2];simp only[Option.getD_some,Option.isSome_some,Bool.and_true,cond_true];rw[index_ge]
theorem ajf (s:ah) (first:Int) (l:List ai) (h:s.sz<=1048576):M.uJ s first l=some (OY s first l):=by
 unfold M.uJ OY;simp only[ah.aT,ahz s h,Option.isSome_some,Option.getD_some,Bool.true_and,Bool.and_true,cond_true]
 cases hs:stB s
 ·rfl
 ·cases hk:(s.aQ.Kind !=9)
  ·have hk9:s.aQ.Kind=9:=by simpa using hk
   cases hf:(decide ((-(1000000:Int))<=first)&&decide (first<=(1000000:Int)))
   ·rfl
   ·cases hl:decide ((60:Int)<(l.length:Int))
    ·have hl':l.length<=60:=by simp at hl;omega
     rw[alF s first l hl']
     cases ha:l.any I9
     ·have hn:l.findIdx? I9=none:=by rw[lX] at ha;cases e:l.findIdx? I9<;>rw[e] at ha<;>simp_all
      have hJ:=start hs hk9 first
      have hA:∀a∈l,I9 a=false:=fun a ha'=>by
       rw[List.any_eq_false] at ha;simpa using ha a ha'
      have hJ2:=RH l 0 _ hJ;have e:=akn l hl' hA (0:Int) [] (0:Int) false (0:Int) (0:Int) false false [] [] [] (s,first,[]) hJ
      simp only[hn,afw s h,Option.isSome_some,Option.getD_some,e,afw _ hJ2.1.sz,Bool.not_true,cond_false,Bool.true_and,Bool.and_true,cond_true]
     ·obtain ⟨k,hn⟩:∃k,l.findIdx? I9=some k:=by
       rw[lX] at ha;cases e:l.findIdx? I9
       ·rw[e] at ha;simp at ha
       ·exact ⟨_,rfl⟩
      simp only[hn,Bool.not_true,cond_false,cond_true,Bool.true_and,Bool.and_true]
      rfl
    ·rfl
  ·rfl
def ah.ajY (s:ah) (c:Int) (v:List af):Int×(List UInt8)×Int×Bool×Int×Int×Bool×Bool×Int×(List (List UInt8))×(List M.ae)×(List M.af)×(List M.af):=(s.aQ.Kind,s.aQ.Name,s.Room,s.dn,s.Put,s.BG,s.Shut,s.Gone,c,s.aQ.aJ,s.aQ.Kids,s.Buffer,v)
theorem ajg (s:ah) (first:Int) (l:List ai) (h:s.sz<=1048576):M.uM s first l=some ((OY s first l).1.ajY (OY s first l).2.2 (OY s first l).2.1):=by
 unfold M.uM OY;simp only[ah.aT,ahA s h,XX s (ah.vX h) (ah.EF h),ah.lD,Option.isSome_some,Option.getD_some,Bool.true_and,Bool.and_true,cond_true]
 cases hs:stB s
 ·rfl
 ·cases hk:(s.aQ.Kind !=9)
  ·have hk9:s.aQ.Kind=9:=by simpa using hk
   cases hf:(decide ((-(1000000:Int))<=first)&&decide (first<=(1000000:Int)))
   ·rfl
   ·cases hl:decide ((60:Int)<(l.length:Int))
    ·have hl':l.length<=60:=by simp at hl;omega
     rw[alG l hl']
     cases ha:l.any I9
     ·have hJ:=start hs hk9 first
      have hA:∀a∈l,I9 a=false:=fun a ha'=>by
       rw[List.any_eq_false] at ha;simpa using ha a ha'
      have hJ2:=RH l 0 _ hJ;have e:=ako l hl' hA (0:Int) [] (0:Int) false (0:Int) (0:Int) false false [] [] [] (s,first,[]) hJ
      have e2:=XX _ (ah.vX hJ2.1.sz) (ah.EF hJ2.1.sz);simp only[Option.isSome_some,Option.getD_some,e,ae.eta,ah.eta,e2,ah.lD,Bool.not_true,cond_false,Bool.true_and,Bool.and_true,cond_true]
      rfl
     ·simp only[Option.isSome_some,Option.getD_some,Bool.not_true,cond_false,Bool.true_and,Bool.and_true,cond_true]
      rfl
    ·rfl
  ·rfl
theorem ahB (s:ah) (first:Int) (l:List ai) (h:s.sz<=1048576):(OY s first l).1.sz<=1048576 /\ iD af.sz (OY s first l).2.1<=1048576:=by
 unfold OY
 cases hs:stB s
 ·exact ⟨by simp only[Bool.not_false,cond_true,RD];omega,by simp[iD]⟩
 ·cases hk:(s.aQ.Kind !=9)
  ·cases hf:(decide ((-(1000000:Int))<=first)&&decide (first<=(1000000:Int)))
   ·exact ⟨by simp only[Bool.not_false,Bool.not_true,cond_true,cond_false,RD];omega,by simp[iD]⟩
   ·cases hl:decide ((60:Int)<(l.length:Int))
    ·cases ha:l.any I9
     ·have hJ:=RH l 0 _ (start hs (by simpa using hk) first)
      refine ⟨hJ.1.sz, ?_⟩;simp only[Bool.not_true,cond_false];rw[LV hJ.2.2];have:=hJ.2.1;simp at hl;omega
     ·exact ⟨by simp only[Bool.not_true,cond_true,cond_false,RD];omega,by simp[iD]⟩
    ·exact ⟨by simp only[Bool.not_true,cond_true,cond_false,RD];omega,by simp[iD]⟩
  ·exact ⟨by simp only[Bool.not_true,cond_true,cond_false,RD];omega,by simp[iD]⟩
noncomputable def ac1 (k:Int) (_:ai):Int×ai:=(k+1+1+1,ai.mk (Int.tmod k 3==0) (Int.tmod (k+1) 3==0) (k+1+1))
theorem ajh (l:List ai) (k:Int):k<=(bP ac1 k l).1 /\ (bP ac1 k l).1=k+3*(l.length:Int):=by
 induction l generalizing k with
 |nil=>simp[bP]
 |cons x r ih=>have:=ih (k+1+1+1);simp only[bP,ac1,List.length_cons] at*;omega
theorem ac2 (a:List ai) (ha:a.length<=1048576) (k:Int) (h0:0<=k) (h1:k<=100000000000):M.mF k a=some (bP ac1 k a):=by
 unfold M.mF;rw[Np (F:=M.iw) (mk:=ac1) a ha (fun i q=>q=k+3*(i:Int)) ai.zero (fun f q i l hi hl hg hI=>by
  subst hI;rw[M.iw];have hlt:decide ((i:Int)<((l.length:Nat):Int))=true:=by rw[decide_eq_true_eq];omega
  have hin:inB (i:Int) l.length=true:=by rw[dK];simpa using hl
  have w1:Go.IntKind.wrap .i64 (k+3*(i:Int)+1)=k+3*(i:Int)+1:=wrap_i64 (by omega) (by omega)
  have w2:Go.IntKind.wrap .i64 (k+3*(i:Int)+1+1)=k+3*(i:Int)+1+1:=wrap_i64 (by omega) (by omega)
  have w3:Go.IntKind.wrap .i64 (k+3*(i:Int)+1+1+1)=k+3*(i:Int)+1+1+1:=wrap_i64 (by omega) (by omega)
  have h3:((3:Int) !=0)=true:=rfl;refine ⟨?_,by simp only[ac1];omega⟩
  simp only[hlt,hin,h3,Int.toNat_natCast,cond_true,Bool.true_and,Bool.and_true,XQ,hl,List.length_set,hg,w1,w2,w3,fZ hi (kZ ha),List.set_set,ac1]) (fun f q l hl=>by rw[M.iw];simp[hl]) k (by simp)]
theorem XM (x:ah) (first:Int) (l:List ai) (hx:x.Ok) (hl0:LOk ai.Ok l):M.jH x first l=some true:=by
 unfold M.jH;rw[ah.aT,agk x 1048576 hx (by omega) (by omega)]
 by_cases h1:(x.sz:Int)<=1048576
 ·have h:x.sz<=1048576:=by omega
  have n1:¬(1048576-(x.sz:Int)<0):=by omega
  rw[if_pos h1];have es:=Z9 l (1048576-(x.sz:Int)) hl0 (by omega) (by omega)
  by_cases h2:(iD ai.sz l:Int)<=1048576-(x.sz:Int)
  ·rw[if_pos h2] at es
   have n2:¬(1048576-(x.sz:Int)-(iD ai.sz l:Int)<0):=by omega
   have hl:iD ai.sz l<=1048576:=by omega
   have hlen:=Nat.le_trans (eF ai.sz l) hl;have hr:=ahB x first l h
   have e1:=ajg x first l h
   have e2:=ajf x first l h
   generalize OY x first l=r at hr e1 e2
   obtain ⟨r,v,c⟩:=r;have q0:=agl x h;have q0':=aab l hl;have q1:=ahv x h;have q2:=ahv r hr.1;have q3:=akg r hr.1;have q4:=ahu x h;have q5:=ahu r hr.1;have q6:=aaz x h;have q7:=aaz r hr.1;have q8:=aay v hr.2;have q8':=aac l hl;have hk:=ajX r hr.1;have hkx:=ajX x h;have q9:=XU v (k3 1 r) hr.2 (by omega) (by omega)
   have q10:=XY v (k3 1 r) hr.2 (by omega) (by omega)
   have q11:=su (n:=(bP KE (k3 1 r) v).1) (by have:=XT v (k3 1 r);omega)
   have q12:=ac2 l hlen (k3 1 x) (by omega) (by omega)
   have q13:=su (n:=(bP ac1 (k3 1 x) l).1) (by have:=ajh l (k3 1 x);omega)
   simp only[ah.ajY] at e1;simp only[ah.aT,q0,q0',es,e1,e2,ae.eta,ah.eta,q1,q2,q3,q4,q5,q6,q7,q8,q8',q9,q10,q11,q12,q13,Option.getD_some,Option.isSome_some,n1,n2,decide_false,cond_false,Bool.and_true,Bool.and_self,Bool.true_and,cond_true,beq_self_eq_true,bne_self_eq_false,Bool.not_true,Bool.or_false,Bool.not_false,Bool.or_true,Bool.true_or]
  ·rw[if_neg h2] at es
   simp[es,n1]
 ·rw[if_neg h1];simp
end M
