/-
  RUNNING NUMBERS in plain Lean: a list whose elements are marked one behind the other.
-/
import Derived.Test.YtefdfjaifkhphaaGreatDoorXUplA
import Derived.Test.YtefdfjaifkhphaaGreatDoorXUQH
import Derived.Test.YtefdfjaifkhphaaGreatDoorXUU
set_option linter.unusedVariables false
namespace M
open Go.V (inB qg aP bG)
def afM {α:Type} (mk:Int->α->Int×α):Int->List α->Int×List α
 |k,[]=>(k,[])
 |k,x::r=>((afM mk (mk k x).1 r).1,(mk k x).2::(afM mk (mk k x).1 r).2)
end M
set_option linter.unusedSimpArgs false
namespace M
open Go.V (inB qg aP bG)
theorem Jj {α β Y:Type} {F:Nat->Int->List β->Option Y} {h:List β->Option Y} (g:α->β) (l:List α) (hn:l.length<=1048576) (adC:List β)
 (step:∀f k out,∀hk:k<l.length,out.length=adC.length+k->F (f+1) (k:Int) out=F f ((k+1:Nat):Int) (out++[g l[k]]))
 (stop:∀f out,F (f+1) (l.length:Int) out=h out):F aP 0 adC=h (adC++l.map g):=by
 have key:∀f k out,k<=l.length->l.length-k<f->out.length=adC.length+k->F f (k:Int) out=h (out++(l.drop k).map g):=by
  intro f
  induction f with
  |zero=>intro k out h1 h2;omega
  |succ f ih=>
   intro k out h1 h2 ho
   rcases Nat.lt_or_ge k l.length with hk |hk
   ·rw[step f k out hk ho,ih (k+1) _ (by omega) (by omega) (by simp[ho];omega),Dt hk]
    simp only[List.map_cons,List.append_assoc,List.singleton_append]
   ·have:k=l.length:=by omega
    subst this;rw[stop,List.drop_length];simp
 have:=key aP 0 adC (Nat.zero_le _) (by have:=bG;omega) rfl
 simpa using this
theorem yX {a b:Nat} (h:a+b<=1073741824):decide (a+b<=1073741824)=true:=by rw[decide_eq_true_eq];exact h
theorem Y8 : ∀(m:Nat) (t:ae),t.sz<m->t.sz<=1048576->M.mf m t=some (t.Kind,t.Name,t.aQ,t.Kids)
 |0,t,h,_=>by omega
 |m+1,t,h,hN=>by
  have hs:=ae.jO t;have hkk:=lC ae.sz t.Kids;have hll:=lC List.length t.aQ
  show M.uS (M.mf m) t=_
  unfold M.uS;have e1:M.tX (M.mf m) t.Kids=some t.Kids:=by
   unfold M.tX;rw[Jj (F:=M.kS (M.mf m) t.Kids (t.Kids.length:Int)) (h:=some) id t.Kids (by omega) [] (fun f k out hk ho=>by
    have hmem:=zA ae.sz t.Kids t.Kids[k] (List.getElem_mem hk);have hpos:=Jk ae.sz t.Kids t.Kids[k] (List.getElem_mem hk);rw[M.kS];have e:=Y8 m t.Kids[k] (by omega) (by omega)
    have hc:=yX (a:=out.length) (b:=1) (by simp at ho;omega)
    simp only[ae.bM,Int.ofNat_lt,hk,decide_true,cond_true,Int.toNat_natCast,getD_lt hk,e,dM,Option.isSome_some,Option.getD_some,ae.eta,List.length_cons,List.length_nil,Nat.zero_add,hc,Bool.true_and,Bool.and_true,nM hk (Cm (show t.Kids.length<=1048576 by omega)),id]) (fun f out=>by rw[M.kS];simp)]
   simp
  have e2:M.dA t.aQ=some t.aQ:=by
   unfold M.dA;rw[decide_eq_true (by omega)];rfl
  simp only[e1,e2,Option.isSome_some,Option.getD_some,Bool.true_and,Bool.and_true,cond_true]
theorem aga (t:ae) (h:t.sz<=1048576):M.ES t=some (t.Kind,t.Name,t.aQ,t.Kids):=
 Y8 _ t (by have:=bG;omega) h
theorem TR (rec:af->Option (Int×Int×List UInt8×List af)) (l:List af) (hl:l.length<=1048576) (hr:∀x∈l,rec x=some (x.Kind,x.Num,x.Text,x.Kids)):M.iF rec l=some l:=by
 unfold M.iF;rw[Jj (F:=M.jK rec l (l.length:Int)) (h:=some) id l hl [] (fun f k out hk ho=>by
  rw[M.jK];have e:=hr l[k] (List.getElem_mem hk);have hc:=yX (a:=out.length) (b:=1) (by simp at ho;omega)
  simp only[af.bM,Int.ofNat_lt,hk,decide_true,cond_true,Int.toNat_natCast,getD_lt hk,e,dM,Option.isSome_some,Option.getD_some,af.eta,List.length_cons,List.length_nil,Nat.zero_add,hc,Bool.true_and,Bool.and_true,nM hk (Cm hl),id]) (fun f out=>by rw[M.jK];simp)]
 simp
theorem Y9 : ∀(m:Nat) (t:af),t.sz<m->t.sz<=1048576->M.ng m t=some (t.Kind,t.Num,t.Text,t.Kids)
 |0,t,h,_=>by omega
 |m+1,t,h,hN=>by
  have hs:=af.jO t;have hkk:=lC af.sz t.Kids
  show M.rP (M.ng m) t=_
  unfold M.rP;have e1:=TR (M.ng m) t.Kids (by omega) fun x hx=>by
   have:=zA af.sz t.Kids x hx;have:=Jk af.sz t.Kids x hx;exact Y9 m x (by omega) (by omega)
  simp only[e1,Option.isSome_some,Option.getD_some,Bool.true_and,Bool.and_true,cond_true]
theorem agb (t:af) (h:t.sz<=1048576):M.mg t=some (t.Kind,t.Num,t.Text,t.Kids):=
 Y9 _ t (by have:=bG;omega) h
theorem Za (l:List af) (h:lI af.sz l<=1048576):M.iF M.mg l=some l:=
 TR _ l (Nat.le_trans (lC _ _) h) fun x hx=>agb x (Nat.le_trans (zA af.sz l x hx) h)
def ah.ik (s:ah):Int×(List UInt8)×Int×Bool×Int×Int×Bool×Bool×(List (List UInt8))×(List ae)×(List af):=(s.aO.Kind,s.aO.Name,s.Room,s.bu,s.Put,s.qM,s.Shut,s.Gone,s.aO.aQ,s.aO.Kids,s.Buffer)
theorem aaQ (s:ah) (ht:s.aO.sz<=1048576) (hb:lI af.sz s.Buffer<=1048576):M.qN s=some s.ik:=by
 unfold M.qN;simp only[ae.bM,Za _ hb,aga _ ht,Option.isSome_some,Option.getD_some,Bool.true_and,Bool.and_true,cond_true]
 rfl
end M
namespace M
open Go.V (inB qg aP bG)
theorem adD : ∀(m:Nat) (t:ae),t.sz<m->t.sz<=1048576->M.ql m t=some t
 |0,t,h,_=>absurd h (Nat.not_lt_zero _)
 |m+1,t,h,hN=>by
  have hl:=ae.jP hN;have hlb:=ae.TS hN;have key:∀f k,k<=t.Kids.length->t.Kids.length-k<f->M.oz (M.ql m) (0:Int) [] t.Kind t.Name [] [] ([]++t.aQ) f (k:Int) t (t.Kids.take k)=some ((0:Int),[],t.Kind,t.Name,[],[],t.aQ,t.Kids):=by
   intro f
   induction f with
   |zero=>intro k h1 h2;omega
   |succ f ih=>
    intro k h1 h2
    rcases Nat.lt_or_ge k t.Kids.length with hk |hk
    ·rw[M.oz]
     have hx:=ae.rD (List.getElem_mem hk);have hd:decide (((t.Kids.take k).length+([t.Kids[k]]:List ae).length)<=1073741824)=true:=by
      simp only[decide_eq_true_eq,List.length_take,List.length_cons,List.length_nil];omega
     have ht:t.Kids.take k++[t.Kids[k]]=t.Kids.take (k+1):=by
      rw[List.take_add_one,List.getElem?_eq_getElem hk];rfl
     simp only[ae.bM,getD_lt hk,adD m t.Kids[k] (by omega) (by omega),Int.toNat_natCast,dM,Int.ofNat_lt,hk,decide_true,cond_true,Bool.true_and,Bool.and_true,nM hk (by omega:t.Kids.length<2^62),Option.getD_some,Option.isSome_some,hd,ht]
     exact ih (k+1) (by omega) (by omega)
    ·have:k=t.Kids.length:=by omega
     subst this;rw[M.oz];simp
  show M.Ad (M.ql m) t=_
  unfold M.Ad;have e:=key aP 0 (Nat.zero_le _) (by have:=bG;omega)
  have e':M.oz (M.ql m) (0:Int) [] t.Kind t.Name [] [] ([]++t.aQ) aP 0 t []=_:=e;have hd:decide (0+t.aQ.length<=1073741824)=true:=by simp only[decide_eq_true_eq];omega
  simp only[ae.bM,e',hd,Bool.and_self,cond_true]
  cases t;rfl
theorem afN : ∀(m:Nat) (v:af),v.sz<m->v.sz<=1048576->M.jT m v=some v
 |0,v,h,_=>absurd h (Nat.not_lt_zero _)
 |m+1,v,h,hN=>by
  have hs:=af.jO v;have hkk:=lC af.sz v.Kids
  show M.uT (M.jT m) v=_
  unfold M.uT;have e:=Jj (F:=fun f i o=>M.jk (M.jT m) 0 0 [] v.Kind v.Num v.Text [] f i v o) (h:=fun o=>some ((0:Int),(0:Int),([]:List UInt8),v.Kind,v.Num,v.Text,([]:List af),o)) id v.Kids (by omega) [] (fun f k out hk ho=>by
   have hmem:=zA af.sz v.Kids v.Kids[k] (List.getElem_mem hk);have hpos:=Jk af.sz v.Kids v.Kids[k] (List.getElem_mem hk)
   show M.jk (M.jT m) 0 0 [] v.Kind v.Num v.Text [] (f+1) (k:Int) v out=_
   rw[M.jk];have e:=afN m v.Kids[k] (by omega) (by omega)
   have hc:=yX (a:=out.length) (b:=1) (by simp at ho;omega)
   simp only[af.bM,Int.ofNat_lt,hk,decide_true,cond_true,Int.toNat_natCast,getD_lt hk,e,dM,Option.isSome_some,Option.getD_some,List.length_cons,List.length_nil,Nat.zero_add,hc,Bool.true_and,Bool.and_true,nM hk (Cm (show v.Kids.length<=1048576 by omega)),id]) (fun f out=>by
   show M.jk (M.jT m) 0 0 [] v.Kind v.Num v.Text [] (f+1) (v.Kids.length:Int) v out=_
   rw[M.jk];simp)
  simp only[List.map_id,List.nil_append] at e;rw[af.bM,e];exact congrArg some (af.eta v)
theorem ag7 (v:af) (h:v.sz<=1048576):M.ET v=some v:=afN _ v (by have:=bG;omega) h
theorem KQ (l:List af) (h:lI af.sz l<=1048576):M.bP l=some l:=by
 have hl:=lC af.sz l;unfold M.bP;rw[Jj (F:=M.kU l) (h:=some) id l (by omega) [] (fun f k out hk ho=>by
  rw[M.kU];have e:=ag7 l[k] (Nat.le_trans (zA af.sz l l[k] (List.getElem_mem hk)) h);have hc:=yX (a:=out.length) (b:=1) (by simp at ho;omega)
  simp only[af.bM,Int.ofNat_lt,hk,decide_true,cond_true,Int.toNat_natCast,getD_lt hk,e,dM,Option.isSome_some,Option.getD_some,List.length_cons,List.length_nil,Nat.zero_add,hc,Bool.true_and,Bool.and_true,nM hk (Cm (show l.length<=1048576 by omega)),id]) (fun f out=>by rw[M.kU];simp)]
 simp
theorem ah.eta (s:ah):ah.mk s.aO s.Room s.bu s.Buffer s.Put s.qM s.Shut s.Gone=s:=rfl
theorem ae8 (s:ah) (h:s.sz<=1048576):M.Du s=some s:=by
 unfold M.Du;have e:=adD aP s.aO (by have:=ah.EU h;have:=bG;omega) (ah.EU h)
 have e':M.nN s.aO=some s.aO:=e;simp only[ae.bM,KQ _ (ah.EW h),e',Option.isSome_some,Option.getD_some,Bool.true_and,Bool.and_true,cond_true]
def RG : ah:=ah.mk (ae.mk 0 [] [] []) 0 false [] 0 0 false false
theorem ae9 : RG.sz=0:=by rw[ah.jO];rfl
end M
namespace M
open Go.V (inB qg aP bG)
theorem KR {α:Type} (f:α->Nat) (a b:List α):lI f (a++b)=lI f a+lI f b:=by
 induction a with
 |nil=>simp[lI]
 |cons x r ih=>simp only[List.cons_append,lI,ih];omega
theorem Dv {α:Type} (f:α->Nat) (n:Nat) (l:List α):lI f (l.take n)+lI f (l.drop n)=lI f l:=by
 rw[<-KR,List.take_append_drop]
def jW (s:ah) (most:Int):Nat:=min most.toNat s.Buffer.length
def yD (s:ah) (most:Int):ah×List af×Int:=
 bif !stB s then (RG,[],1) else bif !(decide ((1:Int)<=most)&&decide (most<=(8:Int))) then (RG,[],2) else bif s.Gone then (RG,[],5)
 else bif ((s.Buffer.length:Int)==0)&&s.Shut then (RG,[],3)
 else (ah.mk s.aO s.Room s.bu (s.Buffer.drop (jW s most)) s.Put (Go.IntKind.wrap .i64 (s.qM+(jW s most:Int))) s.Shut s.Gone,s.Buffer.take (jW s most),0)
def ah.afO (s:ah) (c:Int) (v:List af):Int×(List UInt8)×Int×Bool×Int×Int×Bool×Bool×Int×(List (List UInt8))×(List M.ae)×(List M.af)×(List M.af):=(s.aO.Kind,s.aO.Name,s.Room,s.bu,s.Put,s.qM,s.Shut,s.Gone,c,s.aO.aQ,s.aO.Kids,s.Buffer,v)
theorem afa (s:ah) (most:Int) (h:1<=most):(bif decide ((s.Buffer.length:Int)<most) then (s.Buffer.length:Int) else most)=(jW s most:Int):=by
 unfold jW
 by_cases c:(s.Buffer.length:Int)<most
 ·rw[decide_eq_true c,cond_true];omega
 ·rw[decide_eq_false c,cond_false];omega
theorem abR (s:ah) (most:Int) (h:1<=most):M.gG most (s.Buffer.length:Int)=some (jW s most:Int):=by
 unfold M.gG jW
 by_cases c:most<(s.Buffer.length:Int)
 ·rw[decide_eq_true c,cond_true];congr 1;omega
 ·rw[decide_eq_false c,cond_false];congr 1;omega
theorem Ae (s:ah) (most:Int):jW s most<=s.Buffer.length:=by unfold jW;omega
theorem XU {a b n:Nat} (h1:a<=b) (h2:b<=n):qg (a:Int) (b:Int) n=true:=by
 unfold qg;simp only[Bool.and_eq_true,decide_eq_true_eq];omega
theorem abS {b n:Nat} (h2:b<=n):qg (0:Int) (b:Int) n=true:=XU (a:=0) (Nat.zero_le _) h2
theorem agc (s:ah) (most:Int) (h:s.sz<=1048576):M.qO s most=some (yD s most):=by
 unfold M.qO M.Dw yD;have hb:=ah.EW h;have hp:=Dv af.sz (jW s most) s.Buffer;simp only[ah.bM,ae.bM,MK s h,ae8 s h,Option.isSome_some,Option.getD_some,Bool.true_and,Bool.and_true,cond_true]
 cases hs:stB s
 ·rfl
 ·cases hm:(decide ((1:Int)<=most)&&decide (most<=(8:Int)))
  ·rfl
  ·rw[Bool.and_eq_true,decide_eq_true_eq,decide_eq_true_eq] at hm
   have e1:=abR s most hm.1;have e2:=XU (Ae s most) (Nat.le_refl _);have e3:=abS (Ae s most);have e4:=KQ (s.Buffer.take (jW s most)) (by omega)
   have e5:=KQ (s.Buffer.drop (jW s most)) (by omega)
   have e6:List.drop (Int.toNat 0) (List.take (jW s most) s.Buffer)=List.take (jW s most) s.Buffer:=rfl
   cases s.Gone
   ·cases (((s.Buffer.length:Int)==0)&&s.Shut)
    ·simp only[e1,e2,e3,e4,e5,e6,Option.isSome_some,Option.getD_some,Int.toNat_natCast,List.take_length,Bool.not_true,cond_false,cond_true,Bool.true_and,Bool.and_true,Bool.not_false]
    ·rfl
   ·rfl
theorem agd (s:ah) (most:Int) (h:s.sz<=1048576):M.qP s most=some ((yD s most).1.afO (yD s most).2.2 (yD s most).2.1):=by
 unfold M.qP M.rQ yD;have hb:=ah.EW h;have hp:=Dv af.sz (jW s most) s.Buffer;simp only[ah.bM,ML s h,aaQ s (ah.EU h) (ah.EW h),ah.ik,Option.isSome_some,Option.getD_some,Bool.true_and,Bool.and_true,cond_true]
 cases hs:stB s
 ·rfl
 ·cases hm:(decide ((1:Int)<=most)&&decide (most<=(8:Int)))
  ·rfl
  ·rw[Bool.and_eq_true,decide_eq_true_eq,decide_eq_true_eq] at hm
   have e1:=afa s most hm.1;have e2:=XU (Ae s most) (Nat.le_refl _);have e3:=abS (Ae s most);have e4:=Za (s.Buffer.take (jW s most)) (by omega)
   have e6:List.drop (Int.toNat 0) (List.take (jW s most) s.Buffer)=List.take (jW s most) s.Buffer:=rfl
   cases s.Gone
   ·cases (((s.Buffer.length:Int)==0)&&s.Shut)
    ·simp only[e1,e2,e3,e4,e6,Option.isSome_some,Option.getD_some,Int.toNat_natCast,Bool.not_true,cond_false,cond_true,Bool.true_and,Bool.and_true,Bool.not_false,bne_self_eq_false]
     rfl
    ·rfl
   ·rfl
theorem afb (s:ah) (most:Int) (h:s.sz<=1048576):(yD s most).1.sz<=1048576 /\ lI af.sz (yD s most).2.1<=1048576:=by
 have hp:=Dv af.sz (jW s most) s.Buffer;have hb:=ah.EW h;unfold yD
 cases stB s<;>cases (decide ((1:Int)<=most)&&decide (most<=(8:Int)))<;>cases s.Gone<;>cases (((s.Buffer.length:Int)==0)&&s.Shut)<;>simp only[Bool.not_false,Bool.not_true,cond_true,cond_false,ae9,lI]<;>try omega
 rw[ah.jO] at h ⊢;exact ⟨by simp only[];omega,by omega⟩
end M
namespace M
open Go.V (inB qg aP bG)
def Hq (s:ah):Int:=if s.bu then 1 else 1000000
theorem adE (s:ah):M.iT s=some (Hq s):=by unfold M.iT Hq;cases s.bu<;>rfl
theorem Xl {s:ah} (h:stB s=true):MM s.aO=true /\ 1<=s.Room /\ s.Room<=6 /\ (s.Buffer.length:Int)<=s.Room /\ V8 s=true /\ 0<=s.qM /\ s.qM<=s.Put /\ s.Put<=1000000:=by
 unfold stB at h;simp only[Bool.and_eq_true,decide_eq_true_eq,Bool.not_eq_true',decide_eq_false_iff_not] at h;have hp:s.Put<=1000000:=by
  have:=h.1.2.1.2.2
  cases hf:s.bu<;>simp[hf] at this<;>omega
 exact ⟨h.1.1.1.1,h.1.1.1.2.1.1,h.1.1.1.2.1.2,h.1.1.2.1,h.1.1.2.2,by have:=h.1.2.1.1;omega,h.1.2.1.2.1,hp⟩
def wV (s:ah) (l:List af):Nat:=min l.length (s.Room-(s.Buffer.length:Int)).toNat
def Qr (s:ah) (l:List af):Int×Int×ah:=
 bif decide ((8:Int)<(l.length:Int))||decide (Hq s<Go.IntKind.wrap .i64 (s.Put+(l.length:Int))) then (0,4,s) else bif s.Shut then (0,5,s) else bif s.Gone then (0,17,s)
 else ((wV s l:Int),0,ah.mk s.aO s.Room s.bu (s.Buffer++l.take (wV s l)) (Go.IntKind.wrap .i64 (s.Put+(wV s l:Int))) s.qM s.Shut s.Gone)
def ah.flat3 (n c:Int) (s:ah):Int×Int×Int×(List UInt8)×Int×Bool×Int×Int×Bool×Bool×(List (List UInt8))×(List M.ae)×(List M.af):=(n,c,s.aO.Kind,s.aO.Name,s.Room,s.bu,s.Put,s.qM,s.Shut,s.Gone,s.aO.aQ,s.aO.Kids,s.Buffer)
theorem adF {s:ah} {l:List af} (h:0<=s.Room) (h2:s.Room<=6) (hb:(s.Buffer.length:Int)<=s.Room):
 M.gG (l.length:Int) (Go.IntKind.wrap .i64 (s.Room-(s.Buffer.length:Int)))=some (wV s l:Int):=by
 have w:Go.IntKind.wrap .i64 (s.Room-(s.Buffer.length:Int))=s.Room-(s.Buffer.length:Int):=wrap_i64 (by omega) (by omega)
 unfold M.gG wV;rw[w]
 by_cases c:(l.length:Int)<s.Room-(s.Buffer.length:Int)
 ·rw[decide_eq_true c,cond_true];congr 1;omega
 ·rw[decide_eq_false c,cond_false];congr 1;omega
theorem acH (s:ah) (l:List af):wV s l<=l.length:=by unfold wV;omega
end M
namespace M
open Go.V (inB qg aP bG)
def wrS (s:ah) (l:List af):ah×Int×Int:=bif (Qr s l).2.1==0 then ((Qr s l).2.2,(Qr s l).1,0) else (RG,0,(Qr s l).2.1)
end M
namespace M
open Go.V (inB qg aP bG)
theorem Zb {α:Type} {f:α->Nat}:∀{l:List α},(∀x∈l,f x=0)->lI f l=l.length
 | [],_=>rfl
 |x::r,h=>by simp only[lI,List.length_cons,h x (by simp),Zb (l:=r) fun y hy=>h y (by simp[hy])];omega
theorem aij {v:af} {t:ae} (h:jC v t=true) (ht:t.Kind=9):v.sz=0:=by
 rw[TU] at h;simp only[kT,headB,ht,Bool.and_eq_true,Bool.or_eq_true] at h;have h1:v.Text=[]:=by
  rcases h.1.1.2 with h |h
  ·simpa using h
  ·simp at h
 have h2:v.Kids=[]:=by
  have:=h.2;simp at this;exact List.eq_nil_of_length_eq_zero this.1.symm
 rw[af.jO,h1,h2];rfl
structure adG (s:ah):Prop where
 r0:0<=s.Room
 r6:s.Room<=6
 len:(s.Buffer.length:Int)<=s.Room
 ty:s.aO.sz<=1048000
 vals:∀v∈s.Buffer,v.sz=0
theorem adG.buf {s:ah} (h:adG s):lI af.sz s.Buffer<=6:=by
 rw[Zb h.vals];have:=h.len;have:=h.r6;omega
theorem adG.sz {s:ah} (h:adG s):s.sz<=1048576:=by
 rw[ah.jO];have:=h.buf;have:=h.ty;omega
def shP (s:ah):Int×ah:=bif s.Shut then (5,s) else bif (s.bu&& !s.Gone)&&(s.Put==0) then (3,s) else (0,ah.mk s.aO s.Room s.bu s.Buffer s.Put s.qM true s.Gone)
def lvP (s:ah):Int×ah:=bif s.Gone then (5,s) else (0,ah.mk s.aO s.Room s.bu [] s.Put s.qM s.Shut true)
def V3 (s:ah) (most:Int):Int×ah×List af:=bif s.Gone then (5,s,[]) else bif ((s.Buffer.length:Int)==0)&&s.Shut then (3,s,[])
 else (0,ah.mk s.aO s.Room s.bu (s.Buffer.drop (jW s most)) s.Put (Go.IntKind.wrap .i64 (s.qM+(jW s most:Int))) s.Shut s.Gone,s.Buffer.take (jW s most))
def spc (c:Int) (s:ah):ah:=bif c==0 then s else RG
def ah.aiZ (c:Int) (s:ah):Int×Int×(List UInt8)×Int×Bool×Int×Int×Bool×Bool×(List (List UInt8))×(List M.ae)×(List M.af):=(c,s.aO.Kind,s.aO.Name,s.Room,s.bu,s.Put,s.qM,s.Shut,s.Gone,s.aO.aQ,s.aO.Kids,s.Buffer)
def ah.flat5 (c:Int) (s:ah) (v:List af):Int×Int×(List UInt8)×Int×Bool×Int×Int×Bool×Bool×(List M.af)×(List (List UInt8))×(List M.ae)×(List M.af):=(c,s.aO.Kind,s.aO.Name,s.Room,s.bu,s.Put,s.qM,s.Shut,s.Gone,v,s.aO.aQ,s.aO.Kids,s.Buffer)
def ag8 (n:Int):af:=af.mk 9 n [] []
def ag9 (first:Int) (n:Nat):List af:=(List.range n).map fun (k:Nat)=>ag8 (Go.IntKind.wrap .i64 (first+(k:Int)))
def aik (a:dZ):Bool:=(!(decide ((0:Int)<=a.XV)&&decide (a.XV<=(8:Int))))||(a.Close&&(a.XV !=(0:Int)))
def aha (n:Int):Int:=if 1<n then n else 1
abbrev PSt := ah×Int×List af
noncomputable def afP (st:PSt) (a:dZ):PSt:=
 bif a.Write&&a.Close then ((shP st.1).2,st.2.1,st.2.2) else bif a.Close then ((lvP st.1).2,st.2.1,st.2.2)
 else bif a.Write then ((Qr st.1 (ag9 st.2.1 a.XV.toNat)).2.2,Go.IntKind.wrap .i64 (st.2.1+(Qr st.1 (ag9 st.2.1 a.XV.toNat)).1),st.2.2)
 else ((V3 st.1 (aha a.XV)).2.1,st.2.1,st.2.2++(V3 st.1 (aha a.XV)).2.2)
def PJ (k:Nat) (st:PSt):Prop:=adG st.1 /\ st.2.2.length<=6*k /\ ∀v∈st.2.2,v.sz=0
end M
namespace M
open Go.V (inB qg aP bG)
end M
namespace M
open Go.V (inB qg aP bG)
theorem ty9 {t:ae} (h:tOk t=true) (hk:t.Kind=9):t.sz=0:=by
 unfold tOk at h;rw[zT] at h;simp only[EX,afc,XW,Zc,hk,Bool.and_eq_true] at h;have h1:t.aQ=[]:=by
  have:=h.2.1.1.1;simp at this;exact this
 have h2:t.Name=[]:=by
  have:=h.2.1.1.2;simp at this;exact this
 have h3:t.Kids=[]:=by
  have:=h.2.1.2;simp at this;exact this
 rw[ae.jO,h1,h2,h3];rfl
noncomputable def ai0 (s:ah) (first:Int) (l:List dZ):ah×List af×Int:=
 bif !stB s then (RG,[],1) else bif s.aO.Kind !=9 then (RG,[],7) else bif !(decide ((-(1000000:Int))<=first)&&decide (first<=(1000000:Int))) then (RG,[],2)
 else bif decide ((60:Int)<(l.length:Int)) then (RG,[],4) else bif l.any aik then (RG,[],1)
 else ((l.foldl afP (s,first,[])).1,(l.foldl afP (s,first,[])).2.2,0)
theorem start {s:ah} (hs:stB s=true) (hk:s.aO.Kind=9) (first:Int):PJ 0 (s,first,[]):=by
 have hf:=Xl hs;refine ⟨⟨show 0<=s.Room by have:=hf.2.1;omega,hf.2.2.1,hf.2.2.2.1, ?_,fun v hv=> ?_⟩,by simp,by simp⟩
 ·show s.aO.sz<=1048000
  rw[ty9 (XX hf.1) hk];omega
 ·have:=hf.2.2.2.2.1
  unfold V8 at this;exact aij (List.all_eq_true.1 this v hv) hk
end M
