/-
  RUNNING NUMBERS in plain Lean: a list whose elements are marked one behind the other.
-/
import Derived.Test.YtefdfjaifkhphaaGreatDoorXUplA
import Derived.Test.YtefdfjaifkhphaaGreatDoorXUQH
import Derived.Test.YtefdfjaifkhphaaGreatDoorXUU
set_option linter.unusedVariables false
namespace M
open Go.V (inB qg aP bG)
def afM {α:Type} (mk:Int->α->Int×α):Int->List α->Int×List α
 |k,[]=>(k,[])
 |k,x::r=>((afM mk (mk k x).1 r).1,(mk k x).2::(afM mk (mk k x).1 r).2)
end M
set_option linter.unusedSimpArgs false
namespace M
open Go.V (inB qg aP bG)
theorem Jj {α β Y:Type} {F:Nat->Int->List β->Option Y} {h:List β->Option Y} (g:α->β) (l:List α) (hn:l.length<=1048576) (adC:List β)
 (step:∀f k out,∀hk:k<l.length,out.length=adC.length+k->F (f+1) (k:Int) out=F f ((k+1:Nat):Int) (out++[g l[k]]))
 (stop:∀f out,F (f+1) (l.length:Int) out=h out):F aP 0 adC=h (adC++l.map g):=by
 have key:∀f k out,k<=l.length->l.length-k<f->out.length=adC.length+k->F f (k:Int) out=h (out++(l.drop k).map g):=by
  intro f
  induction f with
  |zero=>intro k out h1 h2;omega
  |succ f ih=>
   intro k out h1 h2 ho
   rcases Nat.lt_or_ge k l.length with hk |hk
   ·rw[step f k out hk ho,ih (k+1) _ (by omega) (by omega) (by simp[ho];omega),Dt hk]
    simp only[List.map_cons,List.append_assoc,List.singleton_append]
   ·have:k=l.length:=by omega
    subst this;rw[stop,List.drop_length];simp
 have:=key aP 0 adC (Nat.zero_le _) (by have:=bG;omega) rfl
 simpa using this
theorem yX {a b:Nat} (h:a+b<=1073741824):decide (a+b<=1073741824)=true:=by rw[decide_eq_true_eq];exact h
theorem Y8 : ∀(m:Nat) (t:ae),t.sz<m->t.sz<=1048576->M.mf m t=some (t.Kind,t.Name,t.aQ,t.Kids)
 |0,t,h,_=>by omega
 |m+1,t,h,hN=>by
  have hs:=ae.jO t;have hkk:=lC ae.sz t.Kids;have hll:=lC List.length t.aQ
  show M.uS (M.mf m) t=_
  unfold M.uS;have e1:M.tX (M.mf m) t.Kids=some t.Kids:=by
   unfold M.tX;rw[Jj (F:=M.kS (M.mf m) t.Kids (t.Kids.length:Int)) (h:=some) id t.Kids (by omega) [] (fun f k out hk ho=>by
    have hmem:=zA ae.sz t.Kids t.Kids[k] (List.getElem_mem hk);have hpos:=Jk ae.sz t.Kids t.Kids[k] (List.getElem_mem hk);rw[M.kS];have e:=Y8 m t.Kids[k] (by omega) (by omega)
    have hc:=yX (a:=out.length) (b:=1) (by simp at ho;omega)
    simp only[ae.bM,Int.ofNat_lt,hk,decide_true,cond_true,Int.toNat_natCast,getD_lt hk,e,dM,Option.isSome_some,Option.getD_some,ae.eta,List.length_cons,List.length_nil,Nat.zero_add,hc,Bool.true_and,Bool.and_true,nM hk (Cm (show t.Kids.length<=1048576 by omega)),id]) (fun f out=>by rw[M.kS];simp)]
   simp
  have e2:M.dA t.aQ=some t.aQ:=by
   unfold M.dA;rw[decide_eq_true (by omega)];rfl
  simp only[e1,e2,Option.isSome_some,Option.getD_some,Bool.true_and,Bool.and_true,cond_true]
theorem aga (t:ae) (h:t.sz<=1048576):M.ES t=some (t.Kind,t.Name,t.aQ,t.Kids):=
 Y8 _ t (by have:=bG;omega) h
theorem TR (rec:af->Option (Int×Int×List UInt8×List af)) (l:List af) (hl:l.length<=1048576) (hr:∀x∈l,rec x=some (x.Kind,x.Num,x.Text,x.Kids)):M.iF rec l=some l:=by
 unfold M.iF;rw[Jj (F:=M.jK rec l (l.length:Int)) (h:=some) id l hl [] (fun f k out hk ho=>by
  rw[M.jK];have e:=hr l[k] (List.getElem_mem hk);have hc:=yX (a:=out.length) (b:=1) (by simp at ho;omega)
  simp only[af.bM,Int.ofNat_lt,hk,decide_true,cond_true,Int.toNat_natCast,getD_lt hk,e,dM,Option.isSome_some,Option.getD_some,af.eta,List.length_cons,List.length_nil,Nat.zero_add,hc,Bool.true_and,Bool.and_true,nM hk (Cm hl),id]) (fun f out=>by rw[M.jK];simp)]
 simp
theorem Y9 : ∀(m:Nat) (t:af),t.sz<m->t.sz<=1048576->M.ng m t=some (t.Kind,t.Num,t.Text,t.Kids)
 |0,t,h,_=>by omega
 |m+1,t,h,hN=>by
  have hs:=af.jO t;have hkk:=lC af.sz t.Kids
  show M.rP (M.ng m) t=_
  unfold M.rP;have e1:=TR (M.ng m) t.Kids (by omega) fun x hx=>by
   have:=zA af.sz t.Kids x hx;have:=Jk af.sz t.Kids x hx;exact Y9 m x (by omega) (by omega)
  simp only[e1,Option.isSome_some,Option.getD_some,Bool.true_and,Bool.and_true,cond_true]
theorem agb (t:af) (h:t.sz<=1048576):M.mg t=some (t.Kind,t.Num,t.Text,t.Kids):=
 Y9 _ t (by have:=bG;omega) h
theorem Za (l:List af) (h:lI af.sz l<=1048576):M.iF M.mg l=some l:=
 TR _ l (Nat.le_trans (lC _ _) h) fun x hx=>agb x (Nat.le_trans (zA af.sz l x hx) h)
def ah.ik (s:ah):Int×(List UInt8)×Int×Bool×Int×Int×Bool×Bool×(List (List UInt8))×(List ae)×(List af):=(s.aO.Kind,s.aO.Name,s.Room,s.bu,s.Put,s.qM,s.Shut,s.Gone,s.aO.aQ,s.aO.Kids,s.Buffer)
theorem aaQ (s:ah) (ht:s.aO.sz<=1048576) (hb:lI af.sz s.Buffer<=1048576):M.qN s=some s.ik:=by
 unfold M.qN;simp only[ae.bM,Za _ hb,aga _ ht,Option.isSome_some,Option.getD_some,Bool.true_and,Bool.and_true,cond_true]
 rfl
end M
namespace M
open Go.V (inB qg aP bG)
theorem adD : ∀(m:Nat) (t:ae),t.sz<m->t.sz<=1048576->M.ql m t=some t
 |0,t,h,_=>absurd h (Nat.not_lt_zero _)
 |m+1,t,h,hN=>by
  have hl:=ae.jP hN;have hlb:=ae.TS hN;have key:∀f k,k<=t.Kids.length->t.Kids.length-k<f->M.oz (M.ql m) (0:Int) [] t.Kind t.Name [] [] ([]++t.aQ) f (k:Int) t (t.Kids.take k)=some ((0:Int),[],t.Kind,t.Name,[],[],t.aQ,t.Kids):=by
   intro f
   induction f with
   |zero=>intro k h1 h2;omega
   |succ f ih=>
    intro k h1 h2
    rcases Nat.lt_or_ge k t.Kids.length with hk |hk
    ·rw[M.oz]
     have hx:=ae.rD (List.getElem_mem hk);have hd:decide (((t.Kids.take k).length+([t.Kids[k]]:List ae).length)<=1073741824)=true:=by
      simp only[decide_eq_true_eq,List.length_take,List.length_cons,List.length_nil];omega
     have ht:t.Kids.take k++[t.Kids[k]]=t.Kids.take (k+1):=by
      rw[List.take_add_one,List.getElem?_eq_getElem hk];rfl
     simp only[ae.bM,getD_lt hk,adD m t.Kids[k] (by omega) (by omega),Int.toNat_natCast,dM,Int.ofNat_lt,hk,decide_true,cond_true,Bool.true_and,Bool.and_true,nM hk (by omega:t.Kids.length<2^62),Option.getD_some,Option.isSome_some,hd,ht]
     exact ih (k+1) (by omega) (by omega)
    ·have:k=t.Kids.length:=by omega
     subst this;rw[M.oz];simp
  show M.Ad (M.ql m) t=_
  unfold M.Ad;have e:=key aP 0 (Nat.zero_le _) (by have:=bG;omega)
  have e':M.oz (M.ql m) (0:Int) [] t.Kind t.Name [] [] ([]++t.aQ) aP 0 t []=_:=e;have hd:decide (0+t.aQ.length<=1073741824)=true:=by simp only[decide_eq_true_eq];omega
  simp only[ae.bM,e',hd,Bool.and_self,cond_true]
  cases t;rfl
theorem afN : ∀(m:Nat) (v:af),v.sz<m->v.sz<=1048576->M.jT m v=some v
 |0,v,h,_=>absurd h (Nat.not_lt_zero _)
 |m+1,v,h,hN=>by
  have hs:=af.jO v;have hkk:=lC af.sz v.Kids
  show M.uT (M.jT m) v=_
  unfold M.uT;have e:=Jj (F:=fun f i o=>M.jk (M.jT m) 0 0 [] v.Kind v.Num v.Text [] f i v o) (h:=fun o=>some ((0:Int),(0:Int),([]:List UInt8),v.Kind,v.Num,v.Text,([]:List af),o)) id v.Kids (by omega) [] (fun f k out hk ho=>by
   have hmem:=zA af.sz v.Kids v.Kids[k] (List.getElem_mem hk);have hpos:=Jk af.sz v.Kids v.Kids[k] (List.getElem_mem hk)
   show M.jk (M.jT m) 0 0 [] v.Kind v.Num v.Text [] (f+1) (k:Int) v out=_
   rw[M.jk];have e:=afN m v.Kids[k] (by omega) (by omega)
   have hc:=yX (a:=out.length) (b:=1) (by simp at ho;omega)
   simp only[af.bM,Int.ofNat_lt,hk,decide_true,cond_true,Int.toNat_natCast,getD_lt hk,e,dM,Option.isSome_some,Option.getD_some,List.length_cons,List.length_nil,Nat.zero_add,hc,Bool.true_and,Bool.and_true,nM hk (Cm (show v.Kids.length<=1048576 by omega)),id]) (fun f out=>by
   show M.jk (M.jT m) 0 0 [] v.Kind v.Num v.Text [] (f+1) (v.Kids.length:Int) v out=_
   rw[M.jk];simp)
  simp only[List.map_id,List.nil_append] at e;rw[af.bM,e];exact congrArg some (af.eta v)
theorem ag7 (v:af) (h:v.sz<=1048576):M.ET v=some v:=afN _ v (by have:=bG;omega) h
theorem KQ (l:List af) (h:lI af.sz l<=1048576):M.bP l=some l:=by
 have hl:=lC af.sz l;unfold M.bP;rw[Jj (F:=M.kU l) (h:=some) id l (by omega) [] (fun f k out hk ho=>by
  rw[M.kU];have e:=ag7 l[k] (Nat.le_trans (zA af.sz l l[k] (List.getElem_mem hk)) h);have hc:=yX (a:=out.length) (b:=1) (by simp at ho;omega)
  simp only[af.bM,Int.ofNat_lt,hk,decide_true,cond_true,Int.toNat_natCast,getD_lt hk,e,dM,Option.isSome_some,Option.getD_some,List.length_cons,List.length_nil,Nat.zero_add,hc,Bool.true_and,Bool.and_true,nM hk (Cm (show l.length<=1048576 by omega)),id]) (fun f out=>by rw[M.kU];simp)]
 simp
theorem ah.eta (s:ah):ah.mk s.aO s.Room s.bu s.Buffer s.Put s.qM s.Shut s.Gone=s:=rfl
theorem ae8 (s:ah) (h:s.sz<=1048576):M.Du s=some s:=by
 unfold M.Du;have e:=adD aP s.aO (by have:=ah.EU h;have:=bG;omega) (ah.EU h)
 have e':M.nN s.aO=some s.aO:=e;simp only[ae.bM,KQ _ (ah.EW h),e',Option.isSome_some,Option.getD_some,Bool.true_and,Bool.and_true,cond_true]
def RG : ah:=ah.mk (ae.mk 0 [] [] []) 0 false [] 0 0 false false
theorem ae9 : RG.sz=0:=by rw[ah.jO];rfl
end M
namespace M
open Go.V (inB qg aP bG)
theorem KR {α:Type} (f:α->Nat) (a b:List α):lI f (a++b)=lI f a+lI f b:=by
 induction a with
 |nil=>simp[lI]
 |cons x r ih=>simp only[List.cons_append,lI,ih];omega
theorem Dv {α:Type} (f:α->Nat) (n:Nat) (l:List α):lI f (l.take n)+lI f (l.drop n)=lI f l:=by
 rw[<-KR,List.take_append_drop]
def jW (s:ah) (most:Int):Nat:=min most.toNat s.Buffer.length
def yD (s:ah) (most:Int):ah×List af×Int:=
 bif !stB s then (RG,[],1) else bif !(decide ((1:Int)<=most)&&decide (most<=(8:Int))) then (RG,[],2) else bif s.Gone then (RG,[],5)
 else bif ((s.Buffer.length:Int)==0)&&s.Shut then (RG,[],3)
 else (ah.mk s.aO s.Room s.bu (s.Buffer.drop (jW s most)) s.Put (Go.IntKind.wrap .i64 (s.qM+(jW s most:Int))) s.Shut s.Gone,s.Buffer.take (jW s most),0)
def ah.afO (s:ah) (c:Int) (v:List af):Int×(List UInt8)×Int×Bool×Int×Int×Bool×Bool×Int×(List (List UInt8))×(List M.ae)×(List M.af)×(List M.af):=(s.aO.Kind,s.aO.Name,s.Room,s.bu,s.Put,s.qM,s.Shut,s.Gone,c,s.aO.aQ,s.aO.Kids,s.Buffer,v)
theorem afa (s:ah) (most:Int) (h:1<=most):(bif decide ((s.Buffer.length:Int)<most) then (s.Buffer.length:Int) else most)=(jW s most:Int):=by
 unfold jW
 by_cases c:(s.Buffer.length:Int)<most
 ·rw[decide_eq_true c,cond_true];omega
 ·rw[decide_eq_false c,cond_false];omega
theorem abR (s:ah) (most:Int) (h:1<=most):M.gG most (s.Buffer.length:Int)=some (jW s most:Int):=by
 unfold M.gG jW
 by_cases c:most<(s.Buffer.length:Int)
 ·rw[decide_eq_true c,cond_true];congr 1;omega
 ·rw[decide_eq_false c,cond_false];congr 1;omega
theorem Ae (s:ah) (most:Int):jW s most<=s.Buffer.length:=by unfold jW;omega
theorem XU {a b n:Nat} (h1:a<=b) (h2:b<=n):qg (a:Int) (b:Int) n=true:=by
 unfold qg;simp only[Bool.and_eq_true,decide_eq_true_eq];omega
theorem abS {b n:Nat} (h2:b<=n):qg (0:Int) (b:Int) n=true:=XU (a:=0) (Nat.zero_le _) h2
end M
namespace M
open Go.V (inB qg aP bG)
def Hq (s:ah):Int:=if s.bu then 1 else 1000000
theorem amF (s:ah):M.vI s=some (Hq s):=by unfold M.vI Hq;cases s.bu<;>rfl
theorem adE (s:ah):M.iT s=some (Hq s):=by unfold M.iT Hq;cases s.bu<;>rfl
theorem Xl {s:ah} (h:stB s=true):MM s.aO=true /\ 1<=s.Room /\ s.Room<=6 /\ (s.Buffer.length:Int)<=s.Room /\ V8 s=true /\ 0<=s.qM /\ s.qM<=s.Put /\ s.Put<=1000000:=by
 unfold stB at h;simp only[Bool.and_eq_true,decide_eq_true_eq,Bool.not_eq_true',decide_eq_false_iff_not] at h;have hp:s.Put<=1000000:=by
  have:=h.1.2.1.2.2
  cases hf:s.bu<;>simp[hf] at this<;>omega
 exact ⟨h.1.1.1.1,h.1.1.1.2.1.1,h.1.1.1.2.1.2,h.1.1.2.1,h.1.1.2.2,by have:=h.1.2.1.1;omega,h.1.2.1.2.1,hp⟩
def wV (s:ah) (l:List af):Nat:=min l.length (s.Room-(s.Buffer.length:Int)).toNat
def Qr (s:ah) (l:List af):Int×Int×ah:=
 bif decide ((8:Int)<(l.length:Int))||decide (Hq s<Go.IntKind.wrap .i64 (s.Put+(l.length:Int))) then (0,4,s) else bif s.Shut then (0,5,s) else bif s.Gone then (0,17,s)
 else ((wV s l:Int),0,ah.mk s.aO s.Room s.bu (s.Buffer++l.take (wV s l)) (Go.IntKind.wrap .i64 (s.Put+(wV s l:Int))) s.qM s.Shut s.Gone)
def ah.flat3 (n c:Int) (s:ah):Int×Int×Int×(List UInt8)×Int×Bool×Int×Int×Bool×Bool×(List (List UInt8))×(List M.ae)×(List M.af):=(n,c,s.aO.Kind,s.aO.Name,s.Room,s.bu,s.Put,s.qM,s.Shut,s.Gone,s.aO.aQ,s.aO.Kids,s.Buffer)
theorem alX {s:ah} {l:List af} (h:0<=s.Room) (h2:s.Room<=6) (hb:(s.Buffer.length:Int)<=s.Room):
 (bif decide (Go.IntKind.wrap .i64 (s.Room-(s.Buffer.length:Int))<(l.length:Int)) then Go.IntKind.wrap .i64 (s.Room-(s.Buffer.length:Int)) else (l.length:Int))=(wV s l:Int):=by
 have w:Go.IntKind.wrap .i64 (s.Room-(s.Buffer.length:Int))=s.Room-(s.Buffer.length:Int):=wrap_i64 (by omega) (by omega)
 unfold wV;rw[w]
 by_cases c:s.Room-(s.Buffer.length:Int)<(l.length:Int)
 ·rw[decide_eq_true c,cond_true];omega
 ·rw[decide_eq_false c,cond_false];omega
theorem adF {s:ah} {l:List af} (h:0<=s.Room) (h2:s.Room<=6) (hb:(s.Buffer.length:Int)<=s.Room):
 M.gG (l.length:Int) (Go.IntKind.wrap .i64 (s.Room-(s.Buffer.length:Int)))=some (wV s l:Int):=by
 have w:Go.IntKind.wrap .i64 (s.Room-(s.Buffer.length:Int))=s.Room-(s.Buffer.length:Int):=wrap_i64 (by omega) (by omega)
 unfold M.gG wV;rw[w]
 by_cases c:(l.length:Int)<s.Room-(s.Buffer.length:Int)
 ·rw[decide_eq_true c,cond_true];congr 1;omega
 ·rw[decide_eq_false c,cond_false];congr 1;omega
theorem acH (s:ah) (l:List af):wV s l<=l.length:=by unfold wV;omega
theorem anx (s:ah) (l:List af) (hl:lI af.sz l<=1048576) (h1:0<=s.Room) (h2:s.Room<=6) (hb:(s.Buffer.length:Int)<=s.Room):
 M.afR l s.aO.Kind s.aO.Name s.Room s.bu s.Put s.qM s.Shut s.Gone s.aO.aQ s.aO.Kids s.Buffer=some (ah.flat3 (Qr s l).1 (Qr s l).2.1 (Qr s l).2.2):=by
 unfold M.afR Qr;have hp:=Dv af.sz (wV s l) l;have hlen:=lC af.sz l;have e1:=Za (l.take (wV s l)) (by omega)
 have e2:=abS (acH s l);have e6:List.drop (Int.toNat 0) (List.take (wV s l) l)=List.take (wV s l) l:=rfl;have e3:=yX (a:=s.Buffer.length) (b:=(l.take (wV s l)).length) (by rw[List.length_take];omega)
 simp only[ae.eta,ah.eta,amF,alX h1 h2 hb,e1,e2,e3,e6,Option.getD_some,Option.isSome_some,Int.toNat_natCast,Bool.true_or,Bool.true_and,Bool.and_true,cond_true]
 generalize (decide ((8:Int)<(l.length:Int))||decide (Hq s<Go.IntKind.wrap .i64 (s.Put+(l.length:Int))))=b
 generalize wV s l=k
 clear e1 e2 e3 e6 hp;obtain ⟨ty,room,fut,buf,put,got,shut,gone⟩:=s
 cases b<;>cases shut<;>cases gone<;>rfl
end M
namespace M
open Go.V (inB qg aP bG)
def wrS (s:ah) (l:List af):ah×Int×Int:=bif (Qr s l).2.1==0 then ((Qr s l).2.2,(Qr s l).1,0) else (RG,0,(Qr s l).2.1)
theorem anA (s:ah) (l:List af) (hs:s.sz<=1048576) (hl:lI af.sz l<=1048576) (h1:0<=s.Room) (h2:s.Room<=6) (hb:(s.Buffer.length:Int)<=s.Room):
 M.ait s l=some (wrS s l):=by
 unfold M.ait wrS Qr;have hp:=Dv af.sz (wV s l) l;have hlen:=lC af.sz l;have e0:=KQ s.Buffer (ah.EW hs);have e1:=KQ (l.take (wV s l)) (by omega)
 have e2:=abS (acH s l);have e6:List.drop (Int.toNat 0) (List.take (wV s l) l)=List.take (wV s l) l:=rfl;have e3:=yX (a:=s.Buffer.length) (b:=(l.take (wV s l)).length) (by rw[List.length_take];omega)
 simp only[ae.bM,ah.bM,adE,adF h1 h2 hb,e0,e1,e2,e3,e6,Option.getD_some,Option.isSome_some,Int.toNat_natCast,Bool.true_or,Bool.true_and,Bool.and_true,cond_true]
 generalize (decide ((8:Int)<(l.length:Int))||decide (Hq s<Go.IntKind.wrap .i64 (s.Put+(l.length:Int))))=b
 generalize wV s l=k
 clear e0 e1 e2 e3 e6 hp;obtain ⟨ty,room,fut,buf,put,got,shut,gone⟩:=s
 cases b<;>cases shut<;>cases gone<;>rfl
end M
namespace M
open Go.V (inB qg aP bG)
theorem Zb {α:Type} {f:α->Nat}:∀{l:List α},(∀x∈l,f x=0)->lI f l=l.length
 | [],_=>rfl
 |x::r,h=>by simp only[lI,List.length_cons,h x (by simp),Zb (l:=r) fun y hy=>h y (by simp[hy])];omega
theorem aij {v:af} {t:ae} (h:jC v t=true) (ht:t.Kind=9):v.sz=0:=by
 rw[TU] at h;simp only[kT,headB,ht,Bool.and_eq_true,Bool.or_eq_true] at h;have h1:v.Text=[]:=by
  rcases h.1.1.2 with h |h
  ·simpa using h
  ·simp at h
 have h2:v.Kids=[]:=by
  have:=h.2;simp at this;exact List.eq_nil_of_length_eq_zero this.1.symm
 rw[af.jO,h1,h2];rfl
structure adG (s:ah):Prop where
 r0:0<=s.Room
 r6:s.Room<=6
 len:(s.Buffer.length:Int)<=s.Room
 ty:s.aO.sz<=1048000
 vals:∀v∈s.Buffer,v.sz=0
theorem adG.buf {s:ah} (h:adG s):lI af.sz s.Buffer<=6:=by
 rw[Zb h.vals];have:=h.len;have:=h.r6;omega
theorem adG.sz {s:ah} (h:adG s):s.sz<=1048576:=by
 rw[ah.jO];have:=h.buf;have:=h.ty;omega
def shP (s:ah):Int×ah:=bif s.Shut then (5,s) else bif (s.bu&& !s.Gone)&&(s.Put==0) then (3,s) else (0,ah.mk s.aO s.Room s.bu s.Buffer s.Put s.qM true s.Gone)
def lvP (s:ah):Int×ah:=bif s.Gone then (5,s) else (0,ah.mk s.aO s.Room s.bu [] s.Put s.qM s.Shut true)
def V3 (s:ah) (most:Int):Int×ah×List af:=bif s.Gone then (5,s,[]) else bif ((s.Buffer.length:Int)==0)&&s.Shut then (3,s,[])
 else (0,ah.mk s.aO s.Room s.bu (s.Buffer.drop (jW s most)) s.Put (Go.IntKind.wrap .i64 (s.qM+(jW s most:Int))) s.Shut s.Gone,s.Buffer.take (jW s most))
def spc (c:Int) (s:ah):ah:=bif c==0 then s else RG
theorem anB (s:ah):M.ai5 s=some (spc (shP s).1 (shP s).2,(shP s).1):=by
 unfold M.ai5 shP;simp only[ae.bM]
 cases s.Shut<;>cases ((s.bu&& !s.Gone)&&(s.Put==0))<;>rfl
theorem anC (s:ah):M.aiv s=some (spc (lvP s).1 (lvP s).2,(lvP s).1):=by
 unfold M.aiv lvP;simp only[ae.bM]
 cases s.Gone<;>rfl
def ah.aiZ (c:Int) (s:ah):Int×Int×(List UInt8)×Int×Bool×Int×Int×Bool×Bool×(List (List UInt8))×(List M.ae)×(List M.af):=(c,s.aO.Kind,s.aO.Name,s.Room,s.bu,s.Put,s.qM,s.Shut,s.Gone,s.aO.aQ,s.aO.Kids,s.Buffer)
theorem anD (s:ah):M.afB s.aO.Kind s.aO.Name s.Room s.bu s.Put s.qM s.Shut s.Gone s.aO.aQ s.aO.Kids s.Buffer=some (ah.aiZ (shP s).1 (shP s).2):=by
 unfold M.afB shP;have hc:((s.bu&&(s.Put==0))&& !s.Gone)=((s.bu&& !s.Gone)&&(s.Put==0)):=by cases s.bu<;>cases s.Gone<;>cases (s.Put==0)<;>rfl
 rw[hc]
 cases h:s.Shut<;>cases ((s.bu&& !s.Gone)&&(s.Put==0))<;>simp only[cond_true,cond_false,ah.aiZ,h]
theorem anE (s:ah):M.ae5 s.aO.Kind s.aO.Name s.Room s.bu s.Put s.qM s.Shut s.Gone s.aO.aQ s.aO.Kids s.Buffer=some (ah.aiZ (lvP s).1 (lvP s).2):=by
 unfold M.ae5 lvP
 cases h:s.Gone<;>simp only[cond_true,cond_false,ah.aiZ,h]
theorem anF (s:ah) (most:Int) (hm:1<=most) (hb:lI af.sz s.Buffer<=1048576):M.Dw s most=some (spc (V3 s most).1 (V3 s most).2.1,(V3 s most).2.2,(V3 s most).1):=by
 unfold M.Dw V3;have hp:=Dv af.sz (jW s most) s.Buffer;have e1:=abR s most hm;have e2:=XU (Ae s most) (Nat.le_refl _);have e3:=abS (Ae s most);have e4:=KQ (s.Buffer.take (jW s most)) (by omega)
 have e5:=KQ (s.Buffer.drop (jW s most)) (by omega)
 have e6:List.drop (Int.toNat 0) (List.take (jW s most) s.Buffer)=List.take (jW s most) s.Buffer:=rfl;simp only[ae.bM,e1,e2,e3,e4,e5,e6,Option.isSome_some,Option.getD_some,Int.toNat_natCast,List.take_length,Bool.not_true,cond_false,cond_true,Bool.true_and,Bool.and_true,Bool.not_false]
 cases h:s.Gone<;>cases (((s.Buffer.length:Int)==0)&&s.Shut)<;>simp only[cond_true,cond_false,spc,h]<;>rfl
def ah.flat5 (c:Int) (s:ah) (v:List af):Int×Int×(List UInt8)×Int×Bool×Int×Int×Bool×Bool×(List M.af)×(List (List UInt8))×(List M.ae)×(List M.af):=(c,s.aO.Kind,s.aO.Name,s.Room,s.bu,s.Put,s.qM,s.Shut,s.Gone,v,s.aO.aQ,s.aO.Kids,s.Buffer)
theorem anG (s:ah) (most:Int) (hm:1<=most) (hm8:most<=8) (hb:lI af.sz s.Buffer<=1048576):
 M.rQ most s.aO.Kind s.aO.Name s.Room s.bu s.Put s.qM s.Shut s.Gone s.aO.aQ s.aO.Kids s.Buffer=some (ah.flat5 (V3 s most).1 (V3 s most).2.1 (V3 s most).2.2):=by
 unfold M.rQ V3;have hp:=Dv af.sz (jW s most) s.Buffer;have e1:=afa s most hm;have e2:=XU (Ae s most) (Nat.le_refl _);have e3:=abS (Ae s most);have e4:=Za (s.Buffer.take (jW s most)) (by omega)
 have e6:List.drop (Int.toNat 0) (List.take (jW s most) s.Buffer)=List.take (jW s most) s.Buffer:=rfl;have e7:(!(decide ((1:Int)<=most)&&decide (most<=(8:Int))))=false:=by rw[decide_eq_true hm,decide_eq_true hm8];rfl
 simp only[e1,e2,e3,e4,e6,e7,Option.isSome_some,Option.getD_some,Int.toNat_natCast,Bool.not_true,cond_false,cond_true,Bool.true_and,Bool.and_true,Bool.not_false]
 cases h:s.Gone<;>cases h2:(((s.Buffer.length:Int)==0)&&s.Shut)<;>simp only[cond_true,cond_false,ah.flat5,h]
def ag8 (n:Int):af:=af.mk 9 n [] []
def ag9 (first:Int) (n:Nat):List af:=(List.range n).map fun (k:Nat)=>ag8 (Go.IntKind.wrap .i64 (first+(k:Int)))
theorem amf (n:Int):(ag8 n).sz=0:=by rw[af.jO];rfl
theorem alg (first:Int) (n:Nat):∀v∈ag9 first n,v.sz=0:=fun v hv=>by
 obtain ⟨k, -,rfl⟩:=List.mem_map.1 hv;exact amf _
theorem akV (first:Int) (n:Nat):(ag9 first n).length=n:=by simp[ag9]
theorem ala {F:Nat->Int->List af->Option (List af)} (first:Int) (n:Nat) (hn:n<=8)
 (step:∀f (k:Nat) out,k<n->out.length=k->F (f+1) (k:Int) out=F f ((k+1:Nat):Int) (out++[ag8 (Go.IntKind.wrap .i64 (first+(k:Int)))])) (stop:∀f out,F (f+1) (n:Int) out=some out):
 F aP 0 []=some (ag9 first n):=by
 have key:∀f k,k<=n->n-k<f->F f (k:Int) (ag9 first k)=some (ag9 first n):=by
  intro f
  induction f with
  |zero=>intro k h1 h2;omega
  |succ f ih=>
   intro k h1 h2
   rcases Nat.lt_or_ge k n with hk |hk
   ·rw[step f k _ hk (akV _ _)]
    have:ag9 first k++[ag8 (Go.IntKind.wrap .i64 (first+(k:Int)))]=ag9 first (k+1):=by
     simp[ag9,List.range_succ]
    rw[this];exact ih (k+1) (by omega) (by omega)
   ·have:k=n:=by omega
    subst this;exact stop f _
 exact key aP 0 (Nat.zero_le _) (by have:=bG;omega)
theorem amH (first:Int) (n:Nat) (hn:n<=8):M.ag5 first (n:Int)=some (ag9 first n):=by
 unfold M.ag5;rw[ala (F:=M.ae1 first (n:Int)) first n hn (fun f k out hk ho=>by
  rw[M.ae1];have hc:=yX (a:=out.length) (b:=1) (by omega)
  simp only[Int.ofNat_lt,hk,decide_true,cond_true,List.length_cons,List.length_nil,Nat.zero_add,hc,Bool.and_true,nM hk (by omega:n<2^62)]
  rfl) (fun f out=>by rw[M.ae1];simp)]
theorem amI (first:Int) (n:Nat) (hn:n<=8):M.agP first (n:Int)=some (ag9 first n):=by
 unfold M.agP;rw[ala (F:=M.aez first (n:Int)) first n hn (fun f k out hk ho=>by
  rw[M.aez];have hc:=yX (a:=out.length) (b:=1) (by omega)
  simp only[Int.ofNat_lt,hk,decide_true,cond_true,List.length_cons,List.length_nil,Nat.zero_add,hc,Bool.and_true,nM hk (by omega:n<2^62)]
  rfl) (fun f out=>by rw[M.aez];simp)]
def aik (a:dZ):Bool:=(!(decide ((0:Int)<=a.XV)&&decide (a.XV<=(8:Int))))||(a.Close&&(a.XV !=(0:Int)))
def aha (n:Int):Int:=if 1<n then n else 1
abbrev PSt := ah×Int×List af
noncomputable def afP (st:PSt) (a:dZ):PSt:=
 bif a.Write&&a.Close then ((shP st.1).2,st.2.1,st.2.2) else bif a.Close then ((lvP st.1).2,st.2.1,st.2.2)
 else bif a.Write then ((Qr st.1 (ag9 st.2.1 a.XV.toNat)).2.2,Go.IntKind.wrap .i64 (st.2.1+(Qr st.1 (ag9 st.2.1 a.XV.toNat)).1),st.2.2)
 else ((V3 st.1 (aha a.XV)).2.1,st.2.1,st.2.2++(V3 st.1 (aha a.XV)).2.2)
theorem amg {s:ah} (h:adG s):adG (shP s).2:=by
 unfold shP
 cases s.Shut<;>cases ((s.bu&& !s.Gone)&&(s.Put==0))<;>exact ⟨h.r0,h.r6,h.len,h.ty,h.vals⟩
theorem amh {s:ah} (h:adG s):adG (lvP s).2:=by
 unfold lvP
 cases s.Gone
 ·exact ⟨h.r0,h.r6,by simpa using h.r0,h.ty,by simp⟩
 ·exact h
theorem alh {s:ah} (h:adG s) (m:Int):adG (V3 s m).2.1 /\ (V3 s m).2.2.length<=6 /\ ∀v∈(V3 s m).2.2,v.sz=0:=by
 unfold V3;have hl:=h.len;have h6:=h.r6
 cases s.Gone
 ·cases (((s.Buffer.length:Int)==0)&&s.Shut)
  ·exact ⟨⟨h.r0,h.r6,by simp only[List.length_drop,cond_false];omega,h.ty,fun v hv=>h.vals v (List.mem_of_mem_drop hv)⟩,by simp only[List.length_take,cond_false];omega,fun v hv=>h.vals v (List.mem_of_mem_take hv)⟩
  ·exact ⟨h,by simp,by simp⟩
 ·exact ⟨h,by simp,by simp⟩
theorem ami {s:ah} (h:adG s) (l:List af) (hl:∀v∈l,v.sz=0):adG (Qr s l).2.2:=by
 unfold Qr;have h1:=h.len;have h6:=h.r6
 cases (decide ((8:Int)<(l.length:Int))||decide (Hq s<Go.IntKind.wrap .i64 (s.Put+(l.length:Int))))<;>cases s.Shut<;>cases s.Gone<;>first
  |exact h
  |exact ⟨h.r0,h.r6,by simp only[cond_false,List.length_append,List.length_take];unfold wV;omega,h.ty,fun v hv=>by
    simp only[cond_false,List.mem_append] at hv
    rcases hv with hv |hv
    ·exact h.vals v hv
    ·exact hl v (List.mem_of_mem_take hv)⟩
def PJ (k:Nat) (st:PSt):Prop:=adG st.1 /\ st.2.2.length<=6*k /\ ∀v∈st.2.2,v.sz=0
theorem akF {k:Nat} {st:PSt} (h:PJ k st) (a:dZ):PJ (k+1) (afP st a):=by
 obtain ⟨h1,h2,h3⟩:=h;unfold afP
 cases (a.Write&&a.Close)
 ·cases a.Close
  ·cases a.Write
   ·have:=alh h1 (aha a.XV)
    refine ⟨this.1, ?_,fun v hv=> ?_⟩
    ·simp only[cond_false,List.length_append];omega
    ·simp only[cond_false,List.mem_append] at hv
     rcases hv with hv |hv
     ·exact h3 v hv
     ·exact this.2.2 v hv
   ·exact ⟨ami h1 _ (alg _ _),by simp only[cond_false,cond_true];omega,h3⟩
  ·exact ⟨amh h1,by simp only[cond_false,cond_true];omega,h3⟩
 ·exact ⟨amg h1,by simp only[cond_true];omega,h3⟩
theorem alA (c:Int) (s s':ah) (h:c≠0->s'=s):(bif c==0 then spc c s' else s)=s':=by
 unfold spc
 cases hc:(c==0)
 ·have:c≠0:=by intro e;subst e;simp at hc
  exact (h this).symm
 ·rfl
theorem amj (s:ah):(shP s).1≠0->(shP s).2=s:=by
 unfold shP;cases s.Shut<;>cases ((s.bu&& !s.Gone)&&(s.Put==0))<;>simp
theorem amk (s:ah):(lvP s).1≠0->(lvP s).2=s:=by unfold lvP;cases s.Gone<;>simp
theorem aml (s:ah) (m:Int):(V3 s m).1≠0->(V3 s m).2.1=s:=by
 unfold V3;cases s.Gone<;>cases (((s.Buffer.length:Int)==0)&&s.Shut)<;>simp
theorem amm (s:ah) (l:List af):(Qr s l).2.1≠0->(Qr s l).2.2=s /\ (Qr s l).1=0:=by
 unfold Qr
 cases (decide ((8:Int)<(l.length:Int))||decide (Hq s<Go.IntKind.wrap .i64 (s.Put+(l.length:Int))))<;>cases s.Shut<;>cases s.Gone<;>simp
end M
namespace M
open Go.V (inB qg aP bG)
theorem akW {a:dZ} (h:aik a=false):0<=a.XV /\ a.XV<=8:=by
 unfold aik at h;simp only[Bool.or_eq_false_iff,Bool.not_eq_false',Bool.and_eq_true,decide_eq_true_eq] at h;exact h.1
theorem am2 {n:Int} (h:0<=n):M.yE n (1:Int)=some (aha n):=by
 unfold M.yE aha
 by_cases c:(1:Int)<n
 ·rw[if_pos c,decide_eq_true c];rfl
 ·rw[if_neg c,decide_eq_false c];rfl
theorem am3 (n:Int):(bif decide ((1:Int)<n) then n else (1:Int))=aha n:=by
 unfold aha
 by_cases c:(1:Int)<n
 ·rw[if_pos c,decide_eq_true c];rfl
 ·rw[if_neg c,decide_eq_false c];rfl
theorem alY (n:Int):1<=aha n:=by unfold aha;split<;>omega
theorem amJ {n:Int} (h:n<=8):aha n<=8:=by unfold aha;split<;>omega
set_option maxHeartbeats 1000000 in
theorem amK (list:List dZ) (hl:list.length<=60) (hA:∀a∈list,aik a=false) (t6:Int) (t62:List UInt8) (t63:Int) (t64:Bool) (t65 t66:Int) (t67 t68:Bool) (o7:List (List UInt8)) (o8:List ae) (o9:List af) (st:PSt) (h0:PJ 0 st):
 M.aa5 list t6 t62 t63 t64 t65 t66 t67 t68 o7 o8 o9 aP st.2.1 0 st.1 st.2.2=some (t6,t62,t63,t64,t65,t66,t67,t68,(list.foldl afP st).1,(list.foldl afP st).2.2,o7,o8,o9):=by
 refine alb (F:=fun f i st=>M.aa5 list t6 t62 t63 t64 t65 t66 t67 t68 o7 o8 o9 f st.2.1 i st.1 st.2.2) (g:=afP) (h:=fun st=>(t6,t62,t63,t64,t65,t66,t67,t68,st.1,st.2.2,o7,o8,o9)) list (by omega) PJ (fun f k st hk hJ=> ?_) (fun f st _=> ?_) st h0
 ·refine ⟨?_,akF hJ _⟩
  have hP:=hJ.1;have hb:=hP.buf;have hm:=akW (hA list[k] (List.getElem_mem hk));have hn:((list[k].XV.toNat:Nat):Int)=list[k].XV:=by omega
  have e1:=anB st.1;have e2:=anC st.1;have e3:=amH st.2.1 list[k].XV.toNat (by omega)
  rw[hn] at e3;have e4:=anA st.1 (ag9 st.2.1 list[k].XV.toNat) hP.sz (by rw[Zb (alg _ _),akV];omega) hP.r0 hP.r6 hP.len
  have e5:=am2 hm.1;have e6:=anF st.1 (aha list[k].XV) (alY _) (by omega)
  have hr:=(alh hP (aha list[k].XV)).2.1;have hc:=yX (a:=st.2.2.length) (b:=(V3 st.1 (aha list[k].XV)).2.2.length) (by have:=hJ.2.1;omega)
  have w:=nM hk (by omega:list.length<2^62)
  show M.aa5 list t6 t62 t63 t64 t65 t66 t67 t68 o7 o8 o9 (f+1) st.2.1 (k:Int) st.1 st.2.2=_
  rw[M.aa5];simp only[Int.ofNat_lt,hk,decide_true,cond_true,Int.toNat_natCast,getD_lt hk,ah.bM,e1,e2,e3,e4,e5,e6,dM,Option.isSome_some,Option.getD_some,Bool.true_and,Bool.and_true,w,hc];unfold afP
  cases hW:list[k].Write<;>cases hC:list[k].Close<;>simp only[Bool.and_true,Bool.and_false,Bool.false_and,Bool.true_and,cond_true,cond_false,Bool.and_self]
  ·have:=alA (V3 st.1 (aha list[k].XV)).1 st.1 (V3 st.1 (aha list[k].XV)).2.1 (aml _ _)
   cases hz:((V3 st.1 (aha list[k].XV)).1==0)<;>rw[hz] at this<;>simp only[cond_true,cond_false] at this ⊢
   ·rw[<-this]
   ·rw[this]
  ·have:=alA (lvP st.1).1 st.1 (lvP st.1).2 (amk _)
   cases hz:((lvP st.1).1==0)<;>rw[hz] at this<;>simp only[cond_true,cond_false] at this ⊢
   ·rw[<-this]
   ·rw[this]
  ·unfold wrS
   cases hz:((Qr st.1 (ag9 st.2.1 list[k].XV.toNat)).2.1==0)
   ·have hne:(Qr st.1 (ag9 st.2.1 list[k].XV.toNat)).2.1≠0:=by intro e;rw[e] at hz;simp at hz
    have:=amm _ _ hne;simp only[cond_false,hz,this.1,this.2]
   ·simp only[cond_true]
    rfl
  ·have:=alA (shP st.1).1 st.1 (shP st.1).2 (amj _)
   cases hz:((shP st.1).1==0)<;>rw[hz] at this<;>simp only[cond_true,cond_false] at this ⊢
   ·rw[<-this]
   ·rw[this]
 ·show M.aa5 list t6 t62 t63 t64 t65 t66 t67 t68 o7 o8 o9 (f+1) st.2.1 (list.length:Int) st.1 st.2.2=_
  rw[M.aa5];simp[ah.bM]
set_option maxHeartbeats 1000000 in
theorem amL (list:List dZ) (hl:list.length<=60) (hA:∀a∈list,aik a=false) (t6:Int) (t62:List UInt8) (t63:Int) (t64:Bool) (t65 t66:Int) (t67 t68:Bool) (o7:List (List UInt8)) (o8:List ae) (o9:List af) (st:PSt) (h0:PJ 0 st):
 M.acg list (list.length:Int) t6 t62 t63 t64 t65 t66 t67 t68 o7 o8 o9 aP st.2.1 0 st.1.aO.Kind st.1.aO.Name st.1.Room st.1.bu st.1.Put st.1.qM st.1.Shut st.1.Gone st.2.2 st.1.aO.aQ st.1.aO.Kids st.1.Buffer
   =some (t6,t62,t63,t64,t65,t66,t67,t68,(list.foldl afP st).1.aO.Kind,(list.foldl afP st).1.aO.Name,(list.foldl afP st).1.Room,(list.foldl afP st).1.bu,(list.foldl afP st).1.Put,(list.foldl afP st).1.qM,(list.foldl afP st).1.Shut,(list.foldl afP st).1.Gone,(list.foldl afP st).2.2,o7,o8,o9,(list.foldl afP st).1.aO.aQ,(list.foldl afP st).1.aO.Kids,(list.foldl afP st).1.Buffer):=by
 refine alb (F:=fun f i st=>M.acg list (list.length:Int) t6 t62 t63 t64 t65 t66 t67 t68 o7 o8 o9 f st.2.1 i st.1.aO.Kind st.1.aO.Name st.1.Room st.1.bu st.1.Put st.1.qM st.1.Shut st.1.Gone st.2.2 st.1.aO.aQ st.1.aO.Kids st.1.Buffer) (g:=afP)
  (h:=fun st=>(t6,t62,t63,t64,t65,t66,t67,t68,st.1.aO.Kind,st.1.aO.Name,st.1.Room,st.1.bu,st.1.Put,st.1.qM,st.1.Shut,st.1.Gone,st.2.2,o7,o8,o9,st.1.aO.aQ,st.1.aO.Kids,st.1.Buffer)) list (by omega) PJ (fun f k st hk hJ=> ?_) (fun f st _=> ?_) st h0
 ·refine ⟨?_,akF hJ _⟩
  have hP:=hJ.1;have hb:=hP.buf;have hm:=akW (hA list[k] (List.getElem_mem hk));have hn:((list[k].XV.toNat:Nat):Int)=list[k].XV:=by omega
  have e1:=anD st.1;have e2:=anE st.1;have e3:=amI st.2.1 list[k].XV.toNat (by omega)
  rw[hn] at e3;have e4:=anx st.1 (ag9 st.2.1 list[k].XV.toNat) (by rw[Zb (alg _ _),akV];omega) hP.r0 hP.r6 hP.len
  have e6:=anG st.1 (aha list[k].XV) (alY _) (amJ hm.2) (by omega)
  have hr:=(alh hP (aha list[k].XV)).2.1;have hc:=yX (a:=st.2.2.length) (b:=(V3 st.1 (aha list[k].XV)).2.2.length) (by have:=hJ.2.1;omega)
  have w:=nM hk (by omega:list.length<2^62)
  show M.acg list (list.length:Int) t6 t62 t63 t64 t65 t66 t67 t68 o7 o8 o9 (f+1) st.2.1 (k:Int) st.1.aO.Kind st.1.aO.Name st.1.Room st.1.bu st.1.Put st.1.qM st.1.Shut st.1.Gone st.2.2 st.1.aO.aQ st.1.aO.Kids st.1.Buffer=_
  rw[M.acg];simp only[Int.ofNat_lt,hk,decide_true,cond_true,Int.toNat_natCast,getD_lt hk,am3,e1,e2,e3,e4,e6,dM,Option.isSome_some,Option.getD_some,Bool.true_and,Bool.and_true,w,ah.aiZ,ah.flat3,ah.flat5,hc];unfold afP
  cases hW:list[k].Write<;>cases hC:list[k].Close<;>simp only[Bool.and_true,Bool.and_false,Bool.false_and,Bool.true_and,cond_true,cond_false,Bool.and_self]
 ·show M.acg list (list.length:Int) t6 t62 t63 t64 t65 t66 t67 t68 o7 o8 o9 (f+1) st.2.1 (list.length:Int) st.1.aO.Kind st.1.aO.Name st.1.Room st.1.bu st.1.Put st.1.qM st.1.Shut st.1.Gone st.2.2 st.1.aO.aQ st.1.aO.Kids st.1.Buffer=_
  rw[M.acg];simp
end M
namespace M
open Go.V (inB qg aP bG)
theorem ty9 {t:ae} (h:tOk t=true) (hk:t.Kind=9):t.sz=0:=by
 unfold tOk at h;rw[zT] at h;simp only[EX,afc,XW,Zc,hk,Bool.and_eq_true] at h;have h1:t.aQ=[]:=by
  have:=h.2.1.1.1;simp at this;exact this
 have h2:t.Name=[]:=by
  have:=h.2.1.1.2;simp at this;exact this
 have h3:t.Kids=[]:=by
  have:=h.2.1.2;simp at this;exact this
 rw[ae.jO,h1,h2,h3];rfl
noncomputable def ai0 (s:ah) (first:Int) (l:List dZ):ah×List af×Int:=
 bif !stB s then (RG,[],1) else bif s.aO.Kind !=9 then (RG,[],7) else bif !(decide ((-(1000000:Int))<=first)&&decide (first<=(1000000:Int))) then (RG,[],2)
 else bif decide ((60:Int)<(l.length:Int)) then (RG,[],4) else bif l.any aik then (RG,[],1)
 else ((l.foldl afP (s,first,[])).1,(l.foldl afP (s,first,[])).2.2,0)
theorem start {s:ah} (hs:stB s=true) (hk:s.aO.Kind=9) (first:Int):PJ 0 (s,first,[]):=by
 have hf:=Xl hs;refine ⟨⟨show 0<=s.Room by have:=hf.2.1;omega,hf.2.2.1,hf.2.2.2.1, ?_,fun v hv=> ?_⟩,by simp,by simp⟩
 ·show s.aO.sz<=1048000
  rw[ty9 (XX hf.1) hk];omega
 ·have:=hf.2.2.2.2.1
  unfold V8 at this;exact aij (List.all_eq_true.1 this v hv) hk
theorem ajU : ∀(l:List dZ) (k:Nat) (st:PSt),PJ k st->PJ (k+l.length) (l.foldl afP st)
 | [],k,st,h=>h
 |a::r,k,st,h=>by
  have:=ajU r (k+1) (afP st a) (akF h a);rw[List.foldl_cons,List.length_cons]
  rwa [Nat.add_right_comm,Nat.add_assoc] at this
theorem am4 (s:ah) (first:Int) (l:List dZ) (hl:l.length<=60):
 M.acR first l (0:Int) [] (0:Int) false (0:Int) (0:Int) false false [] [] [] aP (0:Int) s=some (match l.findIdx? aik with
   |some k=> .inl ((1:Int),(0:Int),[],(0:Int),false,(0:Int),(0:Int),false,false,[],[],[],[])
   |none=> .inr (first,l,s,(0:Int),[],(0:Int),false,(0:Int),(0:Int),false,false,[],[],[])):=by
 refine uA (p:=aik) (F:=fun f i=>M.acR first l (0:Int) [] (0:Int) false (0:Int) (0:Int) false false [] [] [] f i s) (fun _=>((1:Int),(0:Int),[],(0:Int),false,(0:Int),(0:Int),false,false,[],[],[],[])) l (by omega) (fun f k hk=> ?_) (fun f=> ?_)
 ·show M.acR first l (0:Int) [] (0:Int) false (0:Int) (0:Int) false false [] [] [] (f+1) (k:Int) s=_
  rw[M.acR];simp only[Int.ofNat_lt,hk,decide_true,cond_true,Int.toNat_natCast,getD_lt hk,ah.bM,dM,Bool.true_or,Bool.true_and,Bool.and_true,nM hk (by omega:l.length<2^62)]
  rfl
 ·show M.acR first l (0:Int) [] (0:Int) false (0:Int) (0:Int) false false [] [] [] (f+1) (l.length:Int) s=_
  rw[M.acR];simp[ah.bM]
theorem am5 (l:List dZ) (hl:l.length<=60):M.aaX l=some (l.any aik):=by
 have e:=contains_of (p:=aik) (F:=M.aaM l (l.length:Int)) l (by omega) (fun f k hk=>by
  rw[M.aaM];have c:M.agK l[k]=some (aik l[k]):=rfl;simp only[getD_lt hk,c,Int.toNat_natCast,dM,Int.ofNat_lt,hk,decide_true,cond_true,Bool.true_or,Bool.true_and,Bool.and_true,nM hk (by omega:l.length<2^62),Option.getD_some,Option.isSome_some]) (fun f=>by
  rw[M.aaM];simp)
 have e2:M.abU l=_:=e;unfold M.aaX;rw[e2];simp only[Option.getD_some,Option.isSome_some,Bool.and_true,cond_true];rw[index_ge]
theorem amn (s:ah) (first:Int) (l:List dZ) (h:s.sz<=1048576):M.ag6 s first l=some (ai0 s first l):=by
 unfold M.ag6 ai0;simp only[ah.bM,MK s h,Option.isSome_some,Option.getD_some,Bool.true_and,Bool.and_true,cond_true]
 cases hs:stB s
 ·rfl
 ·cases hk:(s.aO.Kind !=9)
  ·have hk9:s.aO.Kind=9:=by simpa using hk
   cases hf:(decide ((-(1000000:Int))<=first)&&decide (first<=(1000000:Int)))
   ·rfl
   ·cases hl:decide ((60:Int)<(l.length:Int))
    ·have hl':l.length<=60:=by simp at hl;omega
     rw[am4 s first l hl']
     cases ha:l.any aik
     ·have hn:l.findIdx? aik=none:=by rw[oJ] at ha;cases e:l.findIdx? aik<;>rw[e] at ha<;>simp_all
      have hJ:=start hs hk9 first
      have hA:∀a∈l,aik a=false:=fun a ha'=>by
       rw[List.any_eq_false] at ha;simpa using ha a ha'
      have hJ2:=ajU l 0 _ hJ;have e:=amK l hl' hA (0:Int) [] (0:Int) false (0:Int) (0:Int) false false [] [] [] (s,first,[]) hJ
      simp only[hn,ae8 s h,Option.isSome_some,Option.getD_some,e,ae8 _ hJ2.1.sz,Bool.not_true,cond_false,Bool.true_and,Bool.and_true,cond_true]
     ·obtain ⟨k,hn⟩:∃k,l.findIdx? aik=some k:=by
       rw[oJ] at ha;cases e:l.findIdx? aik
       ·rw[e] at ha;simp at ha
       ·exact ⟨_,rfl⟩
      simp only[hn,Bool.not_true,cond_false,cond_true,Bool.true_and,Bool.and_true]
      rfl
    ·rfl
  ·rfl
theorem amo (s:ah) (first:Int) (l:List dZ) (h:s.sz<=1048576):M.ahb s first l=some ((ai0 s first l).1.afO (ai0 s first l).2.2 (ai0 s first l).2.1):=by
 unfold M.ahb ai0;simp only[ah.bM,ML s h,aaQ s (ah.EU h) (ah.EW h),ah.ik,Option.isSome_some,Option.getD_some,Bool.true_and,Bool.and_true,cond_true]
 cases hs:stB s
 ·rfl
 ·cases hk:(s.aO.Kind !=9)
  ·have hk9:s.aO.Kind=9:=by simpa using hk
   cases hf:(decide ((-(1000000:Int))<=first)&&decide (first<=(1000000:Int)))
   ·rfl
   ·cases hl:decide ((60:Int)<(l.length:Int))
    ·have hl':l.length<=60:=by simp at hl;omega
     rw[am5 l hl']
     cases ha:l.any aik
     ·have hJ:=start hs hk9 first
      have hA:∀a∈l,aik a=false:=fun a ha'=>by
       rw[List.any_eq_false] at ha;simpa using ha a ha'
      have hJ2:=ajU l 0 _ hJ;have e:=amL l hl' hA (0:Int) [] (0:Int) false (0:Int) (0:Int) false false [] [] [] (s,first,[]) hJ
      have e2:=aaQ _ (ah.EU hJ2.1.sz) (ah.EW hJ2.1.sz);simp only[Option.isSome_some,Option.getD_some,e,ae.eta,ah.eta,e2,ah.ik,Bool.not_true,cond_false,Bool.true_and,Bool.and_true,cond_true]
      rfl
     ·simp only[Option.isSome_some,Option.getD_some,Bool.not_true,cond_false,Bool.true_and,Bool.and_true,cond_true]
      rfl
    ·rfl
  ·rfl
theorem alZ (s:ah) (first:Int) (l:List dZ) (h:s.sz<=1048576):(ai0 s first l).1.sz<=1048576 /\ lI af.sz (ai0 s first l).2.1<=1048576:=by
 unfold ai0
 cases hs:stB s
 ·exact ⟨by simp only[Bool.not_false,cond_true,ae9];omega,by simp[lI]⟩
 ·cases hk:(s.aO.Kind !=9)
  ·cases hf:(decide ((-(1000000:Int))<=first)&&decide (first<=(1000000:Int)))
   ·exact ⟨by simp only[Bool.not_false,Bool.not_true,cond_true,cond_false,ae9];omega,by simp[lI]⟩
   ·cases hl:decide ((60:Int)<(l.length:Int))
    ·cases ha:l.any aik
     ·have hJ:=ajU l 0 _ (start hs (by simpa using hk) first)
      refine ⟨hJ.1.sz, ?_⟩;simp only[Bool.not_true,cond_false];rw[Zb hJ.2.2];have:=hJ.2.1;simp at hl;omega
     ·exact ⟨by simp only[Bool.not_true,cond_true,cond_false,ae9];omega,by simp[lI]⟩
    ·exact ⟨by simp only[Bool.not_true,cond_true,cond_false,ae9];omega,by simp[lI]⟩
  ·exact ⟨by simp only[Bool.not_true,cond_true,cond_false,ae9];omega,by simp[lI]⟩
end M
