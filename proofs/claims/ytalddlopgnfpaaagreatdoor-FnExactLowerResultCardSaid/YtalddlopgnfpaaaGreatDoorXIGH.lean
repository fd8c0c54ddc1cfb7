/-
  Part of the proof of the claim.
-/
import Derived.Test.YtalddlopgnfpaaaGreatDoorXIGM
import Derived.Test.YtalddlopgnfpaaaGreatDoorXIlaw
import Derived.Test.YtalddlopgnfpaaaGreatDoorXIpl
set_option linter.unusedVariables false
set_option linter.unusedSimpArgs false
namespace M
def lp(s:List UInt8):Prop:=s.length<=9223372036854775807
def l6{α:Type}(p:α->Prop)(l:List α):Prop:=l.length<=9223372036854775807/\∀x∈l,p x
def af.sz(a:af):Nat:=0
theorem af.dV(a:af):a.sz=0:=rfl
def af.Ok(a:af):Prop:=I64 (a.At)/\I64 (a.Size)/\True
theorem af.ok_eq(a:af):a.Ok↔(I64 (a.At)/\I64 (a.Size)/\True):=pV
def aB.sz(a:aB):Nat:=(a.Bytes).length+aZ af.sz (a.Free)
theorem aB.dV(a:aB):a.sz=(a.Bytes).length+aZ af.sz (a.Free):=rfl
def aB.Ok(a:aB):Prop:=lp (a.Bytes)/\l6 af.Ok (a.Free)/\True
theorem aB.ok_eq(a:aB):a.Ok↔(lp (a.Bytes)/\l6 af.Ok (a.Free)/\True):=pV
mutual
def aa.sz:aa->Nat
 |.mk v0 v1 v2 v3=>(v1).length+aZ List.length (v2)+aa.pW v3
def aa.pW:List aa->Nat
 |[]=>0
 |t::r=>aa.sz t+1+aa.pW r
end
theorem aa.uz:∀l:List aa,aa.pW l=aZ aa.sz l
 |[]=>rfl
 |t::r=>by simp only[aa.pW,aZ,aa.uz r]
theorem aa.dV(a:aa):a.sz=(a.Name).length+aZ List.length (a.bp)+aZ aa.sz (a.Kids):=by cases a;simp only[aa.sz,aa.uz];rfl
mutual
def aa.Ok:aa->Prop
 |.mk v0 v1 v2 v3=>I64 (v0)/\lp (v1)/\l6 lp (v2)/\(v3.length<=9223372036854775807/\aa.jg v3)/\True
def aa.jg:List aa->Prop
 |[]=>True
 |t::r=>aa.Ok t/\aa.jg r
end
theorem aa.zR:∀l:List aa,aa.jg l↔∀x∈l,aa.Ok x
 |[]=>by simp[aa.jg]
 |t::r=>by simp[aa.jg,aa.zR r]
theorem aa.ok_eq(a:aa):a.Ok↔(I64 (a.Kind)/\lp (a.Name)/\l6 lp (a.bp)/\l6 aa.Ok (a.Kids)/\True):=by
 cases a;simp only[aa.Ok,aa.zR,l6];exact pV
mutual
def ae.sz:ae->Nat
 |.mk v0 v1 v2 v3=>(v2).length+ae.pW v3
def ae.pW:List ae->Nat
 |[]=>0
 |t::r=>ae.sz t+1+ae.pW r
end
theorem ae.uz:∀l:List ae,ae.pW l=aZ ae.sz l
 |[]=>rfl
 |t::r=>by simp only[ae.pW,aZ,ae.uz r]
theorem ae.dV(a:ae):a.sz=(a.Text).length+aZ ae.sz (a.Kids):=by cases a;simp only[ae.sz,ae.uz];rfl
mutual
def ae.Ok:ae->Prop
 |.mk v0 v1 v2 v3=>I64 (v0)/\I64 (v1)/\lp (v2)/\(v3.length<=9223372036854775807/\ae.jg v3)/\True
def ae.jg:List ae->Prop
 |[]=>True
 |t::r=>ae.Ok t/\ae.jg r
end
theorem ae.zR:∀l:List ae,ae.jg l↔∀x∈l,ae.Ok x
 |[]=>by simp[ae.jg]
 |t::r=>by simp[ae.jg,ae.zR r]
theorem ae.ok_eq(a:ae):a.Ok↔(I64 (a.Kind)/\I64 (a.Num)/\lp (a.Text)/\l6 ae.Ok (a.Kids)/\True):=by
 cases a;simp only[ae.Ok,ae.zR,l6];exact pV
theorem af.pX(a:af)(h:∀m,Go.V.lq m .Block a):a.Ok:=⟨(h 0).1,(h 0).2.1,trivial⟩
theorem aB.pX(a:aB)(h:∀m,Go.V.lq m .dO a):a.Ok:=⟨(h 0).1,⟨((h 0).2.1).1,fun y hy=>af.pX y (fun m=>((h (m+1)).2.1).2 y hy)⟩,trivial⟩
mutual
theorem aa.pX:∀(a:aa),(∀m,Go.V.lq m .Type a)->a.Ok
 |.mk v0 v1 v2 v3,h=>by
   simp only[aa.Ok];exact⟨(h 0).1,(h 0).2.1,⟨((h 0).2.2.1).1,fun y hy=>((fun m=>((h (m+1)).2.2.1).2 y hy) 0).1⟩,⟨((h 0).2.2.2.1).1,(aa.zS _ fun y hy m=>((h (m+1)).2.2.2.1).2 y hy)⟩,trivial⟩
theorem aa.zS:∀(l:List aa),(∀y∈l,∀m,Go.V.lq m .Type y)->aa.jg l
 |[],_=>by simp only[aa.jg]
 |t::r,h=>by
  simp only[aa.jg];exact⟨aa.pX t (h t (by simp)),aa.zS r fun y hy=>h y (by simp[hy])⟩
end
mutual
theorem ae.pX:∀(a:ae),(∀m,Go.V.lq m .Value a)->a.Ok
 |.mk v0 v1 v2 v3,h=>by
   simp only[ae.Ok];exact⟨(h 0).1,(h 0).2.1,(h 0).2.2.1,⟨((h 0).2.2.2.1).1,(ae.zS _ fun y hy m=>((h (m+1)).2.2.2.1).2 y hy)⟩,trivial⟩
theorem ae.zS:∀(l:List ae),(∀y∈l,∀m,Go.V.lq m .Value y)->ae.jg l
 |[],_=>by simp only[ae.jg]
 |t::r,h=>by
  simp only[ae.jg];exact⟨ae.pX t (h t (by simp)),ae.zS r fun y hy=>h y (by simp[hy])⟩
end
theorem ag4(a:List (List UInt8))(left:Int)(ok:l6 lp a)(h0:0<=left)(h1:left<=1048576):M.vD a left=some (if(aZ List.length a:Int)<=left then left-aZ List.length a else -1):=by
 have hl:=ok.1;unfold M.vD;rw[wrap_i64 (by omega) (by omega)];refine IK (f:=List.length) (F:=M.te  a) a left h0 h1 (fun g k l h2 h3 hk=>?_) (fun g l=>?_)
 ·have hn:k<2^62:=by omega
  rw[M.te];have w:Go.IntKind.wrap .i64 (l-((a[k]).length:Int))=l-(a[k]).length:=wrap_i64 (by have:=ok.2 a[k] (bC hk);unfold lp at this;omega) (by omega);by_cases d:((a[k]).length:Int)<=l
  ·have n:¬(l-((a[k]).length:Int)<0):=by omega
   rw[av d];simp[hk,getD_lt hk,w,n,cm hk (show a.length<2^62 by omega)]
  ·have n:l-((a[k]).length:Int)<0:=by omega
   rw[ak d];simp[hk,getD_lt hk,w,n]
 ·rw[M.te];simp
theorem ag5(a:List (List UInt8))(ha:aZ List.length a<=1048576):M.vF a=some a:=by
 have hl:=fx List.length a;have hn:a.length<=1048576:=by omega
 have hi:(a.length:Int)<=1073741824:=by omega
 have q:∀z,z.length=a.length->M.qP  a Go.V.ah 0 z=some a:=D8 (F:=M.qP  a) a (by omega) (fun f k out h1 h2 hk=>by
  rw[M.qP];simp[hk,h2,getD_lt hk,cm hk (gC hn)]) (fun f out=>by rw[M.qP];simp)
 unfold M.vF;rw[q _ (by simp)];simp[hi]
theorem ag6(a:List (List UInt8))(ha:aZ List.length a<=1048576):M.vH a a=some true:=by
 have hl:=fx List.length a;have hn:a.length<=1048576:=by omega
 unfold M.vH;refine D9 (F:=M.tj  a a) a hn (fun f k hk=>?_) (fun f=>?_)
 ·rw[M.tj];simp[hk,getD_lt hk,cm hk (gC hn)]
 ·rw[M.tj];simp
theorem ag7(a:af)(h:a.sz<=1048576):M.zQ a=some a:=by
 unfold M.zQ;have hs:=af.dV a
 try simp only[aa.aO,ae.aO]
 try simp[]
theorem ag8(a:af)(h:a.sz<=1048576):M.xw a a=some true:=by
 unfold M.xw;have hs:=af.dV a
 try simp only[aa.aO,ae.aO]
 try simp[]
theorem ag9(a:List af)(left:Int)(ok:l6 af.Ok a)(h0:0<=left)(h1:left<=1048576):M.xq a left=some (if(aZ af.sz a:Int)<=left then left-aZ af.sz a else -1):=by
 have hl:=ok.1;unfold M.xq;rw[wrap_i64 (by omega) (by omega)];exact aha (f:=af.sz) (fun _=>rfl) a left h0
theorem ahb(a:List af)(ha:aZ af.sz a<=1048576):M.xt a=some a:=by
 have hl:=fx af.sz a;have hn:a.length<=1048576:=by omega
 have hi:(a.length:Int)<=1073741824:=by omega
 have q:∀z,z.length=a.length->M.rX  a Go.V.ah 0 z=some a:=D8 (F:=M.rX  a) a (by omega) (fun f k out h1 h2 hk=>by
  rw[M.rX];have e:=ag7 a[k] (by have:=jU af.sz a a[k] (bC hk);omega);simp[hk,h2,getD_lt hk,e,cm hk (gC hn),aa.aO,ae.aO]) (fun f out=>by rw[M.rX];simp)
 unfold M.xt;rw[q _ (by simp)];simp[hi]
theorem ahc(a:List af)(ha:aZ af.sz a<=1048576):M.xx a a=some true:=by
 have hl:=fx af.sz a;have hn:a.length<=1048576:=by omega
 unfold M.xx;refine D9 (F:=M.uu  a a) a hn (fun f k hk=>?_) (fun f=>?_)
 ·rw[M.uu];have e:=ag8 a[k] (by have:=jU af.sz a a[k] (bC hk);omega);simp[hk,getD_lt hk,e,cm hk (gC hn),aa.aO,ae.aO]
 ·rw[M.uu];simp
theorem ahd(a:aB)(left:Int)(ok:a.Ok)(h0:0<=left)(h1:left<=1048576):M.xr a left=some (if(a.sz:Int)<=left then left-a.sz else -1):=by
 unfold M.xr;have hs:=aB.dV a;have ok1:=(aB.ok_eq a).1 ok
 try simp only[aa.aO,ae.aO]
 have e0:Go.IntKind.wrap .i64 (left-((a.Bytes).length:Int))=left-((a.Bytes).length:Int):=wrap_i64 (by have:=ok1.1;unfold lp at this;omega) (by omega);by_cases c0:(((a.Bytes).length:Nat):Int)<=left
 ·skip
  have n0:¬(left-(((a.Bytes).length:Nat):Int)<0):=by omega
  have e1:=ag9 (a.Free) (left-(((a.Bytes).length:Nat):Int)) ok1.2.1 (by omega) (by omega);by_cases c1:((aZ af.sz (a.Free):Nat):Int)<=left-(((a.Bytes).length:Nat):Int)
  ·rw[av c1]at e1;have n1:¬(left-(((a.Bytes).length:Nat):Int)-((aZ af.sz (a.Free):Nat):Int)<0):=by omega
   have q:(a.sz:Int)<=left:=by rw[hs]<;>push_cast<;>omega
   have q2:left-(a.sz:Int)=left-(((a.Bytes).length:Nat):Int)-((aZ af.sz (a.Free):Nat):Int):=by rw[hs]<;>push_cast<;>omega
   rw[av q,q2];simp[e0,n0,e1,n1]
  ·rw[ak c1]at e1;have q:¬((a.sz:Int)<=left):=by rw[hs]<;>push_cast<;>omega
   rw[ak q];simp[e0,n0,e1]
 ·have n0:left-(((a.Bytes).length:Nat):Int)<0:=by omega
  have q:¬((a.sz:Int)<=left):=by rw[hs]<;>push_cast<;>omega
  rw[ak q];simp[e0,n0]
theorem ahe(a:aB)(h:a.sz<=1048576):M.xu a=some (a.Bytes,a.Free):=by
 unfold M.xu;have hs:=aB.dV a
 try simp only[aa.aO,ae.aO]
 have e1:=ahb (a.Free) (by omega)
 try simp[e1]
theorem US(a:aB)(h:a.sz<=1048576):M.pT a a=some true:=by
 unfold M.pT;have hs:=aB.dV a
 try simp only[aa.aO,ae.aO]
 have e1:=ahc (a.Free) (by omega)
 try simp[e1]
theorem ahf(r:aa->Int->Option Int)(a:List aa)(left:Int)(ok:l6 aa.Ok a)(h0:0<=left)(h1:left<=1048576)(hr:∀x l,x∈a->0<=l->l<left->r x l=some (if(x.sz:Int)<=l then l-x.sz else -1)):M.vE r a left=some (if(aZ aa.sz a:Int)<=left then left-aZ aa.sz a else -1):=by
 have hl:=ok.1;unfold M.vE;rw[wrap_i64 (by omega) (by omega)];refine IK (f:=aa.sz) (F:=M.tf r  a) a left h0 h1 (fun g k l h2 h3 hk=>?_) (fun g l=>?_)
 ·have hn:k<2^62:=by omega
  rw[M.tf];have e:=hr a[k] l (bC hk) h2 (by omega);by_cases d:((aa.sz a[k]:Nat):Int)<=l
  ·have n:¬(l-((aa.sz a[k]:Nat):Int)<0):=by omega
   rw[av d]at e⊢;simp[hk,getD_lt hk,e,n,cm hk (show a.length<2^62 by omega),aa.aO,ae.aO]
  ·rw[ak d]at e⊢;simp[hk,getD_lt hk,e,aa.aO,ae.aO]
 ·rw[M.tf];simp
theorem ahg(r:aa->Option (Int×(List UInt8)×(List (List UInt8))×(List aa)))(a:List aa)(ha:a.length<=1048576)(hr:∀x∈a,r x=some (x.Kind,x.Name,x.bp,x.Kids)):M.vG r a=some a:=by
 have hn:a.length<=1048576:=by omega
 have hi:(a.length:Int)<=1073741824:=by omega
 have q:∀z,z.length=a.length->M.qQ r  a Go.V.ah 0 z=some a:=D8 (F:=M.qQ r  a) a (by omega) (fun f k out h1 h2 hk=>by
  rw[M.qQ];have e:=hr a[k] (bC hk);simp[hk,h2,getD_lt hk,e,cm hk (gC hn),aa.aO,ae.aO,aa.eta]) (fun f out=>by rw[M.qQ];simp)
 unfold M.vG;rw[q _ (by simp)];simp[hi]
theorem ahh(r:aa->aa->Option Bool)(a:List aa)(ha:a.length<=1048576)(hr:∀x∈a,r x x=some true):M.vI r a a=some true:=by
 have hn:a.length<=1048576:=by omega
 unfold M.vI;refine D9 (F:=M.tn r  a a) a hn (fun f k hk=>?_) (fun f=>?_)
 ·rw[M.tn];have e:=hr a[k] (bC hk);simp[hk,getD_lt hk,e,cm hk (gC hn),aa.aO,ae.aO]
 ·rw[M.tn];simp
theorem UT:∀(n:Nat)(a:aa)(left:Int),a.Ok->0<=left->left<n->left<=1048576->M.tg n a left=some (if(a.sz:Int)<=left then left-a.sz else -1)
 |0,a,left,ok,h0,h2,h1=>by omega
 |n+1,a,left,ok,h0,h2,h1=>by
  show M.yU (M.tg n) a left=_
  unfold M.yU;have hs:=aa.dV a;have ok1:=(aa.ok_eq a).1 ok
  try simp only[aa.aO,ae.aO]
  have e0:Go.IntKind.wrap .i64 (left-((a.Name).length:Int))=left-((a.Name).length:Int):=wrap_i64 (by have:=ok1.2.1;unfold lp at this;omega) (by omega);by_cases c0:(((a.Name).length:Nat):Int)<=left
  ·skip
   have n0:¬(left-(((a.Name).length:Nat):Int)<0):=by omega
   have e1:=ag4 (a.bp) (left-(((a.Name).length:Nat):Int)) ok1.2.2.1 (by omega) (by omega);by_cases c1:((aZ List.length (a.bp):Nat):Int)<=left-(((a.Name).length:Nat):Int)
   ·rw[av c1]at e1;have n1:¬(left-(((a.Name).length:Nat):Int)-((aZ List.length (a.bp):Nat):Int)<0):=by omega
    have e2:=ahf (M.tg n) (a.Kids) (left-(((a.Name).length:Nat):Int)-((aZ List.length (a.bp):Nat):Int)) ok1.2.2.2.1 (by omega) (by omega) (fun x l hx q0 q1=>UT n x l ((ok1.2.2.2.1).2 x hx) q0 (by omega) (by omega));by_cases c2:((aZ aa.sz (a.Kids):Nat):Int)<=left-(((a.Name).length:Nat):Int)-((aZ List.length (a.bp):Nat):Int)
    ·rw[av c2]at e2;have n2:¬(left-(((a.Name).length:Nat):Int)-((aZ List.length (a.bp):Nat):Int)-((aZ aa.sz (a.Kids):Nat):Int)<0):=by omega
     have q:(a.sz:Int)<=left:=by rw[hs]<;>push_cast<;>omega
     have q2:left-(a.sz:Int)=left-(((a.Name).length:Nat):Int)-((aZ List.length (a.bp):Nat):Int)-((aZ aa.sz (a.Kids):Nat):Int):=by rw[hs]<;>push_cast<;>omega
     rw[av q,q2];simp[e0,n0,e1,n1,e2,n2]
    ·rw[ak c2]at e2;have q:¬((a.sz:Int)<=left):=by rw[hs]<;>push_cast<;>omega
     rw[ak q];simp[e0,n0,e1,n1,e2]
   ·rw[ak c1]at e1;have q:¬((a.sz:Int)<=left):=by rw[hs]<;>push_cast<;>omega
    rw[ak q];simp[e0,n0,e1]
  ·have n0:left-(((a.Name).length:Nat):Int)<0:=by omega
   have q:¬((a.sz:Int)<=left):=by rw[hs]<;>push_cast<;>omega
   rw[ak q];simp[e0,n0]
theorem ahi(a:aa)(left:Int)(ok:a.Ok)(h0:0<=left)(h1:left<=1048576):M.BA a left=some (if(a.sz:Int)<=left then left-a.sz else -1):=
 UT _ a left ok h0 (by have:=Go.V.cH;omega) h1
theorem UU:∀(n:Nat)(a:aa),a.sz<n->a.sz<=1048576->M.ti n a=some (a.Kind,a.Name,a.bp,a.Kids)
 |0,a,h2,h=>by omega
 |n+1,a,h2,h=>by
  show M.yV (M.ti n) a=_
  unfold M.yV;have hs:=aa.dV a
  try simp only[aa.aO,ae.aO]
  have e2:=ag5 (a.bp) (by omega);have hk3:=fx aa.sz (a.Kids);have e3:=ahg (M.ti n) (a.Kids) (by omega) (fun x hx=>UU n x (by have:=jU aa.sz (a.Kids) x hx;have:=jV aa.sz (a.Kids) x hx;omega) (by have:=jU aa.sz (a.Kids) x hx;omega))
  try simp[e2,e3,aa.eta]
theorem ahj(a:aa)(h:a.sz<=1048576):M.BD a=some (a.Kind,a.Name,a.bp,a.Kids):=
 UU _ a (by have:=Go.V.cH;omega) h
theorem UW:∀(n:Nat)(a:aa),a.sz<n->a.sz<=1048576->M.tp n a a=some true
 |0,a,h2,h=>by omega
 |n+1,a,h2,h=>by
  show M.yW (M.tp n) a a=_
  unfold M.yW;have hs:=aa.dV a
  try simp only[aa.aO,ae.aO]
  have e2:=ag6 (a.bp) (by omega);have hk3:=fx aa.sz (a.Kids);have e3:=ahh (M.tp n) (a.Kids) (by omega) (fun x hx=>UW n x (by have:=jU aa.sz (a.Kids) x hx;have:=jV aa.sz (a.Kids) x hx;omega) (by have:=jU aa.sz (a.Kids) x hx;omega))
  try simp[e2,e3,aa.eta]
theorem ahk(a:aa)(h:a.sz<=1048576):M.BG a a=some true:=
 UW _ a (by have:=Go.V.cH;omega) h
theorem ahl(r:ae->Int->Option Int)(a:List ae)(left:Int)(ok:l6 ae.Ok a)(h0:0<=left)(h1:left<=1048576)(hr:∀x l,x∈a->0<=l->l<left->r x l=some (if(x.sz:Int)<=l then l-x.sz else -1)):M.wC r a left=some (if(aZ ae.sz a:Int)<=left then left-aZ ae.sz a else -1):=by
 have hl:=ok.1;unfold M.wC;rw[wrap_i64 (by omega) (by omega)];refine IK (f:=ae.sz) (F:=M.tP r  a) a left h0 h1 (fun g k l h2 h3 hk=>?_) (fun g l=>?_)
 ·have hn:k<2^62:=by omega
  rw[M.tP];have e:=hr a[k] l (bC hk) h2 (by omega);by_cases d:((ae.sz a[k]:Nat):Int)<=l
  ·have n:¬(l-((ae.sz a[k]:Nat):Int)<0):=by omega
   rw[av d]at e⊢;simp[hk,getD_lt hk,e,n,cm hk (show a.length<2^62 by omega),aa.aO,ae.aO]
  ·rw[ak d]at e⊢;simp[hk,getD_lt hk,e,aa.aO,ae.aO]
 ·rw[M.tP];simp
theorem ahm(r:ae->Option (Int×Int×(List UInt8)×(List ae)))(a:List ae)(ha:a.length<=1048576)(hr:∀x∈a,r x=some (x.Kind,x.Num,x.Text,x.Kids)):M.wE r a=some a:=by
 have hn:a.length<=1048576:=by omega
 have hi:(a.length:Int)<=1073741824:=by omega
 have q:∀z,z.length=a.length->M.rz r  a Go.V.ah 0 z=some a:=D8 (F:=M.rz r  a) a (by omega) (fun f k out h1 h2 hk=>by
  rw[M.rz];have e:=hr a[k] (bC hk);simp[hk,h2,getD_lt hk,e,cm hk (gC hn),aa.aO,ae.aO,ae.eta]) (fun f out=>by rw[M.rz];simp)
 unfold M.wE;rw[q _ (by simp)];simp[hi]
theorem ahn(r:ae->ae->Option Bool)(a:List ae)(ha:a.length<=1048576)(hr:∀x∈a,r x x=some true):M.vA r a a=some true:=by
 have hn:a.length<=1048576:=by omega
 unfold M.vA;refine D9 (F:=M.s7 r  a a) a hn (fun f k hk=>?_) (fun f=>?_)
 ·rw[M.s7];have e:=hr a[k] (bC hk);simp[hk,getD_lt hk,e,cm hk (gC hn),aa.aO,ae.aO]
 ·rw[M.s7];simp
theorem UX:∀(n:Nat)(a:ae)(left:Int),a.Ok->0<=left->left<n->left<=1048576->M.tQ n a left=some (if(a.sz:Int)<=left then left-a.sz else -1)
 |0,a,left,ok,h0,h2,h1=>by omega
 |n+1,a,left,ok,h0,h2,h1=>by
  show M.zo (M.tQ n) a left=_
  unfold M.zo;have hs:=ae.dV a;have ok1:=(ae.ok_eq a).1 ok
  try simp only[aa.aO,ae.aO]
  have e0:Go.IntKind.wrap .i64 (left-((a.Text).length:Int))=left-((a.Text).length:Int):=wrap_i64 (by have:=ok1.2.2.1;unfold lp at this;omega) (by omega);by_cases c0:(((a.Text).length:Nat):Int)<=left
  ·skip
   have n0:¬(left-(((a.Text).length:Nat):Int)<0):=by omega
   have e1:=ahl (M.tQ n) (a.Kids) (left-(((a.Text).length:Nat):Int)) ok1.2.2.2.1 (by omega) (by omega) (fun x l hx q0 q1=>UX n x l ((ok1.2.2.2.1).2 x hx) q0 (by omega) (by omega));by_cases c1:((aZ ae.sz (a.Kids):Nat):Int)<=left-(((a.Text).length:Nat):Int)
   ·rw[av c1]at e1;have n1:¬(left-(((a.Text).length:Nat):Int)-((aZ ae.sz (a.Kids):Nat):Int)<0):=by omega
    have q:(a.sz:Int)<=left:=by rw[hs]<;>push_cast<;>omega
    have q2:left-(a.sz:Int)=left-(((a.Text).length:Nat):Int)-((aZ ae.sz (a.Kids):Nat):Int):=by rw[hs]<;>push_cast<;>omega
    rw[av q,q2];simp[e0,n0,e1,n1]
   ·rw[ak c1]at e1;have q:¬((a.sz:Int)<=left):=by rw[hs]<;>push_cast<;>omega
    rw[ak q];simp[e0,n0,e1]
  ·have n0:left-(((a.Text).length:Nat):Int)<0:=by omega
   have q:¬((a.sz:Int)<=left):=by rw[hs]<;>push_cast<;>omega
   rw[ak q];simp[e0,n0]
theorem aho(a:ae)(left:Int)(ok:a.Ok)(h0:0<=left)(h1:left<=1048576):M.CU a left=some (if(a.sz:Int)<=left then left-a.sz else -1):=
 UX _ a left ok h0 (by have:=Go.V.cH;omega) h1
theorem UY:∀(n:Nat)(a:ae),a.sz<n->a.sz<=1048576->M.tR n a=some (a.Kind,a.Num,a.Text,a.Kids)
 |0,a,h2,h=>by omega
 |n+1,a,h2,h=>by
  show M.zp (M.tR n) a=_
  unfold M.zp;have hs:=ae.dV a
  try simp only[aa.aO,ae.aO]
  have hk3:=fx ae.sz (a.Kids);have e3:=ahm (M.tR n) (a.Kids) (by omega) (fun x hx=>UY n x (by have:=jU ae.sz (a.Kids) x hx;have:=jV ae.sz (a.Kids) x hx;omega) (by have:=jU ae.sz (a.Kids) x hx;omega))
  try simp[e3,ae.eta]
theorem ahp(a:ae)(h:a.sz<=1048576):M.CW a=some (a.Kind,a.Num,a.Text,a.Kids):=
 UY _ a (by have:=Go.V.cH;omega) h
theorem UZ:∀(n:Nat)(a:ae),a.sz<n->a.sz<=1048576->M.s8 n a a=some true
 |0,a,h2,h=>by omega
 |n+1,a,h2,h=>by
  show M.yT (M.s8 n) a a=_
  unfold M.yT;have hs:=ae.dV a
  try simp only[aa.aO,ae.aO]
  have hk3:=fx ae.sz (a.Kids);have e3:=ahn (M.s8 n) (a.Kids) (by omega) (fun x hx=>UZ n x (by have:=jU ae.sz (a.Kids) x hx;have:=jV ae.sz (a.Kids) x hx;omega) (by have:=jU ae.sz (a.Kids) x hx;omega))
  try simp[e3,ae.eta]
theorem ahq(a:ae)(h:a.sz<=1048576):M.Bq a a=some true:=
 UZ _ a (by have:=Go.V.cH;omega) h
end M
