/-
  Part of the proof of the claim.
-/
import Derived.Test.YtalddlopgnfpaaaGreatDoorXIGM
import Derived.Test.YtalddlopgnfpaaaGreatDoorXIlaw
import Derived.Test.YtalddlopgnfpaaaGreatDoorXIpl
set_option linter.unusedVariables false
set_option linter.unusedSimpArgs false
namespace M
def lu(s:List UInt8):Prop:=s.length<=9223372036854775807
def jC{α:Type}(p:α->Prop)(l:List α):Prop:=l.length<=9223372036854775807/\∀x∈l,p x
def af.sz(a:af):Nat:=0
theorem af.dW(a:af):a.sz=0:=rfl
def af.Ok(a:af):Prop:=I64 (a.At)/\I64 (a.Size)/\True
theorem af.ok_eq(a:af):a.Ok↔(I64 (a.At)/\I64 (a.Size)/\True):=qm
def aB.sz(a:aB):Nat:=(a.Bytes).length+aR af.sz (a.Free)
theorem aB.dW(a:aB):a.sz=(a.Bytes).length+aR af.sz (a.Free):=rfl
def aB.Ok(a:aB):Prop:=lu (a.Bytes)/\jC af.Ok (a.Free)/\True
theorem aB.ok_eq(a:aB):a.Ok↔(lu (a.Bytes)/\jC af.Ok (a.Free)/\True):=qm
mutual
def aa.sz:aa->Nat
 |.mk v0 v1 v2 v3=>(v1).length+aR List.length (v2)+aa.qn v3
def aa.qn:List aa->Nat
 |[]=>0
 |t::r=>aa.sz t+1+aa.qn r
end
theorem aa.uX:∀l:List aa,aa.qn l=aR aa.sz l
 |[]=>rfl
 |t::r=>by simp only[aa.qn,aR,aa.uX r]
theorem aa.dW(a:aa):a.sz=(a.Name).length+aR List.length (a.bu)+aR aa.sz (a.Kids):=by cases a;simp only[aa.sz,aa.uX];rfl
mutual
def aa.Ok:aa->Prop
 |.mk v0 v1 v2 v3=>I64 (v0)/\lu (v1)/\jC lu (v2)/\(v3.length<=9223372036854775807/\aa.jo v3)/\True
def aa.jo:List aa->Prop
 |[]=>True
 |t::r=>aa.Ok t/\aa.jo r
end
theorem aa.AI:∀l:List aa,aa.jo l↔∀x∈l,aa.Ok x
 |[]=>by simp[aa.jo]
 |t::r=>by simp[aa.jo,aa.AI r]
theorem aa.ok_eq(a:aa):a.Ok↔(I64 (a.Kind)/\lu (a.Name)/\jC lu (a.bu)/\jC aa.Ok (a.Kids)/\True):=by
 cases a;simp only[aa.Ok,aa.AI,jC];exact qm
mutual
def ae.sz:ae->Nat
 |.mk v0 v1 v2 v3=>(v2).length+ae.qn v3
def ae.qn:List ae->Nat
 |[]=>0
 |t::r=>ae.sz t+1+ae.qn r
end
theorem ae.uX:∀l:List ae,ae.qn l=aR ae.sz l
 |[]=>rfl
 |t::r=>by simp only[ae.qn,aR,ae.uX r]
theorem ae.dW(a:ae):a.sz=(a.Text).length+aR ae.sz (a.Kids):=by cases a;simp only[ae.sz,ae.uX];rfl
mutual
def ae.Ok:ae->Prop
 |.mk v0 v1 v2 v3=>I64 (v0)/\I64 (v1)/\lu (v2)/\(v3.length<=9223372036854775807/\ae.jo v3)/\True
def ae.jo:List ae->Prop
 |[]=>True
 |t::r=>ae.Ok t/\ae.jo r
end
theorem ae.AI:∀l:List ae,ae.jo l↔∀x∈l,ae.Ok x
 |[]=>by simp[ae.jo]
 |t::r=>by simp[ae.jo,ae.AI r]
theorem ae.ok_eq(a:ae):a.Ok↔(I64 (a.Kind)/\I64 (a.Num)/\lu (a.Text)/\jC ae.Ok (a.Kids)/\True):=by
 cases a;simp only[ae.Ok,ae.AI,jC];exact qm
theorem af.qo(a:af)(h:∀m,Go.V.mQ m .Block a):a.Ok:=⟨(h 0).1,(h 0).2.1,trivial⟩
theorem aB.qo(a:aB)(h:∀m,Go.V.mQ m .dR a):a.Ok:=⟨(h 0).1,⟨((h 0).2.1).1,fun y hy=>af.qo y (fun m=>((h (m+1)).2.1).2 y hy)⟩,trivial⟩
mutual
theorem aa.qo:∀(a:aa),(∀m,Go.V.mQ m .Type a)->a.Ok
 |.mk v0 v1 v2 v3,h=>by
   simp only[aa.Ok];exact⟨(h 0).1,(h 0).2.1,⟨((h 0).2.2.1).1,fun y hy=>((fun m=>((h (m+1)).2.2.1).2 y hy) 0).1⟩,⟨((h 0).2.2.2.1).1,(aa.AK _ fun y hy m=>((h (m+1)).2.2.2.1).2 y hy)⟩,trivial⟩
theorem aa.AK:∀(l:List aa),(∀y∈l,∀m,Go.V.mQ m .Type y)->aa.jo l
 |[],_=>by simp only[aa.jo]
 |t::r,h=>by
  simp only[aa.jo];exact⟨aa.qo t (h t (by simp)),aa.AK r fun y hy=>h y (by simp[hy])⟩
end
mutual
theorem ae.qo:∀(a:ae),(∀m,Go.V.mQ m .Value a)->a.Ok
 |.mk v0 v1 v2 v3,h=>by
   simp only[ae.Ok];exact⟨(h 0).1,(h 0).2.1,(h 0).2.2.1,⟨((h 0).2.2.2.1).1,(ae.AK _ fun y hy m=>((h (m+1)).2.2.2.1).2 y hy)⟩,trivial⟩
theorem ae.AK:∀(l:List ae),(∀y∈l,∀m,Go.V.mQ m .Value y)->ae.jo l
 |[],_=>by simp only[ae.jo]
 |t::r,h=>by
  simp only[ae.jo];exact⟨ae.qo t (h t (by simp)),ae.AK r fun y hy=>h y (by simp[hy])⟩
end
theorem ajd(a:List (List UInt8))(left:Int)(ok:jC lu a)(h0:0<=left)(h1:left<=1048576):M.wb a left=some (if(aR List.length a:Int)<=left then left-aR List.length a else -1):=by
 have hl:=ok.1;unfold M.wb;rw[wrap_i64 (by omega) (by omega)];refine JC (f:=List.length) (F:=M.tN  a) a left h0 h1 (fun g k l h2 h3 hk=>?_) (fun g l=>?_)
 ·have hn:k<2^62:=by omega
  rw[M.tN];have w:Go.IntKind.wrap .i64 (l-((a[k]).length:Int))=l-(a[k]).length:=wrap_i64 (by have:=ok.2 a[k] (bn hk);unfold lu at this;omega) (by omega);by_cases d:((a[k]).length:Int)<=l
  ·have n:¬(l-((a[k]).length:Int)<0):=by omega
   rw[av d];simp[hk,getD_lt hk,w,n,cm hk (show a.length<2^62 by omega)]
  ·have n:l-((a[k]).length:Int)<0:=by omega
   rw[an d];simp[hk,getD_lt hk,w,n]
 ·rw[M.tN];simp
theorem aje(a:List (List UInt8))(ha:aR List.length a<=1048576):M.wc a=some a:=by
 have hl:=ed List.length a;have hn:a.length<=1048576:=by omega
 have hi:(a.length:Int)<=1073741824:=by omega
 have q:∀z,z.length=a.length->M.ri  a Go.V.ah 0 z=some a:=EP (F:=M.ri  a) a (by omega) (fun f k out h1 h2 hk=>by
  rw[M.ri];simp[hk,h2,getD_lt hk,cm hk (gU hn)]) (fun f out=>by rw[M.ri];simp)
 unfold M.wc;rw[q _ (by simp)];simp[hi]
theorem ajf(a:List (List UInt8))(ha:aR List.length a<=1048576):M.we a a=some true:=by
 have hl:=ed List.length a;have hn:a.length<=1048576:=by omega
 unfold M.we;refine ER (F:=M.tU  a a) a hn (fun f k hk=>?_) (fun f=>?_)
 ·rw[M.tU];simp[hk,getD_lt hk,cm hk (gU hn)]
 ·rw[M.tU];simp
theorem ajg(a:af)(h:a.sz<=1048576):M.AH a=some a:=by
 unfold M.AH;have hs:=af.dW a
 try simp only[aa.aP,ae.aP]
 try simp[]
theorem ajh(a:af)(h:a.sz<=1048576):M.x9 a a=some true:=by
 unfold M.x9;have hs:=af.dW a
 try simp only[aa.aP,ae.aP]
 try simp[]
theorem aji(a:List af)(left:Int)(ok:jC af.Ok a)(h0:0<=left)(h1:left<=1048576):M.xR a left=some (if(aR af.sz a:Int)<=left then left-aR af.sz a else -1):=by
 have hl:=ok.1;unfold M.xR;rw[wrap_i64 (by omega) (by omega)];exact ajj (f:=af.sz) (fun _=>rfl) a left h0
theorem ajk(a:List af)(ha:aR af.sz a<=1048576):M.xW a=some a:=by
 have hl:=ed af.sz a;have hn:a.length<=1048576:=by omega
 have hi:(a.length:Int)<=1073741824:=by omega
 have q:∀z,z.length=a.length->M.sx  a Go.V.ah 0 z=some a:=EP (F:=M.sx  a) a (by omega) (fun f k out h1 h2 hk=>by
  rw[M.sx];have e:=ajg a[k] (by have:=ij af.sz a a[k] (bn hk);omega);simp[hk,h2,getD_lt hk,e,cm hk (gU hn),aa.aP,ae.aP]) (fun f out=>by rw[M.sx];simp)
 unfold M.xW;rw[q _ (by simp)];simp[hi]
theorem ajl(a:List af)(ha:aR af.sz a<=1048576):M.ya a a=some true:=by
 have hl:=ed af.sz a;have hn:a.length<=1048576:=by omega
 unfold M.ya;refine ER (F:=M.uQ  a a) a hn (fun f k hk=>?_) (fun f=>?_)
 ·rw[M.uQ];have e:=ajh a[k] (by have:=ij af.sz a a[k] (bn hk);omega);simp[hk,getD_lt hk,e,cm hk (gU hn),aa.aP,ae.aP]
 ·rw[M.uQ];simp
theorem ajm(a:aB)(left:Int)(ok:a.Ok)(h0:0<=left)(h1:left<=1048576):M.xU a left=some (if(a.sz:Int)<=left then left-a.sz else -1):=by
 unfold M.xU;have hs:=aB.dW a;have ok1:=(aB.ok_eq a).1 ok
 try simp only[aa.aP,ae.aP]
 have e0:Go.IntKind.wrap .i64 (left-((a.Bytes).length:Int))=left-((a.Bytes).length:Int):=wrap_i64 (by have:=ok1.1;unfold lu at this;omega) (by omega);by_cases c0:(((a.Bytes).length:Nat):Int)<=left
 ·skip
  have n0:¬(left-(((a.Bytes).length:Nat):Int)<0):=by omega
  have e1:=aji (a.Free) (left-(((a.Bytes).length:Nat):Int)) ok1.2.1 (by omega) (by omega);by_cases c1:((aR af.sz (a.Free):Nat):Int)<=left-(((a.Bytes).length:Nat):Int)
  ·rw[av c1]at e1;have n1:¬(left-(((a.Bytes).length:Nat):Int)-((aR af.sz (a.Free):Nat):Int)<0):=by omega
   have q:(a.sz:Int)<=left:=by rw[hs]<;>push_cast<;>omega
   have q2:left-(a.sz:Int)=left-(((a.Bytes).length:Nat):Int)-((aR af.sz (a.Free):Nat):Int):=by rw[hs]<;>push_cast<;>omega
   rw[av q,q2];simp[e0,n0,e1,n1]
  ·rw[an c1]at e1;have q:¬((a.sz:Int)<=left):=by rw[hs]<;>push_cast<;>omega
   rw[an q];simp[e0,n0,e1]
 ·have n0:left-(((a.Bytes).length:Nat):Int)<0:=by omega
  have q:¬((a.sz:Int)<=left):=by rw[hs]<;>push_cast<;>omega
  rw[an q];simp[e0,n0]
theorem ajn(a:aB)(h:a.sz<=1048576):M.xX a=some (a.Bytes,a.Free):=by
 unfold M.xX;have hs:=aB.dW a
 try simp only[aa.aP,ae.aP]
 have e1:=ajk (a.Free) (by omega)
 try simp[e1]
theorem Ww(a:aB)(h:a.sz<=1048576):M.qk a a=some true:=by
 unfold M.qk;have hs:=aB.dW a
 try simp only[aa.aP,ae.aP]
 have e1:=ajl (a.Free) (by omega)
 try simp[e1]
theorem Wx(r:aa->Int->Option Int)(a:List aa)(left:Int)(ok:jC aa.Ok a)(h0:0<=left)(h1:left<=1048576)(hr:∀x l,x∈a->0<=l->l<left->r x l=some (if(x.sz:Int)<=l then l-x.sz else -1)):M.pB r a left=some (if(aR aa.sz a:Int)<=left then left-aR aa.sz a else -1):=by
 have hl:=ok.1;unfold M.pB;rw[wrap_i64 (by omega) (by omega)];refine JC (f:=aa.sz) (F:=M.pA r  a) a left h0 h1 (fun g k l h2 h3 hk=>?_) (fun g l=>?_)
 ·have hn:k<2^62:=by omega
  rw[M.pA];have e:=hr a[k] l (bn hk) h2 (by omega);by_cases d:((aa.sz a[k]:Nat):Int)<=l
  ·have n:¬(l-((aa.sz a[k]:Nat):Int)<0):=by omega
   rw[av d]at e⊢;simp[hk,getD_lt hk,e,n,cm hk (show a.length<2^62 by omega),aa.aP,ae.aP]
  ·rw[an d]at e⊢;simp[hk,getD_lt hk,e,aa.aP,ae.aP]
 ·rw[M.pA];simp
theorem Wy(r:aa->Option (Int×(List UInt8)×(List (List UInt8))×(List aa)))(a:List aa)(ha:a.length<=1048576)(hr:∀x∈a,r x=some (x.Kind,x.Name,x.bu,x.Kids)):M.pC r a=some a:=by
 have hn:a.length<=1048576:=by omega
 have hi:(a.length:Int)<=1073741824:=by omega
 have q:∀z,z.length=a.length->M.nB r  a Go.V.ah 0 z=some a:=EP (F:=M.nB r  a) a (by omega) (fun f k out h1 h2 hk=>by
  rw[M.nB];have e:=hr a[k] (bn hk);simp[hk,h2,getD_lt hk,e,cm hk (gU hn),aa.aP,ae.aP,aa.eta]) (fun f out=>by rw[M.nB];simp)
 unfold M.pC;rw[q _ (by simp)];simp[hi]
theorem WA(r:aa->aa->Option Bool)(a:List aa)(ha:a.length<=1048576)(hr:∀x∈a,r x x=some true):M.pE r a a=some true:=by
 have hn:a.length<=1048576:=by omega
 unfold M.pE;refine ER (F:=M.pD r  a a) a hn (fun f k hk=>?_) (fun f=>?_)
 ·rw[M.pD];have e:=hr a[k] (bn hk);simp[hk,getD_lt hk,e,cm hk (gU hn),aa.aP,ae.aP]
 ·rw[M.pD];simp
theorem WB:∀(n:Nat)(a:aa)(left:Int),a.Ok->0<=left->left<n->left<=1048576->M.tO n a left=some (if(a.sz:Int)<=left then left-a.sz else -1)
 |0,a,left,ok,h0,h2,h1=>by omega
 |n+1,a,left,ok,h0,h2,h1=>by
  show M.zz (M.tO n) a left=_
  unfold M.zz;have hs:=aa.dW a;have ok1:=(aa.ok_eq a).1 ok
  try simp only[aa.aP,ae.aP]
  have e0:Go.IntKind.wrap .i64 (left-((a.Name).length:Int))=left-((a.Name).length:Int):=wrap_i64 (by have:=ok1.2.1;unfold lu at this;omega) (by omega);by_cases c0:(((a.Name).length:Nat):Int)<=left
  ·skip
   have n0:¬(left-(((a.Name).length:Nat):Int)<0):=by omega
   have e1:=ajd (a.bu) (left-(((a.Name).length:Nat):Int)) ok1.2.2.1 (by omega) (by omega);by_cases c1:((aR List.length (a.bu):Nat):Int)<=left-(((a.Name).length:Nat):Int)
   ·rw[av c1]at e1;have n1:¬(left-(((a.Name).length:Nat):Int)-((aR List.length (a.bu):Nat):Int)<0):=by omega
    have e2:=Wx (M.tO n) (a.Kids) (left-(((a.Name).length:Nat):Int)-((aR List.length (a.bu):Nat):Int)) ok1.2.2.2.1 (by omega) (by omega) (fun x l hx q0 q1=>WB n x l ((ok1.2.2.2.1).2 x hx) q0 (by omega) (by omega));by_cases c2:((aR aa.sz (a.Kids):Nat):Int)<=left-(((a.Name).length:Nat):Int)-((aR List.length (a.bu):Nat):Int)
    ·rw[av c2]at e2;have n2:¬(left-(((a.Name).length:Nat):Int)-((aR List.length (a.bu):Nat):Int)-((aR aa.sz (a.Kids):Nat):Int)<0):=by omega
     have q:(a.sz:Int)<=left:=by rw[hs]<;>push_cast<;>omega
     have q2:left-(a.sz:Int)=left-(((a.Name).length:Nat):Int)-((aR List.length (a.bu):Nat):Int)-((aR aa.sz (a.Kids):Nat):Int):=by rw[hs]<;>push_cast<;>omega
     rw[av q,q2];simp[e0,n0,e1,n1,e2,n2]
    ·rw[an c2]at e2;have q:¬((a.sz:Int)<=left):=by rw[hs]<;>push_cast<;>omega
     rw[an q];simp[e0,n0,e1,n1,e2]
   ·rw[an c1]at e1;have q:¬((a.sz:Int)<=left):=by rw[hs]<;>push_cast<;>omega
    rw[an q];simp[e0,n0,e1]
  ·have n0:left-(((a.Name).length:Nat):Int)<0:=by omega
   have q:¬((a.sz:Int)<=left):=by rw[hs]<;>push_cast<;>omega
   rw[an q];simp[e0,n0]
theorem ajo(a:aa)(left:Int)(ok:a.Ok)(h0:0<=left)(h1:left<=1048576):M.tP a left=some (if(a.sz:Int)<=left then left-a.sz else -1):=
 WB _ a left ok h0 (by have:=Go.V.cC;omega) h1
theorem ajp(a:List aa)(left:Int)(ok:jC aa.Ok a)(h0:0<=left)(h1:left<=1048576):M.pB M.tP a left=some (if(aR aa.sz a:Int)<=left then left-aR aa.sz a else -1):=
 Wx _ a left ok h0 h1 fun x l hx q0 q1=>ajo x l (ok.2 x hx) q0 (by omega)
theorem WC:∀(n:Nat)(a:aa),a.sz<n->a.sz<=1048576->M.tQ n a=some (a.Kind,a.Name,a.bu,a.Kids)
 |0,a,h2,h=>by omega
 |n+1,a,h2,h=>by
  show M.zA (M.tQ n) a=_
  unfold M.zA;have hs:=aa.dW a
  try simp only[aa.aP,ae.aP]
  have e2:=aje (a.bu) (by omega);have hk3:=ed aa.sz (a.Kids);have e3:=Wy (M.tQ n) (a.Kids) (by omega) (fun x hx=>WC n x (by have:=ij aa.sz (a.Kids) x hx;have:=j5 aa.sz (a.Kids) x hx;omega) (by have:=ij aa.sz (a.Kids) x hx;omega))
  try simp[e2,e3,aa.eta]
theorem ajq(a:aa)(h:a.sz<=1048576):M.tR a=some (a.Kind,a.Name,a.bu,a.Kids):=
 WC _ a (by have:=Go.V.cC;omega) h
theorem ajr(a:List aa)(ha:aR aa.sz a<=1048576):M.pC M.tR a=some a:=
 Wy _ a (by have:=ed aa.sz a;omega) fun x hx=>ajq x (by have:=ij aa.sz a x hx;omega)
theorem WE:∀(n:Nat)(a:aa),a.sz<n->a.sz<=1048576->M.tV n a a=some true
 |0,a,h2,h=>by omega
 |n+1,a,h2,h=>by
  show M.zB (M.tV n) a a=_
  unfold M.zB;have hs:=aa.dW a
  try simp only[aa.aP,ae.aP]
  have e2:=ajf (a.bu) (by omega);have hk3:=ed aa.sz (a.Kids);have e3:=WA (M.tV n) (a.Kids) (by omega) (fun x hx=>WE n x (by have:=ij aa.sz (a.Kids) x hx;have:=j5 aa.sz (a.Kids) x hx;omega) (by have:=ij aa.sz (a.Kids) x hx;omega))
  try simp[e2,e3,aa.eta]
theorem ajs(a:aa)(h:a.sz<=1048576):M.tW a a=some true:=
 WE _ a (by have:=Go.V.cC;omega) h
theorem ajt(a:List aa)(ha:aR aa.sz a<=1048576):M.pE M.tW a a=some true:=
 WA _ a (by have:=ed aa.sz a;omega) fun x hx=>ajs x (by have:=ij aa.sz a x hx;omega)
theorem WG(r:ae->Int->Option Int)(a:List ae)(left:Int)(ok:jC ae.Ok a)(h0:0<=left)(h1:left<=1048576)(hr:∀x l,x∈a->0<=l->l<left->r x l=some (if(x.sz:Int)<=l then l-x.sz else -1)):M.pU r a left=some (if(aR ae.sz a:Int)<=left then left-aR ae.sz a else -1):=by
 have hl:=ok.1;unfold M.pU;rw[wrap_i64 (by omega) (by omega)];refine JC (f:=ae.sz) (F:=M.pT r  a) a left h0 h1 (fun g k l h2 h3 hk=>?_) (fun g l=>?_)
 ·have hn:k<2^62:=by omega
  rw[M.pT];have e:=hr a[k] l (bn hk) h2 (by omega);by_cases d:((ae.sz a[k]:Nat):Int)<=l
  ·have n:¬(l-((ae.sz a[k]:Nat):Int)<0):=by omega
   rw[av d]at e⊢;simp[hk,getD_lt hk,e,n,cm hk (show a.length<2^62 by omega),aa.aP,ae.aP]
  ·rw[an d]at e⊢;simp[hk,getD_lt hk,e,aa.aP,ae.aP]
 ·rw[M.pT];simp
theorem WH(r:ae->Option (Int×Int×(List UInt8)×(List ae)))(a:List ae)(ha:a.length<=1048576)(hr:∀x∈a,r x=some (x.Kind,x.Num,x.Text,x.Kids)):M.pV r a=some a:=by
 have hn:a.length<=1048576:=by omega
 have hi:(a.length:Int)<=1073741824:=by omega
 have q:∀z,z.length=a.length->M.nQ r  a Go.V.ah 0 z=some a:=EP (F:=M.nQ r  a) a (by omega) (fun f k out h1 h2 hk=>by
  rw[M.nQ];have e:=hr a[k] (bn hk);simp[hk,h2,getD_lt hk,e,cm hk (gU hn),aa.aP,ae.aP,ae.eta]) (fun f out=>by rw[M.nQ];simp)
 unfold M.pV;rw[q _ (by simp)];simp[hi]
theorem WI(r:ae->ae->Option Bool)(a:List ae)(ha:a.length<=1048576)(hr:∀x∈a,r x x=some true):M.pz r a a=some true:=by
 have hn:a.length<=1048576:=by omega
 unfold M.pz;refine ER (F:=M.py r  a a) a hn (fun f k hk=>?_) (fun f=>?_)
 ·rw[M.py];have e:=hr a[k] (bn hk);simp[hk,getD_lt hk,e,cm hk (gU hn),aa.aP,ae.aP]
 ·rw[M.py];simp
theorem WJ:∀(n:Nat)(a:ae)(left:Int),a.Ok->0<=left->left<n->left<=1048576->M.ux n a left=some (if(a.sz:Int)<=left then left-a.sz else -1)
 |0,a,left,ok,h0,h2,h1=>by omega
 |n+1,a,left,ok,h0,h2,h1=>by
  show M.zX (M.ux n) a left=_
  unfold M.zX;have hs:=ae.dW a;have ok1:=(ae.ok_eq a).1 ok
  try simp only[aa.aP,ae.aP]
  have e0:Go.IntKind.wrap .i64 (left-((a.Text).length:Int))=left-((a.Text).length:Int):=wrap_i64 (by have:=ok1.2.2.1;unfold lu at this;omega) (by omega);by_cases c0:(((a.Text).length:Nat):Int)<=left
  ·skip
   have n0:¬(left-(((a.Text).length:Nat):Int)<0):=by omega
   have e1:=WG (M.ux n) (a.Kids) (left-(((a.Text).length:Nat):Int)) ok1.2.2.2.1 (by omega) (by omega) (fun x l hx q0 q1=>WJ n x l ((ok1.2.2.2.1).2 x hx) q0 (by omega) (by omega));by_cases c1:((aR ae.sz (a.Kids):Nat):Int)<=left-(((a.Text).length:Nat):Int)
   ·rw[av c1]at e1;have n1:¬(left-(((a.Text).length:Nat):Int)-((aR ae.sz (a.Kids):Nat):Int)<0):=by omega
    have q:(a.sz:Int)<=left:=by rw[hs]<;>push_cast<;>omega
    have q2:left-(a.sz:Int)=left-(((a.Text).length:Nat):Int)-((aR ae.sz (a.Kids):Nat):Int):=by rw[hs]<;>push_cast<;>omega
    rw[av q,q2];simp[e0,n0,e1,n1]
   ·rw[an c1]at e1;have q:¬((a.sz:Int)<=left):=by rw[hs]<;>push_cast<;>omega
    rw[an q];simp[e0,n0,e1]
  ·have n0:left-(((a.Text).length:Nat):Int)<0:=by omega
   have q:¬((a.sz:Int)<=left):=by rw[hs]<;>push_cast<;>omega
   rw[an q];simp[e0,n0]
theorem aju(a:ae)(left:Int)(ok:a.Ok)(h0:0<=left)(h1:left<=1048576):M.uy a left=some (if(a.sz:Int)<=left then left-a.sz else -1):=
 WJ _ a left ok h0 (by have:=Go.V.cC;omega) h1
theorem ajv(a:List ae)(left:Int)(ok:jC ae.Ok a)(h0:0<=left)(h1:left<=1048576):M.pU M.uy a left=some (if(aR ae.sz a:Int)<=left then left-aR ae.sz a else -1):=
 WG _ a left ok h0 h1 fun x l hx q0 q1=>aju x l (ok.2 x hx) q0 (by omega)
theorem WL:∀(n:Nat)(a:ae),a.sz<n->a.sz<=1048576->M.uz n a=some (a.Kind,a.Num,a.Text,a.Kids)
 |0,a,h2,h=>by omega
 |n+1,a,h2,h=>by
  show M.zY (M.uz n) a=_
  unfold M.zY;have hs:=ae.dW a
  try simp only[aa.aP,ae.aP]
  have hk3:=ed ae.sz (a.Kids);have e3:=WH (M.uz n) (a.Kids) (by omega) (fun x hx=>WL n x (by have:=ij ae.sz (a.Kids) x hx;have:=j5 ae.sz (a.Kids) x hx;omega) (by have:=ij ae.sz (a.Kids) x hx;omega))
  try simp[e3,ae.eta]
theorem ajw(a:ae)(h:a.sz<=1048576):M.uA a=some (a.Kind,a.Num,a.Text,a.Kids):=
 WL _ a (by have:=Go.V.cC;omega) h
theorem ajx(a:List ae)(ha:aR ae.sz a<=1048576):M.pV M.uA a=some a:=
 WH _ a (by have:=ed ae.sz a;omega) fun x hx=>ajw x (by have:=ij ae.sz a x hx;omega)
theorem WM:∀(n:Nat)(a:ae),a.sz<n->a.sz<=1048576->M.tH n a a=some true
 |0,a,h2,h=>by omega
 |n+1,a,h2,h=>by
  show M.zy (M.tH n) a a=_
  unfold M.zy;have hs:=ae.dW a
  try simp only[aa.aP,ae.aP]
  have hk3:=ed ae.sz (a.Kids);have e3:=WI (M.tH n) (a.Kids) (by omega) (fun x hx=>WM n x (by have:=ij ae.sz (a.Kids) x hx;have:=j5 ae.sz (a.Kids) x hx;omega) (by have:=ij ae.sz (a.Kids) x hx;omega))
  try simp[e3,ae.eta]
theorem ajy(a:ae)(h:a.sz<=1048576):M.tI a a=some true:=
 WM _ a (by have:=Go.V.cC;omega) h
theorem ajz(a:List ae)(ha:aR ae.sz a<=1048576):M.pz M.tI a a=some true:=
 WI _ a (by have:=ed ae.sz a;omega) fun x hx=>ajy x (by have:=ij ae.sz a x hx;omega)
end M
