/-
  Part of the proof of the claim.
-/
import Derived.Test.YtalddlopgnfpaaaGreatDoorXIGM
import Derived.Test.YtalddlopgnfpaaaGreatDoorXIlaw
import Derived.Test.YtalddlopgnfpaaaGreatDoorXIpl
set_option linter.unusedVariables false
set_option linter.unusedSimpArgs false
namespace M
def j4(s:List UInt8):Prop:=s.length<=9223372036854775807
def kz{α:Type}(p:α->Prop)(l:List α):Prop:=l.length<=9223372036854775807/\∀x∈l,p x
def af.sz(a:af):Nat:=0
theorem af.dL(a:af):a.sz=0:=rfl
def af.Ok(a:af):Prop:=I64 (a.At)/\I64 (a.Size)/\True
theorem af.ok_eq(a:af):a.Ok↔(I64 (a.At)/\I64 (a.Size)/\True):=oh
def ax.sz(a:ax):Nat:=(a.Bytes).length+bc af.sz (a.Free)
theorem ax.dL(a:ax):a.sz=(a.Bytes).length+bc af.sz (a.Free):=rfl
def ax.Ok(a:ax):Prop:=j4 (a.Bytes)/\kz af.Ok (a.Free)/\True
theorem ax.ok_eq(a:ax):a.Ok↔(j4 (a.Bytes)/\kz af.Ok (a.Free)/\True):=oh
mutual
def aa.sz:aa->Nat
 |.mk v0 v1 v2 v3=>(v1).length+bc List.length (v2)+aa.oi v3
def aa.oi:List aa->Nat
 |[]=>0
 |t::r=>aa.sz t+1+aa.oi r
end
theorem aa.rX:∀l:List aa,aa.oi l=bc aa.sz l
 |[]=>rfl
 |t::r=>by simp only[aa.oi,bc,aa.rX r]
theorem aa.dL(a:aa):a.sz=(a.Name).length+bc List.length (a.bm)+bc aa.sz (a.Kids):=by cases a;simp only[aa.sz,aa.rX];rfl
mutual
def aa.Ok:aa->Prop
 |.mk v0 v1 v2 v3=>I64 (v0)/\j4 (v1)/\kz j4 (v2)/\(v3.length<=9223372036854775807/\aa.ix v3)/\True
def aa.ix:List aa->Prop
 |[]=>True
 |t::r=>aa.Ok t/\aa.ix r
end
theorem aa.xp:∀l:List aa,aa.ix l↔∀x∈l,aa.Ok x
 |[]=>by simp[aa.ix]
 |t::r=>by simp[aa.ix,aa.xp r]
theorem aa.ok_eq(a:aa):a.Ok↔(I64 (a.Kind)/\j4 (a.Name)/\kz j4 (a.bm)/\kz aa.Ok (a.Kids)/\True):=by
 cases a;simp only[aa.Ok,aa.xp,kz];exact oh
mutual
def ae.sz:ae->Nat
 |.mk v0 v1 v2 v3=>(v2).length+ae.oi v3
def ae.oi:List ae->Nat
 |[]=>0
 |t::r=>ae.sz t+1+ae.oi r
end
theorem ae.rX:∀l:List ae,ae.oi l=bc ae.sz l
 |[]=>rfl
 |t::r=>by simp only[ae.oi,bc,ae.rX r]
theorem ae.dL(a:ae):a.sz=(a.Text).length+bc ae.sz (a.Kids):=by cases a;simp only[ae.sz,ae.rX];rfl
mutual
def ae.Ok:ae->Prop
 |.mk v0 v1 v2 v3=>I64 (v0)/\I64 (v1)/\j4 (v2)/\(v3.length<=9223372036854775807/\ae.ix v3)/\True
def ae.ix:List ae->Prop
 |[]=>True
 |t::r=>ae.Ok t/\ae.ix r
end
theorem ae.xp:∀l:List ae,ae.ix l↔∀x∈l,ae.Ok x
 |[]=>by simp[ae.ix]
 |t::r=>by simp[ae.ix,ae.xp r]
theorem ae.ok_eq(a:ae):a.Ok↔(I64 (a.Kind)/\I64 (a.Num)/\j4 (a.Text)/\kz ae.Ok (a.Kids)/\True):=by
 cases a;simp only[ae.Ok,ae.xp,kz];exact oh
theorem af.oj(a:af)(h:∀m,Go.V.j5 m .Block a):a.Ok:=⟨(h 0).1,(h 0).2.1,trivial⟩
theorem ax.oj(a:ax)(h:∀m,Go.V.j5 m .dA a):a.Ok:=⟨(h 0).1,⟨((h 0).2.1).1,fun y hy=>af.oj y (fun m=>((h (m+1)).2.1).2 y hy)⟩,trivial⟩
mutual
theorem aa.oj:∀(a:aa),(∀m,Go.V.j5 m .Type a)->a.Ok
 |.mk v0 v1 v2 v3,h=>by
   simp only[aa.Ok];exact⟨(h 0).1,(h 0).2.1,⟨((h 0).2.2.1).1,fun y hy=>((fun m=>((h (m+1)).2.2.1).2 y hy) 0).1⟩,⟨((h 0).2.2.2.1).1,(aa.xq _ fun y hy m=>((h (m+1)).2.2.2.1).2 y hy)⟩,trivial⟩
theorem aa.xq:∀(l:List aa),(∀y∈l,∀m,Go.V.j5 m .Type y)->aa.ix l
 |[],_=>by simp only[aa.ix]
 |t::r,h=>by
  simp only[aa.ix];exact⟨aa.oj t (h t (by simp)),aa.xq r fun y hy=>h y (by simp[hy])⟩
end
mutual
theorem ae.oj:∀(a:ae),(∀m,Go.V.j5 m .Value a)->a.Ok
 |.mk v0 v1 v2 v3,h=>by
   simp only[ae.Ok];exact⟨(h 0).1,(h 0).2.1,(h 0).2.2.1,⟨((h 0).2.2.2.1).1,(ae.xq _ fun y hy m=>((h (m+1)).2.2.2.1).2 y hy)⟩,trivial⟩
theorem ae.xq:∀(l:List ae),(∀y∈l,∀m,Go.V.j5 m .Value y)->ae.ix l
 |[],_=>by simp only[ae.ix]
 |t::r,h=>by
  simp only[ae.ix];exact⟨ae.oj t (h t (by simp)),ae.xq r fun y hy=>h y (by simp[hy])⟩
end
theorem abW(a:List (List UInt8))(left:Int)(ok:kz j4 a)(h0:0<=left)(h1:left<=1048576):M.ti a left=some (if(bc List.length a:Int)<=left then left-bc List.length a else -1):=by
 have hl:=ok.1;unfold M.ti;rw[wrap_i64 (by omega) (by omega)];refine Ff (f:=List.length) (F:=M.qX  a) a left h0 h1 (fun g k l h2 h3 hk=>?_) (fun g l=>?_)
 ·have hn:k<2^62:=by omega
  rw[M.qX];have w:Go.IntKind.wrap .i64 (l-((a[k]).length:Int))=l-(a[k]).length:=wrap_i64 (by have:=ok.2 a[k] (an hk);unfold j4 at this;omega) (by omega);by_cases d:((a[k]).length:Int)<=l
  ·have n:¬(l-((a[k]).length:Int)<0):=by omega
   rw[bG d];simp[hk,getD_lt hk,w,n,cq hk (show a.length<2^62 by omega)]
  ·have n:l-((a[k]).length:Int)<0:=by omega
   rw[bH d];simp[hk,getD_lt hk,w,n]
 ·rw[M.qX];simp
theorem abX(a:List (List UInt8))(ha:bc List.length a<=1048576):M.tn a=some a:=by
 have hl:=eR List.length a;have hn:a.length<=1048576:=by omega
 have hi:(a.length:Int)<=1073741824:=by omega
 have q:∀z,z.length=a.length->M.pq  a Go.V.ai 0 z=some a:=AK (F:=M.pq  a) a (by omega) (fun f k out h1 h2 hk=>by
  rw[M.pq];simp[hk,h2,getD_lt hk,cq hk (gJ hn)]) (fun f out=>by rw[M.pq];simp)
 unfold M.tn;rw[q _ (by simp)];simp[hi]
theorem abY(a:List (List UInt8))(ha:bc List.length a<=1048576):M.tq a a=some true:=by
 have hl:=eR List.length a;have hn:a.length<=1048576:=by omega
 unfold M.tq;refine AL (F:=M.rh  a a) a hn (fun f k hk=>?_) (fun f=>?_)
 ·rw[M.rh];simp[hk,getD_lt hk,cq hk (gJ hn)]
 ·rw[M.rh];simp
theorem abZ(a:af)(h:a.sz<=1048576):M.xo a=some a:=by
 unfold M.xo;have hs:=af.dL a
 try simp only[aa.aG,ae.aG]
 try simp[]
theorem ab1(a:af)(h:a.sz<=1048576):M.uY a a=some true:=by
 unfold M.uY;have hs:=af.dL a
 try simp only[aa.aG,ae.aG]
 try simp[]
theorem ab2(a:List af)(left:Int)(ok:kz af.Ok a)(h0:0<=left)(h1:left<=1048576):M.uU a left=some (if(bc af.sz a:Int)<=left then left-bc af.sz a else -1):=by
 have hl:=ok.1;unfold M.uU;rw[wrap_i64 (by omega) (by omega)];exact ab3 (f:=af.sz) (fun _=>rfl) a left h0
theorem ab4(a:List af)(ha:bc af.sz a<=1048576):M.uW a=some a:=by
 have hl:=eR af.sz a;have hn:a.length<=1048576:=by omega
 have hi:(a.length:Int)<=1073741824:=by omega
 have q:∀z,z.length=a.length->M.qb  a Go.V.ai 0 z=some a:=AK (F:=M.qb  a) a (by omega) (fun f k out h1 h2 hk=>by
  rw[M.qb];have e:=abZ a[k] (by have:=jg af.sz a a[k] (an hk);omega);simp[hk,h2,getD_lt hk,e,cq hk (gJ hn),aa.aG,ae.aG]) (fun f out=>by rw[M.qb];simp)
 unfold M.uW;rw[q _ (by simp)];simp[hi]
theorem ab5(a:List af)(ha:bc af.sz a<=1048576):M.uZ a a=some true:=by
 have hl:=eR af.sz a;have hn:a.length<=1048576:=by omega
 unfold M.uZ;refine AL (F:=M.rS  a a) a hn (fun f k hk=>?_) (fun f=>?_)
 ·rw[M.rS];have e:=ab1 a[k] (by have:=jg af.sz a a[k] (an hk);omega);simp[hk,getD_lt hk,e,cq hk (gJ hn),aa.aG,ae.aG]
 ·rw[M.rS];simp
theorem ab6(a:ax)(left:Int)(ok:a.Ok)(h0:0<=left)(h1:left<=1048576):M.uV a left=some (if(a.sz:Int)<=left then left-a.sz else -1):=by
 unfold M.uV;have hs:=ax.dL a;have ok1:=(ax.ok_eq a).1 ok
 try simp only[aa.aG,ae.aG]
 have e0:Go.IntKind.wrap .i64 (left-((a.Bytes).length:Int))=left-((a.Bytes).length:Int):=wrap_i64 (by have:=ok1.1;unfold j4 at this;omega) (by omega);by_cases c0:(((a.Bytes).length:Nat):Int)<=left
 ·skip
  have n0:¬(left-(((a.Bytes).length:Nat):Int)<0):=by omega
  have e1:=ab2 (a.Free) (left-(((a.Bytes).length:Nat):Int)) ok1.2.1 (by omega) (by omega);by_cases c1:((bc af.sz (a.Free):Nat):Int)<=left-(((a.Bytes).length:Nat):Int)
  ·rw[bG c1]at e1;have n1:¬(left-(((a.Bytes).length:Nat):Int)-((bc af.sz (a.Free):Nat):Int)<0):=by omega
   have q:(a.sz:Int)<=left:=by rw[hs]<;>push_cast<;>omega
   have q2:left-(a.sz:Int)=left-(((a.Bytes).length:Nat):Int)-((bc af.sz (a.Free):Nat):Int):=by rw[hs]<;>push_cast<;>omega
   rw[bG q,q2];simp[e0,n0,e1,n1]
  ·rw[bH c1]at e1;have q:¬((a.sz:Int)<=left):=by rw[hs]<;>push_cast<;>omega
   rw[bH q];simp[e0,n0,e1]
 ·have n0:left-(((a.Bytes).length:Nat):Int)<0:=by omega
  have q:¬((a.sz:Int)<=left):=by rw[hs]<;>push_cast<;>omega
  rw[bH q];simp[e0,n0]
theorem ab7(a:ax)(h:a.sz<=1048576):M.uX a=some (a.Bytes,a.Free):=by
 unfold M.uX;have hs:=ax.dL a
 try simp only[aa.aG,ae.aG]
 have e1:=ab4 (a.Free) (by omega)
 try simp[e1]
theorem P1(a:ax)(h:a.sz<=1048576):M.od a a=some true:=by
 unfold M.od;have hs:=ax.dL a
 try simp only[aa.aG,ae.aG]
 have e1:=ab5 (a.Free) (by omega)
 try simp[e1]
theorem ab8(r:aa->Int->Option Int)(a:List aa)(left:Int)(ok:kz aa.Ok a)(h0:0<=left)(h1:left<=1048576)(hr:∀x l,x∈a->0<=l->l<left->r x l=some (if(x.sz:Int)<=l then l-x.sz else -1)):M.tj r a left=some (if(bc aa.sz a:Int)<=left then left-bc aa.sz a else -1):=by
 have hl:=ok.1;unfold M.tj;rw[wrap_i64 (by omega) (by omega)];refine Ff (f:=aa.sz) (F:=M.qY r  a) a left h0 h1 (fun g k l h2 h3 hk=>?_) (fun g l=>?_)
 ·have hn:k<2^62:=by omega
  rw[M.qY];have e:=hr a[k] l (an hk) h2 (by omega);by_cases d:((aa.sz a[k]:Nat):Int)<=l
  ·have n:¬(l-((aa.sz a[k]:Nat):Int)<0):=by omega
   rw[bG d]at e⊢;simp[hk,getD_lt hk,e,n,cq hk (show a.length<2^62 by omega),aa.aG,ae.aG]
  ·rw[bH d]at e⊢;simp[hk,getD_lt hk,e,aa.aG,ae.aG]
 ·rw[M.qY];simp
theorem ab9(r:aa->Option (Int×(List UInt8)×(List (List UInt8))×(List aa)))(a:List aa)(ha:a.length<=1048576)(hr:∀x∈a,r x=some (x.Kind,x.Name,x.bm,x.Kids)):M.tp r a=some a:=by
 have hn:a.length<=1048576:=by omega
 have hi:(a.length:Int)<=1073741824:=by omega
 have q:∀z,z.length=a.length->M.pr r  a Go.V.ai 0 z=some a:=AK (F:=M.pr r  a) a (by omega) (fun f k out h1 h2 hk=>by
  rw[M.pr];have e:=hr a[k] (an hk);simp[hk,h2,getD_lt hk,e,cq hk (gJ hn),aa.aG,ae.aG,aa.eta]) (fun f out=>by rw[M.pr];simp)
 unfold M.tp;rw[q _ (by simp)];simp[hi]
theorem aca(r:aa->aa->Option Bool)(a:List aa)(ha:a.length<=1048576)(hr:∀x∈a,r x x=some true):M.tr r a a=some true:=by
 have hn:a.length<=1048576:=by omega
 unfold M.tr;refine AL (F:=M.ri r  a a) a hn (fun f k hk=>?_) (fun f=>?_)
 ·rw[M.ri];have e:=hr a[k] (an hk);simp[hk,getD_lt hk,e,cq hk (gJ hn),aa.aG,ae.aG]
 ·rw[M.ri];simp
theorem P2:∀(n:Nat)(a:aa)(left:Int),a.Ok->0<=left->left<n->left<=1048576->M.qZ n a left=some (if(a.sz:Int)<=left then left-a.sz else -1)
 |0,a,left,ok,h0,h2,h1=>by omega
 |n+1,a,left,ok,h0,h2,h1=>by
  show M.wz (M.qZ n) a left=_
  unfold M.wz;have hs:=aa.dL a;have ok1:=(aa.ok_eq a).1 ok
  try simp only[aa.aG,ae.aG]
  have e0:Go.IntKind.wrap .i64 (left-((a.Name).length:Int))=left-((a.Name).length:Int):=wrap_i64 (by have:=ok1.2.1;unfold j4 at this;omega) (by omega);by_cases c0:(((a.Name).length:Nat):Int)<=left
  ·skip
   have n0:¬(left-(((a.Name).length:Nat):Int)<0):=by omega
   have e1:=abW (a.bm) (left-(((a.Name).length:Nat):Int)) ok1.2.2.1 (by omega) (by omega);by_cases c1:((bc List.length (a.bm):Nat):Int)<=left-(((a.Name).length:Nat):Int)
   ·rw[bG c1]at e1;have n1:¬(left-(((a.Name).length:Nat):Int)-((bc List.length (a.bm):Nat):Int)<0):=by omega
    have e2:=ab8 (M.qZ n) (a.Kids) (left-(((a.Name).length:Nat):Int)-((bc List.length (a.bm):Nat):Int)) ok1.2.2.2.1 (by omega) (by omega) (fun x l hx q0 q1=>P2 n x l ((ok1.2.2.2.1).2 x hx) q0 (by omega) (by omega));by_cases c2:((bc aa.sz (a.Kids):Nat):Int)<=left-(((a.Name).length:Nat):Int)-((bc List.length (a.bm):Nat):Int)
    ·rw[bG c2]at e2;have n2:¬(left-(((a.Name).length:Nat):Int)-((bc List.length (a.bm):Nat):Int)-((bc aa.sz (a.Kids):Nat):Int)<0):=by omega
     have q:(a.sz:Int)<=left:=by rw[hs]<;>push_cast<;>omega
     have q2:left-(a.sz:Int)=left-(((a.Name).length:Nat):Int)-((bc List.length (a.bm):Nat):Int)-((bc aa.sz (a.Kids):Nat):Int):=by rw[hs]<;>push_cast<;>omega
     rw[bG q,q2];simp[e0,n0,e1,n1,e2,n2]
    ·rw[bH c2]at e2;have q:¬((a.sz:Int)<=left):=by rw[hs]<;>push_cast<;>omega
     rw[bH q];simp[e0,n0,e1,n1,e2]
   ·rw[bH c1]at e1;have q:¬((a.sz:Int)<=left):=by rw[hs]<;>push_cast<;>omega
    rw[bH q];simp[e0,n0,e1]
  ·have n0:left-(((a.Name).length:Nat):Int)<0:=by omega
   have q:¬((a.sz:Int)<=left):=by rw[hs]<;>push_cast<;>omega
   rw[bH q];simp[e0,n0]
theorem acb(a:aa)(left:Int)(ok:a.Ok)(h0:0<=left)(h1:left<=1048576):M.yU a left=some (if(a.sz:Int)<=left then left-a.sz else -1):=
 P2 _ a left ok h0 (by have:=Go.V.cJ;omega) h1
theorem P3:∀(n:Nat)(a:aa),a.sz<n->a.sz<=1048576->M.rf n a=some (a.Kind,a.Name,a.bm,a.Kids)
 |0,a,h2,h=>by omega
 |n+1,a,h2,h=>by
  show M.wA (M.rf n) a=_
  unfold M.wA;have hs:=aa.dL a
  try simp only[aa.aG,ae.aG]
  have e2:=abX (a.bm) (by omega);have hk3:=eR aa.sz (a.Kids);have e3:=ab9 (M.rf n) (a.Kids) (by omega) (fun x hx=>P3 n x (by have:=jg aa.sz (a.Kids) x hx;have:=om aa.sz (a.Kids) x hx;omega) (by have:=jg aa.sz (a.Kids) x hx;omega))
  try simp[e2,e3,aa.eta]
theorem acd(a:aa)(h:a.sz<=1048576):M.yX a=some (a.Kind,a.Name,a.bm,a.Kids):=
 P3 _ a (by have:=Go.V.cJ;omega) h
theorem P4:∀(n:Nat)(a:aa),a.sz<n->a.sz<=1048576->M.rj n a a=some true
 |0,a,h2,h=>by omega
 |n+1,a,h2,h=>by
  show M.wB (M.rj n) a a=_
  unfold M.wB;have hs:=aa.dL a
  try simp only[aa.aG,ae.aG]
  have e2:=abY (a.bm) (by omega);have hk3:=eR aa.sz (a.Kids);have e3:=aca (M.rj n) (a.Kids) (by omega) (fun x hx=>P4 n x (by have:=jg aa.sz (a.Kids) x hx;have:=om aa.sz (a.Kids) x hx;omega) (by have:=jg aa.sz (a.Kids) x hx;omega))
  try simp[e2,e3,aa.eta]
theorem ace(a:aa)(h:a.sz<=1048576):M.y4 a a=some true:=
 P4 _ a (by have:=Go.V.cJ;omega) h
theorem acf(r:ae->Int->Option Int)(a:List ae)(left:Int)(ok:kz ae.Ok a)(h0:0<=left)(h1:left<=1048576)(hr:∀x l,x∈a->0<=l->l<left->r x l=some (if(x.sz:Int)<=l then l-x.sz else -1)):M.uk r a left=some (if(bc ae.sz a:Int)<=left then left-bc ae.sz a else -1):=by
 have hl:=ok.1;unfold M.uk;rw[wrap_i64 (by omega) (by omega)];refine Ff (f:=ae.sz) (F:=M.rH r  a) a left h0 h1 (fun g k l h2 h3 hk=>?_) (fun g l=>?_)
 ·have hn:k<2^62:=by omega
  rw[M.rH];have e:=hr a[k] l (an hk) h2 (by omega);by_cases d:((ae.sz a[k]:Nat):Int)<=l
  ·have n:¬(l-((ae.sz a[k]:Nat):Int)<0):=by omega
   rw[bG d]at e⊢;simp[hk,getD_lt hk,e,n,cq hk (show a.length<2^62 by omega),aa.aG,ae.aG]
  ·rw[bH d]at e⊢;simp[hk,getD_lt hk,e,aa.aG,ae.aG]
 ·rw[M.rH];simp
theorem acg(r:ae->Option (Int×Int×(List UInt8)×(List ae)))(a:List ae)(ha:a.length<=1048576)(hr:∀x∈a,r x=some (x.Kind,x.Num,x.Text,x.Kids)):M.um r a=some a:=by
 have hn:a.length<=1048576:=by omega
 have hi:(a.length:Int)<=1073741824:=by omega
 have q:∀z,z.length=a.length->M.pR r  a Go.V.ai 0 z=some a:=AK (F:=M.pR r  a) a (by omega) (fun f k out h1 h2 hk=>by
  rw[M.pR];have e:=hr a[k] (an hk);simp[hk,h2,getD_lt hk,e,cq hk (gJ hn),aa.aG,ae.aG,ae.eta]) (fun f out=>by rw[M.pR];simp)
 unfold M.um;rw[q _ (by simp)];simp[hi]
theorem ach(r:ae->ae->Option Bool)(a:List ae)(ha:a.length<=1048576)(hr:∀x∈a,r x x=some true):M.tg r a a=some true:=by
 have hn:a.length<=1048576:=by omega
 unfold M.tg;refine AL (F:=M.qV r  a a) a hn (fun f k hk=>?_) (fun f=>?_)
 ·rw[M.qV];have e:=hr a[k] (an hk);simp[hk,getD_lt hk,e,cq hk (gJ hn),aa.aG,ae.aG]
 ·rw[M.qV];simp
theorem P5:∀(n:Nat)(a:ae)(left:Int),a.Ok->0<=left->left<n->left<=1048576->M.rI n a left=some (if(a.sz:Int)<=left then left-a.sz else -1)
 |0,a,left,ok,h0,h2,h1=>by omega
 |n+1,a,left,ok,h0,h2,h1=>by
  show M.wY (M.rI n) a left=_
  unfold M.wY;have hs:=ae.dL a;have ok1:=(ae.ok_eq a).1 ok
  try simp only[aa.aG,ae.aG]
  have e0:Go.IntKind.wrap .i64 (left-((a.Text).length:Int))=left-((a.Text).length:Int):=wrap_i64 (by have:=ok1.2.2.1;unfold j4 at this;omega) (by omega);by_cases c0:(((a.Text).length:Nat):Int)<=left
  ·skip
   have n0:¬(left-(((a.Text).length:Nat):Int)<0):=by omega
   have e1:=acf (M.rI n) (a.Kids) (left-(((a.Text).length:Nat):Int)) ok1.2.2.2.1 (by omega) (by omega) (fun x l hx q0 q1=>P5 n x l ((ok1.2.2.2.1).2 x hx) q0 (by omega) (by omega));by_cases c1:((bc ae.sz (a.Kids):Nat):Int)<=left-(((a.Text).length:Nat):Int)
   ·rw[bG c1]at e1;have n1:¬(left-(((a.Text).length:Nat):Int)-((bc ae.sz (a.Kids):Nat):Int)<0):=by omega
    have q:(a.sz:Int)<=left:=by rw[hs]<;>push_cast<;>omega
    have q2:left-(a.sz:Int)=left-(((a.Text).length:Nat):Int)-((bc ae.sz (a.Kids):Nat):Int):=by rw[hs]<;>push_cast<;>omega
    rw[bG q,q2];simp[e0,n0,e1,n1]
   ·rw[bH c1]at e1;have q:¬((a.sz:Int)<=left):=by rw[hs]<;>push_cast<;>omega
    rw[bH q];simp[e0,n0,e1]
  ·have n0:left-(((a.Text).length:Nat):Int)<0:=by omega
   have q:¬((a.sz:Int)<=left):=by rw[hs]<;>push_cast<;>omega
   rw[bH q];simp[e0,n0]
theorem aci(a:ae)(left:Int)(ok:a.Ok)(h0:0<=left)(h1:left<=1048576):M.zO a left=some (if(a.sz:Int)<=left then left-a.sz else -1):=
 P5 _ a left ok h0 (by have:=Go.V.cJ;omega) h1
theorem P6:∀(n:Nat)(a:ae),a.sz<n->a.sz<=1048576->M.rJ n a=some (a.Kind,a.Num,a.Text,a.Kids)
 |0,a,h2,h=>by omega
 |n+1,a,h2,h=>by
  show M.wZ (M.rJ n) a=_
  unfold M.wZ;have hs:=ae.dL a
  try simp only[aa.aG,ae.aG]
  have hk3:=eR ae.sz (a.Kids);have e3:=acg (M.rJ n) (a.Kids) (by omega) (fun x hx=>P6 n x (by have:=jg ae.sz (a.Kids) x hx;have:=om ae.sz (a.Kids) x hx;omega) (by have:=jg ae.sz (a.Kids) x hx;omega))
  try simp[e3,ae.eta]
theorem acj(a:ae)(h:a.sz<=1048576):M.zQ a=some (a.Kind,a.Num,a.Text,a.Kids):=
 P6 _ a (by have:=Go.V.cJ;omega) h
theorem P7:∀(n:Nat)(a:ae),a.sz<n->a.sz<=1048576->M.qW n a a=some true
 |0,a,h2,h=>by omega
 |n+1,a,h2,h=>by
  show M.wy (M.qW n) a a=_
  unfold M.wy;have hs:=ae.dL a
  try simp only[aa.aG,ae.aG]
  have hk3:=eR ae.sz (a.Kids);have e3:=ach (M.qW n) (a.Kids) (by omega) (fun x hx=>P7 n x (by have:=jg ae.sz (a.Kids) x hx;have:=om ae.sz (a.Kids) x hx;omega) (by have:=jg ae.sz (a.Kids) x hx;omega))
  try simp[e3,ae.eta]
theorem ack(a:ae)(h:a.sz<=1048576):M.yR a a=some true:=
 P7 _ a (by have:=Go.V.cJ;omega) h
end M
