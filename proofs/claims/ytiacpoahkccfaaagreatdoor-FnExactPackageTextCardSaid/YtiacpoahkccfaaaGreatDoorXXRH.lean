/-
  Part of the proof of the claim.
-/
import Derived.Test.YtiacpoahkccfaaaGreatDoorXXRM
import Derived.Test.YtiacpoahkccfaaaGreatDoorXXlaw
import Derived.Test.YtiacpoahkccfaaaGreatDoorXXpl
set_option linter.unusedVariables false
set_option linter.unusedSimpArgs false
namespace M
def ee(s:List UInt8):Prop:=s.length<=9223372036854775807
def g9{α:Type}(p:α->Prop)(l:List α):Prop:=l.length<=9223372036854775807/\∀x∈l,p x
def bf.sz(a:bf):Nat:=(a.bo).length+(a.Name).length+(a.Version).length
theorem bf.cF(a:bf):a.sz=(a.bo).length+(a.Name).length+(a.Version).length:=rfl
def bf.Ok(a:bf):Prop:=ee (a.bo)/\ee (a.Name)/\ee (a.Version)/\True
theorem bf.ok_eq(a:bf):a.Ok↔(ee (a.bo)/\ee (a.Name)/\ee (a.Version)/\True):=ou
mutual
def aa.sz:aa->Nat
 |.mk v0 v1 v2 v3=>(v1).length+aW List.length (v2)+aa.Ie v3
def aa.Ie:List aa->Nat
 |[]=>0
 |t::r=>aa.sz t+1+aa.Ie r
end
theorem aa.acA:∀l:List aa,aa.Ie l=aW aa.sz l
 |[]=>rfl
 |t::r=>by simp only[aa.Ie,aW,aa.acA r]
theorem aa.cF(a:aa):a.sz=(a.Name).length+aW List.length (a.bj)+aW aa.sz (a.Kids):=by cases a;simp only[aa.sz,aa.acA];rfl
mutual
def aa.Ok:aa->Prop
 |.mk v0 v1 v2 v3=>I64 (v0)/\ee (v1)/\g9 ee (v2)/\(v3.length<=9223372036854775807/\aa.tX v3)/\True
def aa.tX:List aa->Prop
 |[]=>True
 |t::r=>aa.Ok t/\aa.tX r
end
theorem aa.acB:∀l:List aa,aa.tX l↔∀x∈l,aa.Ok x
 |[]=>by simp[aa.tX]
 |t::r=>by simp[aa.tX,aa.acB r]
theorem aa.ok_eq(a:aa):a.Ok↔(I64 (a.Kind)/\ee (a.Name)/\g9 ee (a.bj)/\g9 aa.Ok (a.Kids)/\True):=by
 cases a;simp only[aa.Ok,aa.acB,g9];exact ou
def ax.sz(a:ax):Nat:=(a.Name).length+(a.Term).sz
theorem ax.cF(a:ax):a.sz=(a.Name).length+(a.Term).sz:=rfl
def ax.Ok(a:ax):Prop:=ee (a.Name)/\aa.Ok (a.Term)/\True
theorem ax.ok_eq(a:ax):a.Ok↔(ee (a.Name)/\aa.Ok (a.Term)/\True):=ou
def aK.sz(a:aK):Nat:=(a.Name).length+(a.As).length
theorem aK.cF(a:aK):a.sz=(a.Name).length+(a.As).length:=rfl
def aK.Ok(a:aK):Prop:=ee (a.Name)/\ee (a.As)/\True
theorem aK.ok_eq(a:aK):a.Ok↔(ee (a.Name)/\ee (a.As)/\True):=ou
def ah.sz(a:ah):Nat:=(a.Name).length+(a.Term).sz+aW ax.sz (a.Params)+(a.From).sz+aW aK.sz (a.Uses)
theorem ah.cF(a:ah):a.sz=(a.Name).length+(a.Term).sz+aW ax.sz (a.Params)+(a.From).sz+aW aK.sz (a.Uses):=rfl
def ah.Ok(a:ah):Prop:=I64 (a.Kind)/\ee (a.Name)/\aa.Ok (a.Term)/\g9 ax.Ok (a.Params)/\True/\bf.Ok (a.From)/\g9 aK.Ok (a.Uses)/\True
theorem ah.ok_eq(a:ah):a.Ok↔(I64 (a.Kind)/\ee (a.Name)/\aa.Ok (a.Term)/\g9 ax.Ok (a.Params)/\True/\bf.Ok (a.From)/\g9 aK.Ok (a.Uses)/\True):=ou
def aE.sz(a:aE):Nat:=(a.Name).length+aW ah.sz (a.Items)
theorem aE.cF(a:aE):a.sz=(a.Name).length+aW ah.sz (a.Items):=rfl
def aE.Ok(a:aE):Prop:=ee (a.Name)/\g9 ah.Ok (a.Items)/\True
theorem aE.ok_eq(a:aE):a.Ok↔(ee (a.Name)/\g9 ah.Ok (a.Items)/\True):=ou
def aG.sz(a:aG):Nat:=(a.Path).sz
theorem aG.cF(a:aG):a.sz=(a.Path).sz:=rfl
def aG.Ok(a:aG):Prop:=I64 (a.Kind)/\bf.Ok (a.Path)/\True
theorem aG.ok_eq(a:aG):a.Ok↔(I64 (a.Kind)/\bf.Ok (a.Path)/\True):=ou
def aJ.sz(a:aJ):Nat:=(a.Name).length+aW aG.sz (a.Items)
theorem aJ.cF(a:aJ):a.sz=(a.Name).length+aW aG.sz (a.Items):=rfl
def aJ.Ok(a:aJ):Prop:=ee (a.Name)/\g9 aG.Ok (a.Items)/\True
theorem aJ.ok_eq(a:aJ):a.Ok↔(ee (a.Name)/\g9 aG.Ok (a.Items)/\True):=ou
def aA.sz(a:aA):Nat:=(a.Name).length+(a.Version).length+aW aE.sz (a.aF)+aW aJ.sz (a.Worlds)
theorem aA.cF(a:aA):a.sz=(a.Name).length+(a.Version).length+aW aE.sz (a.aF)+aW aJ.sz (a.Worlds):=rfl
def aA.Ok(a:aA):Prop:=ee (a.Name)/\ee (a.Version)/\g9 aE.Ok (a.aF)/\g9 aJ.Ok (a.Worlds)/\True
theorem aA.ok_eq(a:aA):a.Ok↔(ee (a.Name)/\ee (a.Version)/\g9 aE.Ok (a.aF)/\g9 aJ.Ok (a.Worlds)/\True):=ou
theorem bf.iY(a:bf)(h:∀m,Go.V.k9 m .Path a):a.Ok:=⟨(h 0).1,(h 0).2.1,(h 0).2.2.1,trivial⟩
mutual
theorem aa.iY:∀(a:aa),(∀m,Go.V.k9 m .Term a)->a.Ok
 |.mk v0 v1 v2 v3,h=>by
   simp only[aa.Ok];exact⟨(h 0).1,(h 0).2.1,⟨((h 0).2.2.1).1,fun y hy=>((fun m=>((h (m+1)).2.2.1).2 y hy) 0).1⟩,⟨((h 0).2.2.2.1).1,(aa.acC _ fun y hy m=>((h (m+1)).2.2.2.1).2 y hy)⟩,trivial⟩
theorem aa.acC:∀(l:List aa),(∀y∈l,∀m,Go.V.k9 m .Term y)->aa.tX l
 |[],_=>by simp only[aa.tX]
 |t::r,h=>by
  simp only[aa.tX];exact⟨aa.iY t (h t (by simp)),aa.acC r fun y hy=>h y (by simp[hy])⟩
end
theorem ax.iY(a:ax)(h:∀m,Go.V.k9 m .cZ a):a.Ok:=⟨(h 0).1,(aa.iY (a.Term) (fun m=>by cases m with|zero=>exact⟨(h 0).2.1,(h 0).2.2.1,(h 0).2.2.2.1,(h 0).2.2.2.2.1,trivial⟩|succ m=>exact⟨(h (m+1)).2.1,(h (m+1)).2.2.1,(h (m+1)).2.2.2.1,(h (m+1)).2.2.2.2.1,trivial⟩)),trivial⟩
theorem aK.iY(a:aK)(h:∀m,Go.V.k9 m .dc a):a.Ok:=⟨(h 0).1,(h 0).2.1,trivial⟩
theorem ah.iY(a:ah)(h:∀m,Go.V.k9 m .Item a):a.Ok:=⟨(h 0).1,(h 0).2.1,(aa.iY (a.Term) (fun m=>by cases m with|zero=>exact⟨(h 0).2.2.1,(h 0).2.2.2.1,(h 0).2.2.2.2.1,(h 0).2.2.2.2.2.1,trivial⟩|succ m=>exact⟨(h (m+1)).2.2.1,(h (m+1)).2.2.2.1,(h (m+1)).2.2.2.2.1,(h (m+1)).2.2.2.2.2.1,trivial⟩)),⟨((h 0).2.2.2.2.2.2.1).1,fun y hy=>ax.iY y (fun m=>((h (m+1)).2.2.2.2.2.2.1).2 y hy)⟩,trivial,(bf.iY (a.From) (fun m=>by cases m with|zero=>exact⟨(h 0).2.2.2.2.2.2.2.2.1,(h 0).2.2.2.2.2.2.2.2.2.1,(h 0).2.2.2.2.2.2.2.2.2.2.1,trivial⟩|succ m=>exact⟨(h (m+1)).2.2.2.2.2.2.2.2.1,(h (m+1)).2.2.2.2.2.2.2.2.2.1,(h (m+1)).2.2.2.2.2.2.2.2.2.2.1,trivial⟩)),⟨((h 0).2.2.2.2.2.2.2.2.2.2.2.1).1,fun y hy=>aK.iY y (fun m=>((h (m+1)).2.2.2.2.2.2.2.2.2.2.2.1).2 y hy)⟩,trivial⟩
theorem aE.iY(a:aE)(h:∀m,Go.V.k9 m .cJ a):a.Ok:=⟨(h 0).1,⟨((h 0).2.1).1,fun y hy=>ah.iY y (fun m=>((h (m+1)).2.1).2 y hy)⟩,trivial⟩
theorem aG.iY(a:aG)(h:∀m,Go.V.k9 m .dr a):a.Ok:=⟨(h 0).1,(bf.iY (a.Path) (fun m=>by cases m with|zero=>exact⟨(h 0).2.1,(h 0).2.2.1,(h 0).2.2.2.1,trivial⟩|succ m=>exact⟨(h (m+1)).2.1,(h (m+1)).2.2.1,(h (m+1)).2.2.2.1,trivial⟩)),trivial⟩
theorem aJ.iY(a:aJ)(h:∀m,Go.V.k9 m .cY a):a.Ok:=⟨(h 0).1,⟨((h 0).2.1).1,fun y hy=>aG.iY y (fun m=>((h (m+1)).2.1).2 y hy)⟩,trivial⟩
theorem aA.iY(a:aA)(h:∀m,Go.V.k9 m .bo a):a.Ok:=⟨(h 0).1,(h 0).2.1,⟨((h 0).2.2.1).1,fun y hy=>aE.iY y (fun m=>((h (m+1)).2.2.1).2 y hy)⟩,⟨((h 0).2.2.2.1).1,fun y hy=>aJ.iY y (fun m=>((h (m+1)).2.2.2.1).2 y hy)⟩,trivial⟩
theorem arx(a:List (List UInt8))(left:Int)(ok:g9 ee a)(h0:0<=left)(h1:left<=1048576):M.BF a left=some (if(aW List.length a:Int)<=left then left-aW List.length a else -1):=by
 have hl:=ok.1;unfold M.BF;rw[wrap_i64 (by omega) (by omega)];refine tY (f:=List.length) (F:=M.v8  a) a left h0 h1 (fun g k l h2 h3 hk=>?_) (fun g l=>?_)
 ·have hn:k<2^62:=by omega
  rw[M.v8];have w:Go.IntKind.wrap .i64 (l-((a[k]).length:Int))=l-(a[k]).length:=wrap_i64 (by have:=ok.2 a[k] (dM hk);unfold ee at this;omega) (by omega);by_cases d:((a[k]).length:Int)<=l
  ·have n:¬(l-((a[k]).length:Int)<0):=by omega
   rw[dP d];simp[hk,getD_lt hk,w,n,cA hk (show a.length<2^62 by omega)]
  ·have n:l-((a[k]).length:Int)<0:=by omega
   rw[gq d];simp[hk,getD_lt hk,w,n]
 ·rw[M.v8];simp
theorem ary(a:List (List UInt8))(ha:aW List.length a<=1048576):M.BV a=some a:=by
 have hl:=dk List.length a;have hn:a.length<=1048576:=by omega
 have hi:(a.length:Int)<=1073741824:=by omega
 have q:∀z,z.length=a.length->M.tU  a Go.V.ad 0 z=some a:=tZ (F:=M.tU  a) a (by omega) (fun f k out h1 h2 hk=>by
  rw[M.tU];simp[hk,h2,getD_lt hk,cA hk (eJ hn)]) (fun f out=>by rw[M.tU];simp)
 unfold M.BV;rw[q _ (by simp)];simp[hi]
theorem arz(a:List (List UInt8))(ha:aW List.length a<=1048576):M.Cf a a=some true:=by
 have hl:=dk List.length a;have hn:a.length<=1048576:=by omega
 unfold M.Cf;refine ua (F:=M.wa  a a) a hn (fun f k hk=>?_) (fun f=>?_)
 ·rw[M.wa];simp[hk,getD_lt hk,cA hk (eJ hn)]
 ·rw[M.wa];simp
theorem acD(a:bf)(left:Int)(ok:a.Ok)(h0:0<=left)(h1:left<=1048576):M.vF a left=some (if(a.sz:Int)<=left then left-a.sz else -1):=by
 unfold M.vF;have hs:=bf.cF a;have ok1:=(bf.ok_eq a).1 ok
 try simp only[aa.aD,ax.aD,ah.aD]
 have e0:Go.IntKind.wrap .i64 (left-((a.bo).length:Int))=left-((a.bo).length:Int):=wrap_i64 (by have:=ok1.1;unfold ee at this;omega) (by omega);by_cases c0:(((a.bo).length:Nat):Int)<=left
 ·skip
  have n0:¬(left-(((a.bo).length:Nat):Int)<0):=by omega
  have e1:Go.IntKind.wrap .i64 (left-(((a.bo).length:Nat):Int)-((a.Name).length:Int))=left-(((a.bo).length:Nat):Int)-((a.Name).length:Int):=wrap_i64 (by have:=ok1.2.1;unfold ee at this;omega) (by omega);by_cases c1:(((a.Name).length:Nat):Int)<=left-(((a.bo).length:Nat):Int)
  ·skip
   have n1:¬(left-(((a.bo).length:Nat):Int)-(((a.Name).length:Nat):Int)<0):=by omega
   have e2:Go.IntKind.wrap .i64 (left-(((a.bo).length:Nat):Int)-(((a.Name).length:Nat):Int)-((a.Version).length:Int))=left-(((a.bo).length:Nat):Int)-(((a.Name).length:Nat):Int)-((a.Version).length:Int):=wrap_i64 (by have:=ok1.2.2.1;unfold ee at this;omega) (by omega);by_cases c2:(((a.Version).length:Nat):Int)<=left-(((a.bo).length:Nat):Int)-(((a.Name).length:Nat):Int)
   ·skip
    have n2:¬(left-(((a.bo).length:Nat):Int)-(((a.Name).length:Nat):Int)-(((a.Version).length:Nat):Int)<0):=by omega
    have q:(a.sz:Int)<=left:=by rw[hs]<;>push_cast<;>omega
    have q2:left-(a.sz:Int)=left-(((a.bo).length:Nat):Int)-(((a.Name).length:Nat):Int)-(((a.Version).length:Nat):Int):=by rw[hs]<;>push_cast<;>omega
    rw[dP q,q2];simp[e0,n0,e1,n1,e2,n2]
   ·have n2:left-(((a.bo).length:Nat):Int)-(((a.Name).length:Nat):Int)-(((a.Version).length:Nat):Int)<0:=by omega
    have q:¬((a.sz:Int)<=left):=by rw[hs]<;>push_cast<;>omega
    rw[gq q];simp[e0,n0,e1,n1,e2,n2]
  ·have n1:left-(((a.bo).length:Nat):Int)-(((a.Name).length:Nat):Int)<0:=by omega
   have q:¬((a.sz:Int)<=left):=by rw[hs]<;>push_cast<;>omega
   rw[gq q];simp[e0,n0,e1,n1]
 ·have n0:left-(((a.bo).length:Nat):Int)<0:=by omega
  have q:¬((a.sz:Int)<=left):=by rw[hs]<;>push_cast<;>omega
  rw[gq q];simp[e0,n0]
theorem arA(a:bf)(h:a.sz<=1048576):M.BY a=some a:=by
 unfold M.BY;have hs:=bf.cF a
 try simp only[aa.aD,ax.aD,ah.aD]
 try simp[]
theorem acE(a:bf)(h:a.sz<=1048576):M.vP a a=some true:=by
 unfold M.vP;have hs:=bf.cF a
 try simp only[aa.aD,ax.aD,ah.aD]
 try simp[]
theorem arB(r:aa->Int->Option Int)(a:List aa)(left:Int)(ok:g9 aa.Ok a)(h0:0<=left)(h1:left<=1048576)(hr:∀x l,x∈a->0<=l->l<left->r x l=some (if(x.sz:Int)<=l then l-x.sz else -1)):M.BE r a left=some (if(aW aa.sz a:Int)<=left then left-aW aa.sz a else -1):=by
 have hl:=ok.1;unfold M.BE;rw[wrap_i64 (by omega) (by omega)];refine tY (f:=aa.sz) (F:=M.vC r  a) a left h0 h1 (fun g k l h2 h3 hk=>?_) (fun g l=>?_)
 ·have hn:k<2^62:=by omega
  rw[M.vC];have e:=hr a[k] l (dM hk) h2 (by omega);by_cases d:((aa.sz a[k]:Nat):Int)<=l
  ·have n:¬(l-((aa.sz a[k]:Nat):Int)<0):=by omega
   rw[dP d]at e⊢;simp[hk,getD_lt hk,e,n,cA hk (show a.length<2^62 by omega),aa.aD,ax.aD,ah.aD]
  ·rw[gq d]at e⊢;simp[hk,getD_lt hk,e,aa.aD,ax.aD,ah.aD]
 ·rw[M.vC];simp
theorem arC(r:aa->Option (Int×(List UInt8)×(List (List UInt8))×(List aa)))(a:List aa)(ha:a.length<=1048576)(hr:∀x∈a,r x=some (x.Kind,x.Name,x.bj,x.Kids)):M.BU r a=some a:=by
 have hn:a.length<=1048576:=by omega
 have hi:(a.length:Int)<=1073741824:=by omega
 have q:∀z,z.length=a.length->M.tu r  a Go.V.ad 0 z=some a:=tZ (F:=M.tu r  a) a (by omega) (fun f k out h1 h2 hk=>by
  rw[M.tu];have e:=hr a[k] (dM hk);simp[hk,h2,getD_lt hk,e,cA hk (eJ hn),aa.aD,ax.aD,ah.aD,aa.eta]) (fun f out=>by rw[M.tu];simp)
 unfold M.BU;rw[q _ (by simp)];simp[hi]
theorem arD(r:aa->aa->Option Bool)(a:List aa)(ha:a.length<=1048576)(hr:∀x∈a,r x x=some true):M.Ce r a a=some true:=by
 have hn:a.length<=1048576:=by omega
 unfold M.Ce;refine ua (F:=M.vM r  a a) a hn (fun f k hk=>?_) (fun f=>?_)
 ·rw[M.vM];have e:=hr a[k] (dM hk);simp[hk,getD_lt hk,e,cA hk (eJ hn),aa.aD,ax.aD,ah.aD]
 ·rw[M.vM];simp
theorem acF:∀(n:Nat)(a:aa)(left:Int),a.Ok->0<=left->left<n->left<=1048576->M.vD n a left=some (if(a.sz:Int)<=left then left-a.sz else -1)
 |0,a,left,ok,h0,h2,h1=>by omega
 |n+1,a,left,ok,h0,h2,h1=>by
  show M.Gt (M.vD n) a left=_
  unfold M.Gt;have hs:=aa.cF a;have ok1:=(aa.ok_eq a).1 ok
  try simp only[aa.aD,ax.aD,ah.aD]
  have e0:Go.IntKind.wrap .i64 (left-((a.Name).length:Int))=left-((a.Name).length:Int):=wrap_i64 (by have:=ok1.2.1;unfold ee at this;omega) (by omega);by_cases c0:(((a.Name).length:Nat):Int)<=left
  ·skip
   have n0:¬(left-(((a.Name).length:Nat):Int)<0):=by omega
   have e1:=arx (a.bj) (left-(((a.Name).length:Nat):Int)) ok1.2.2.1 (by omega) (by omega);by_cases c1:((aW List.length (a.bj):Nat):Int)<=left-(((a.Name).length:Nat):Int)
   ·rw[dP c1]at e1;have n1:¬(left-(((a.Name).length:Nat):Int)-((aW List.length (a.bj):Nat):Int)<0):=by omega
    have e2:=arB (M.vD n) (a.Kids) (left-(((a.Name).length:Nat):Int)-((aW List.length (a.bj):Nat):Int)) ok1.2.2.2.1 (by omega) (by omega) (fun x l hx q0 q1=>acF n x l ((ok1.2.2.2.1).2 x hx) q0 (by omega) (by omega));by_cases c2:((aW aa.sz (a.Kids):Nat):Int)<=left-(((a.Name).length:Nat):Int)-((aW List.length (a.bj):Nat):Int)
    ·rw[dP c2]at e2;have n2:¬(left-(((a.Name).length:Nat):Int)-((aW List.length (a.bj):Nat):Int)-((aW aa.sz (a.Kids):Nat):Int)<0):=by omega
     have q:(a.sz:Int)<=left:=by rw[hs]<;>push_cast<;>omega
     have q2:left-(a.sz:Int)=left-(((a.Name).length:Nat):Int)-((aW List.length (a.bj):Nat):Int)-((aW aa.sz (a.Kids):Nat):Int):=by rw[hs]<;>push_cast<;>omega
     rw[dP q,q2];simp[e0,n0,e1,n1,e2,n2]
    ·rw[gq c2]at e2;have q:¬((a.sz:Int)<=left):=by rw[hs]<;>push_cast<;>omega
     rw[gq q];simp[e0,n0,e1,n1,e2]
   ·rw[gq c1]at e1;have q:¬((a.sz:Int)<=left):=by rw[hs]<;>push_cast<;>omega
    rw[gq q];simp[e0,n0,e1]
  ·have n0:left-(((a.Name).length:Nat):Int)<0:=by omega
   have q:¬((a.sz:Int)<=left):=by rw[hs]<;>push_cast<;>omega
   rw[gq q];simp[e0,n0]
theorem acG(a:aa)(left:Int)(ok:a.Ok)(h0:0<=left)(h1:left<=1048576):M.yH a left=some (if(a.sz:Int)<=left then left-a.sz else -1):=
 acF _ a left ok h0 (by have:=Go.V.bA;omega) h1
theorem acH:∀(n:Nat)(a:aa),a.sz<n->a.sz<=1048576->M.vL n a=some (a.Kind,a.Name,a.bj,a.Kids)
 |0,a,h2,h=>by omega
 |n+1,a,h2,h=>by
  show M.GG (M.vL n) a=_
  unfold M.GG;have hs:=aa.cF a
  try simp only[aa.aD,ax.aD,ah.aD]
  have e2:=ary (a.bj) (by omega);have hk3:=dk aa.sz (a.Kids);have e3:=arC (M.vL n) (a.Kids) (by omega) (fun x hx=>acH n x (by have:=dX aa.sz (a.Kids) x hx;have:=EV aa.sz (a.Kids) x hx;omega) (by have:=dX aa.sz (a.Kids) x hx;omega))
  try simp[e2,e3,aa.eta]
theorem acI(a:aa)(h:a.sz<=1048576):M.yI a=some (a.Kind,a.Name,a.bj,a.Kids):=
 acH _ a (by have:=Go.V.bA;omega) h
theorem acJ:∀(n:Nat)(a:aa),a.sz<n->a.sz<=1048576->M.vN n a a=some true
 |0,a,h2,h=>by omega
 |n+1,a,h2,h=>by
  show M.GU (M.vN n) a a=_
  unfold M.GU;have hs:=aa.cF a
  try simp only[aa.aD,ax.aD,ah.aD]
  have e2:=arz (a.bj) (by omega);have hk3:=dk aa.sz (a.Kids);have e3:=arD (M.vN n) (a.Kids) (by omega) (fun x hx=>acJ n x (by have:=dX aa.sz (a.Kids) x hx;have:=EV aa.sz (a.Kids) x hx;omega) (by have:=dX aa.sz (a.Kids) x hx;omega))
  try simp[e2,e3,aa.eta]
theorem acK(a:aa)(h:a.sz<=1048576):M.yJ a a=some true:=
 acJ _ a (by have:=Go.V.bA;omega) h
theorem arE(a:ax)(left:Int)(ok:a.Ok)(h0:0<=left)(h1:left<=1048576):M.BG a left=some (if(a.sz:Int)<=left then left-a.sz else -1):=by
 unfold M.BG;have hs:=ax.cF a;have ok1:=(ax.ok_eq a).1 ok
 try simp only[aa.aD,ax.aD,ah.aD]
 have e0:Go.IntKind.wrap .i64 (left-((a.Name).length:Int))=left-((a.Name).length:Int):=wrap_i64 (by have:=ok1.1;unfold ee at this;omega) (by omega);by_cases c0:(((a.Name).length:Nat):Int)<=left
 ·skip
  have n0:¬(left-(((a.Name).length:Nat):Int)<0):=by omega
  have e1:=acG (a.Term) (left-(((a.Name).length:Nat):Int)) ok1.2.1 (by omega) (by omega);by_cases c1:(((a.Term).sz:Nat):Int)<=left-(((a.Name).length:Nat):Int)
  ·rw[dP c1]at e1;have n1:¬(left-(((a.Name).length:Nat):Int)-(((a.Term).sz:Nat):Int)<0):=by omega
   have q:(a.sz:Int)<=left:=by rw[hs]<;>push_cast<;>omega
   have q2:left-(a.sz:Int)=left-(((a.Name).length:Nat):Int)-(((a.Term).sz:Nat):Int):=by rw[hs]<;>push_cast<;>omega
   rw[dP q,q2];simp[e0,n0,e1,n1]
  ·rw[gq c1]at e1;have q:¬((a.sz:Int)<=left):=by rw[hs]<;>push_cast<;>omega
   rw[gq q];simp[e0,n0,e1]
 ·have n0:left-(((a.Name).length:Nat):Int)<0:=by omega
  have q:¬((a.sz:Int)<=left):=by rw[hs]<;>push_cast<;>omega
  rw[gq q];simp[e0,n0]
theorem arF(a:ax)(h:a.sz<=1048576):M.BW a=some (a.Name,a.Term.Kind,a.Term.Name,a.Term.bj,a.Term.Kids):=by
 unfold M.BW;have hs:=ax.cF a
 try simp only[aa.aD,ax.aD,ah.aD]
 have e1:=acI (a.Term) (by omega)
 try simp[e1]
theorem arG(a:ax)(h:a.sz<=1048576):M.Ci a a=some true:=by
 unfold M.Ci;have hs:=ax.cF a
 try simp only[aa.aD,ax.aD,ah.aD]
 have e1:=acK (a.Term) (by omega)
 try simp[e1]
theorem arH(a:List ax)(left:Int)(ok:g9 ax.Ok a)(h0:0<=left)(h1:left<=1048576):M.BH a left=some (if(aW ax.sz a:Int)<=left then left-aW ax.sz a else -1):=by
 have hl:=ok.1;unfold M.BH;rw[wrap_i64 (by omega) (by omega)];refine tY (f:=ax.sz) (F:=M.vE  a) a left h0 h1 (fun g k l h2 h3 hk=>?_) (fun g l=>?_)
 ·have hn:k<2^62:=by omega
  rw[M.vE];have e:=arE a[k] l (ok.2 _ (dM hk)) h2 (by omega);by_cases d:((ax.sz a[k]:Nat):Int)<=l
  ·have n:¬(l-((ax.sz a[k]:Nat):Int)<0):=by omega
   rw[dP d]at e⊢;simp[hk,getD_lt hk,e,n,cA hk (show a.length<2^62 by omega),aa.aD,ax.aD,ah.aD]
  ·rw[gq d]at e⊢;simp[hk,getD_lt hk,e,aa.aD,ax.aD,ah.aD]
 ·rw[M.vE];simp
theorem arI(a:List ax)(ha:aW ax.sz a<=1048576):M.BX a=some a:=by
 have hl:=dk ax.sz a;have hn:a.length<=1048576:=by omega
 have hi:(a.length:Int)<=1073741824:=by omega
 have q:∀z,z.length=a.length->M.tw  a Go.V.ad 0 z=some a:=tZ (F:=M.tw  a) a (by omega) (fun f k out h1 h2 hk=>by
  rw[M.tw];have e:=arF a[k] (by have:=dX ax.sz a a[k] (dM hk);omega);simp[hk,h2,getD_lt hk,e,cA hk (eJ hn),aa.aD,ax.aD,ah.aD,aa.eta]) (fun f out=>by rw[M.tw];simp)
 unfold M.BX;rw[q _ (by simp)];simp[hi]
theorem arJ(a:List ax)(ha:aW ax.sz a<=1048576):M.Cj a a=some true:=by
 have hl:=dk ax.sz a;have hn:a.length<=1048576:=by omega
 unfold M.Cj;refine ua (F:=M.vO  a a) a hn (fun f k hk=>?_) (fun f=>?_)
 ·rw[M.vO];have e:=arG a[k] (by have:=dX ax.sz a a[k] (dM hk);omega);simp[hk,getD_lt hk,e,cA hk (eJ hn),aa.aD,ax.aD,ah.aD]
 ·rw[M.vO];simp
theorem arK(a:aK)(left:Int)(ok:a.Ok)(h0:0<=left)(h1:left<=1048576):M.BI a left=some (if(a.sz:Int)<=left then left-a.sz else -1):=by
 unfold M.BI;have hs:=aK.cF a;have ok1:=(aK.ok_eq a).1 ok
 try simp only[aa.aD,ax.aD,ah.aD]
 have e0:Go.IntKind.wrap .i64 (left-((a.Name).length:Int))=left-((a.Name).length:Int):=wrap_i64 (by have:=ok1.1;unfold ee at this;omega) (by omega);by_cases c0:(((a.Name).length:Nat):Int)<=left
 ·skip
  have n0:¬(left-(((a.Name).length:Nat):Int)<0):=by omega
  have e1:Go.IntKind.wrap .i64 (left-(((a.Name).length:Nat):Int)-((a.As).length:Int))=left-(((a.Name).length:Nat):Int)-((a.As).length:Int):=wrap_i64 (by have:=ok1.2.1;unfold ee at this;omega) (by omega);by_cases c1:(((a.As).length:Nat):Int)<=left-(((a.Name).length:Nat):Int)
  ·skip
   have n1:¬(left-(((a.Name).length:Nat):Int)-(((a.As).length:Nat):Int)<0):=by omega
   have q:(a.sz:Int)<=left:=by rw[hs]<;>push_cast<;>omega
   have q2:left-(a.sz:Int)=left-(((a.Name).length:Nat):Int)-(((a.As).length:Nat):Int):=by rw[hs]<;>push_cast<;>omega
   rw[dP q,q2];simp[e0,n0,e1,n1]
  ·have n1:left-(((a.Name).length:Nat):Int)-(((a.As).length:Nat):Int)<0:=by omega
   have q:¬((a.sz:Int)<=left):=by rw[hs]<;>push_cast<;>omega
   rw[gq q];simp[e0,n0,e1,n1]
 ·have n0:left-(((a.Name).length:Nat):Int)<0:=by omega
  have q:¬((a.sz:Int)<=left):=by rw[hs]<;>push_cast<;>omega
  rw[gq q];simp[e0,n0]
theorem arL(a:aK)(h:a.sz<=1048576):M.GI a=some a:=by
 unfold M.GI;have hs:=aK.cF a
 try simp only[aa.aD,ax.aD,ah.aD]
 try simp[]
theorem arM(a:aK)(h:a.sz<=1048576):M.Cm a a=some true:=by
 unfold M.Cm;have hs:=aK.cF a
 try simp only[aa.aD,ax.aD,ah.aD]
 try simp[]
theorem arN(a:List aK)(left:Int)(ok:g9 aK.Ok a)(h0:0<=left)(h1:left<=1048576):M.BJ a left=some (if(aW aK.sz a:Int)<=left then left-aW aK.sz a else -1):=by
 have hl:=ok.1;unfold M.BJ;rw[wrap_i64 (by omega) (by omega)];refine tY (f:=aK.sz) (F:=M.vG  a) a left h0 h1 (fun g k l h2 h3 hk=>?_) (fun g l=>?_)
 ·have hn:k<2^62:=by omega
  rw[M.vG];have e:=arK a[k] l (ok.2 _ (dM hk)) h2 (by omega);by_cases d:((aK.sz a[k]:Nat):Int)<=l
  ·have n:¬(l-((aK.sz a[k]:Nat):Int)<0):=by omega
   rw[dP d]at e⊢;simp[hk,getD_lt hk,e,n,cA hk (show a.length<2^62 by omega),aa.aD,ax.aD,ah.aD]
  ·rw[gq d]at e⊢;simp[hk,getD_lt hk,e,aa.aD,ax.aD,ah.aD]
 ·rw[M.vG];simp
theorem arO(a:List aK)(ha:aW aK.sz a<=1048576):M.BZ a=some a:=by
 have hl:=dk aK.sz a;have hn:a.length<=1048576:=by omega
 have hi:(a.length:Int)<=1073741824:=by omega
 have q:∀z,z.length=a.length->M.tz  a Go.V.ad 0 z=some a:=tZ (F:=M.tz  a) a (by omega) (fun f k out h1 h2 hk=>by
  rw[M.tz];have e:=arL a[k] (by have:=dX aK.sz a a[k] (dM hk);omega);simp[hk,h2,getD_lt hk,e,cA hk (eJ hn),aa.aD,ax.aD,ah.aD]) (fun f out=>by rw[M.tz];simp)
 unfold M.BZ;rw[q _ (by simp)];simp[hi]
theorem arP(a:List aK)(ha:aW aK.sz a<=1048576):M.CB a a=some true:=by
 have hl:=dk aK.sz a;have hn:a.length<=1048576:=by omega
 unfold M.CB;refine ua (F:=M.vQ  a a) a hn (fun f k hk=>?_) (fun f=>?_)
 ·rw[M.vQ];have e:=arM a[k] (by have:=dX aK.sz a a[k] (dM hk);omega);simp[hk,getD_lt hk,e,cA hk (eJ hn),aa.aD,ax.aD,ah.aD]
 ·rw[M.vQ];simp
theorem arQ(a:ah)(left:Int)(ok:a.Ok)(h0:0<=left)(h1:left<=1048576):M.BK a left=some (if(a.sz:Int)<=left then left-a.sz else -1):=by
 unfold M.BK;have hs:=ah.cF a;have ok1:=(ah.ok_eq a).1 ok
 try simp only[aa.aD,ax.aD,ah.aD]
 have e0:Go.IntKind.wrap .i64 (left-((a.Name).length:Int))=left-((a.Name).length:Int):=wrap_i64 (by have:=ok1.2.1;unfold ee at this;omega) (by omega);by_cases c0:(((a.Name).length:Nat):Int)<=left
 ·skip
  have n0:¬(left-(((a.Name).length:Nat):Int)<0):=by omega
  have e1:=acG (a.Term) (left-(((a.Name).length:Nat):Int)) ok1.2.2.1 (by omega) (by omega);by_cases c1:(((a.Term).sz:Nat):Int)<=left-(((a.Name).length:Nat):Int)
  ·rw[dP c1]at e1;have n1:¬(left-(((a.Name).length:Nat):Int)-(((a.Term).sz:Nat):Int)<0):=by omega
   have e2:=arH (a.Params) (left-(((a.Name).length:Nat):Int)-(((a.Term).sz:Nat):Int)) ok1.2.2.2.1 (by omega) (by omega);by_cases c2:((aW ax.sz (a.Params):Nat):Int)<=left-(((a.Name).length:Nat):Int)-(((a.Term).sz:Nat):Int)
   ·rw[dP c2]at e2;have n2:¬(left-(((a.Name).length:Nat):Int)-(((a.Term).sz:Nat):Int)-((aW ax.sz (a.Params):Nat):Int)<0):=by omega
    have e3:=acD (a.From) (left-(((a.Name).length:Nat):Int)-(((a.Term).sz:Nat):Int)-((aW ax.sz (a.Params):Nat):Int)) ok1.2.2.2.2.2.1 (by omega) (by omega);by_cases c3:(((a.From).sz:Nat):Int)<=left-(((a.Name).length:Nat):Int)-(((a.Term).sz:Nat):Int)-((aW ax.sz (a.Params):Nat):Int)
    ·rw[dP c3]at e3;have n3:¬(left-(((a.Name).length:Nat):Int)-(((a.Term).sz:Nat):Int)-((aW ax.sz (a.Params):Nat):Int)-(((a.From).sz:Nat):Int)<0):=by omega
     have e4:=arN (a.Uses) (left-(((a.Name).length:Nat):Int)-(((a.Term).sz:Nat):Int)-((aW ax.sz (a.Params):Nat):Int)-(((a.From).sz:Nat):Int)) ok1.2.2.2.2.2.2.1 (by omega) (by omega);by_cases c4:((aW aK.sz (a.Uses):Nat):Int)<=left-(((a.Name).length:Nat):Int)-(((a.Term).sz:Nat):Int)-((aW ax.sz (a.Params):Nat):Int)-(((a.From).sz:Nat):Int)
     ·rw[dP c4]at e4;have n4:¬(left-(((a.Name).length:Nat):Int)-(((a.Term).sz:Nat):Int)-((aW ax.sz (a.Params):Nat):Int)-(((a.From).sz:Nat):Int)-((aW aK.sz (a.Uses):Nat):Int)<0):=by omega
      have q:(a.sz:Int)<=left:=by rw[hs]<;>push_cast<;>omega
      have q2:left-(a.sz:Int)=left-(((a.Name).length:Nat):Int)-(((a.Term).sz:Nat):Int)-((aW ax.sz (a.Params):Nat):Int)-(((a.From).sz:Nat):Int)-((aW aK.sz (a.Uses):Nat):Int):=by rw[hs]<;>push_cast<;>omega
      rw[dP q,q2];simp[e0,n0,e1,n1,e2,n2,e3,n3,e4,n4]
     ·rw[gq c4]at e4;have q:¬((a.sz:Int)<=left):=by rw[hs]<;>push_cast<;>omega
      rw[gq q];simp[e0,n0,e1,n1,e2,n2,e3,n3,e4]
    ·rw[gq c3]at e3;have q:¬((a.sz:Int)<=left):=by rw[hs]<;>push_cast<;>omega
     rw[gq q];simp[e0,n0,e1,n1,e2,n2,e3]
   ·rw[gq c2]at e2;have q:¬((a.sz:Int)<=left):=by rw[hs]<;>push_cast<;>omega
    rw[gq q];simp[e0,n0,e1,n1,e2]
  ·rw[gq c1]at e1;have q:¬((a.sz:Int)<=left):=by rw[hs]<;>push_cast<;>omega
   rw[gq q];simp[e0,n0,e1]
 ·have n0:left-(((a.Name).length:Nat):Int)<0:=by omega
  have q:¬((a.sz:Int)<=left):=by rw[hs]<;>push_cast<;>omega
  rw[gq q];simp[e0,n0]
theorem arR(a:ah)(h:a.sz<=1048576):M.B0 a=some (a.Kind,a.Name,a.Term.Kind,a.Term.Name,a.Async,a.From.bo,a.From.Name,a.From.Version,a.Term.bj,a.Term.Kids,a.Params,a.Uses):=by
 unfold M.B0;have hs:=ah.cF a
 try simp only[aa.aD,ax.aD,ah.aD]
 have e2:=acI (a.Term) (by omega);have e3:=arI (a.Params) (by omega);have e5:=arA (a.From) (by omega);have e6:=arO (a.Uses) (by omega)
 try simp[e2,e3,e5,e6]
theorem arS(a:ah)(h:a.sz<=1048576):M.CC a a=some true:=by
 unfold M.CC;have hs:=ah.cF a
 try simp only[aa.aD,ax.aD,ah.aD]
 have e2:=acK (a.Term) (by omega);have e3:=arJ (a.Params) (by omega);have e5:=acE (a.From) (by omega);have e6:=arP (a.Uses) (by omega)
 try simp[e2,e3,e5,e6]
theorem arT(a:List ah)(left:Int)(ok:g9 ah.Ok a)(h0:0<=left)(h1:left<=1048576):M.BL a left=some (if(aW ah.sz a:Int)<=left then left-aW ah.sz a else -1):=by
 have hl:=ok.1;unfold M.BL;rw[wrap_i64 (by omega) (by omega)];refine tY (f:=ah.sz) (F:=M.vH  a) a left h0 h1 (fun g k l h2 h3 hk=>?_) (fun g l=>?_)
 ·have hn:k<2^62:=by omega
  rw[M.vH];have e:=arQ a[k] l (ok.2 _ (dM hk)) h2 (by omega);by_cases d:((ah.sz a[k]:Nat):Int)<=l
  ·have n:¬(l-((ah.sz a[k]:Nat):Int)<0):=by omega
   rw[dP d]at e⊢;simp[hk,getD_lt hk,e,n,cA hk (show a.length<2^62 by omega),aa.aD,ax.aD,ah.aD]
  ·rw[gq d]at e⊢;simp[hk,getD_lt hk,e,aa.aD,ax.aD,ah.aD]
 ·rw[M.vH];simp
theorem arU(a:List ah)(ha:aW ah.sz a<=1048576):M.B6 a=some a:=by
 have hl:=dk ah.sz a;have hn:a.length<=1048576:=by omega
 have hi:(a.length:Int)<=1073741824:=by omega
 have q:∀z,z.length=a.length->M.tA  a Go.V.ad 0 z=some a:=tZ (F:=M.tA  a) a (by omega) (fun f k out h1 h2 hk=>by
  rw[M.tA];have e:=arR a[k] (by have:=dX ah.sz a a[k] (dM hk);omega);simp[hk,h2,getD_lt hk,e,cA hk (eJ hn),aa.aD,ax.aD,ah.aD,aa.eta]) (fun f out=>by rw[M.tA];simp)
 unfold M.B6;rw[q _ (by simp)];simp[hi]
theorem arV(a:List ah)(ha:aW ah.sz a<=1048576):M.CE a a=some true:=by
 have hl:=dk ah.sz a;have hn:a.length<=1048576:=by omega
 unfold M.CE;refine ua (F:=M.vR  a a) a hn (fun f k hk=>?_) (fun f=>?_)
 ·rw[M.vR];have e:=arS a[k] (by have:=dX ah.sz a a[k] (dM hk);omega);simp[hk,getD_lt hk,e,cA hk (eJ hn),aa.aD,ax.aD,ah.aD]
 ·rw[M.vR];simp
theorem arW(a:aE)(left:Int)(ok:a.Ok)(h0:0<=left)(h1:left<=1048576):M.BM a left=some (if(a.sz:Int)<=left then left-a.sz else -1):=by
 unfold M.BM;have hs:=aE.cF a;have ok1:=(aE.ok_eq a).1 ok
 try simp only[aa.aD,ax.aD,ah.aD]
 have e0:Go.IntKind.wrap .i64 (left-((a.Name).length:Int))=left-((a.Name).length:Int):=wrap_i64 (by have:=ok1.1;unfold ee at this;omega) (by omega);by_cases c0:(((a.Name).length:Nat):Int)<=left
 ·skip
  have n0:¬(left-(((a.Name).length:Nat):Int)<0):=by omega
  have e1:=arT (a.Items) (left-(((a.Name).length:Nat):Int)) ok1.2.1 (by omega) (by omega);by_cases c1:((aW ah.sz (a.Items):Nat):Int)<=left-(((a.Name).length:Nat):Int)
  ·rw[dP c1]at e1;have n1:¬(left-(((a.Name).length:Nat):Int)-((aW ah.sz (a.Items):Nat):Int)<0):=by omega
   have q:(a.sz:Int)<=left:=by rw[hs]<;>push_cast<;>omega
   have q2:left-(a.sz:Int)=left-(((a.Name).length:Nat):Int)-((aW ah.sz (a.Items):Nat):Int):=by rw[hs]<;>push_cast<;>omega
   rw[dP q,q2];simp[e0,n0,e1,n1]
  ·rw[gq c1]at e1;have q:¬((a.sz:Int)<=left):=by rw[hs]<;>push_cast<;>omega
   rw[gq q];simp[e0,n0,e1]
 ·have n0:left-(((a.Name).length:Nat):Int)<0:=by omega
  have q:¬((a.sz:Int)<=left):=by rw[hs]<;>push_cast<;>omega
  rw[gq q];simp[e0,n0]
theorem arX(a:aE)(h:a.sz<=1048576):M.B7 a=some (a.Name,a.Items):=by
 unfold M.B7;have hs:=aE.cF a
 try simp only[aa.aD,ax.aD,ah.aD]
 have e1:=arU (a.Items) (by omega)
 try simp[e1]
theorem arY(a:aE)(h:a.sz<=1048576):M.CG a a=some true:=by
 unfold M.CG;have hs:=aE.cF a
 try simp only[aa.aD,ax.aD,ah.aD]
 have e1:=arV (a.Items) (by omega)
 try simp[e1]
theorem arZ(a:List aE)(left:Int)(ok:g9 aE.Ok a)(h0:0<=left)(h1:left<=1048576):M.BN a left=some (if(aW aE.sz a:Int)<=left then left-aW aE.sz a else -1):=by
 have hl:=ok.1;unfold M.BN;rw[wrap_i64 (by omega) (by omega)];refine tY (f:=aE.sz) (F:=M.vI  a) a left h0 h1 (fun g k l h2 h3 hk=>?_) (fun g l=>?_)
 ·have hn:k<2^62:=by omega
  rw[M.vI];have e:=arW a[k] l (ok.2 _ (dM hk)) h2 (by omega);by_cases d:((aE.sz a[k]:Nat):Int)<=l
  ·have n:¬(l-((aE.sz a[k]:Nat):Int)<0):=by omega
   rw[dP d]at e⊢;simp[hk,getD_lt hk,e,n,cA hk (show a.length<2^62 by omega),aa.aD,ax.aD,ah.aD]
  ·rw[gq d]at e⊢;simp[hk,getD_lt hk,e,aa.aD,ax.aD,ah.aD]
 ·rw[M.vI];simp
theorem ar0(a:List aE)(ha:aW aE.sz a<=1048576):M.B8 a=some a:=by
 have hl:=dk aE.sz a;have hn:a.length<=1048576:=by omega
 have hi:(a.length:Int)<=1073741824:=by omega
 have q:∀z,z.length=a.length->M.tB  a Go.V.ad 0 z=some a:=tZ (F:=M.tB  a) a (by omega) (fun f k out h1 h2 hk=>by
  rw[M.tB];have e:=arX a[k] (by have:=dX aE.sz a a[k] (dM hk);omega);simp[hk,h2,getD_lt hk,e,cA hk (eJ hn),aa.aD,ax.aD,ah.aD]) (fun f out=>by rw[M.tB];simp)
 unfold M.B8;rw[q _ (by simp)];simp[hi]
theorem ar1(a:List aE)(ha:aW aE.sz a<=1048576):M.CH a a=some true:=by
 have hl:=dk aE.sz a;have hn:a.length<=1048576:=by omega
 unfold M.CH;refine ua (F:=M.vS  a a) a hn (fun f k hk=>?_) (fun f=>?_)
 ·rw[M.vS];have e:=arY a[k] (by have:=dX aE.sz a a[k] (dM hk);omega);simp[hk,getD_lt hk,e,cA hk (eJ hn),aa.aD,ax.aD,ah.aD]
 ·rw[M.vS];simp
theorem ar2(a:aG)(left:Int)(ok:a.Ok)(h0:0<=left)(h1:left<=1048576):M.BO a left=some (if(a.sz:Int)<=left then left-a.sz else -1):=by
 unfold M.BO;have hs:=aG.cF a;have ok1:=(aG.ok_eq a).1 ok
 try simp only[aa.aD,ax.aD,ah.aD]
 have e0:=acD (a.Path) (left) ok1.2.1 (by omega) (by omega);by_cases c0:(((a.Path).sz:Nat):Int)<=left
 ·rw[dP c0]at e0;have n0:¬(left-(((a.Path).sz:Nat):Int)<0):=by omega
  have q:(a.sz:Int)<=left:=by rw[hs]<;>push_cast<;>omega
  have q2:left-(a.sz:Int)=left-(((a.Path).sz:Nat):Int):=by rw[hs]<;>push_cast<;>omega
  rw[dP q,q2];simp[e0,n0]
 ·rw[gq c0]at e0;have q:¬((a.sz:Int)<=left):=by rw[hs]<;>push_cast<;>omega
  rw[gq q];simp[e0]
theorem ar4(a:aG)(h:a.sz<=1048576):M.GN a=some a:=by
 unfold M.GN;have hs:=aG.cF a
 try simp only[aa.aD,ax.aD,ah.aD]
theorem ar5(a:aG)(h:a.sz<=1048576):M.CJ a a=some true:=by
 unfold M.CJ;have hs:=aG.cF a
 try simp only[aa.aD,ax.aD,ah.aD]
 have e1:=acE (a.Path) (by omega)
 try simp[e1]
theorem ar6(a:List aG)(left:Int)(ok:g9 aG.Ok a)(h0:0<=left)(h1:left<=1048576):M.BP a left=some (if(aW aG.sz a:Int)<=left then left-aW aG.sz a else -1):=by
 have hl:=ok.1;unfold M.BP;rw[wrap_i64 (by omega) (by omega)];refine tY (f:=aG.sz) (F:=M.vJ  a) a left h0 h1 (fun g k l h2 h3 hk=>?_) (fun g l=>?_)
 ·have hn:k<2^62:=by omega
  rw[M.vJ];have e:=ar2 a[k] l (ok.2 _ (dM hk)) h2 (by omega);by_cases d:((aG.sz a[k]:Nat):Int)<=l
  ·have n:¬(l-((aG.sz a[k]:Nat):Int)<0):=by omega
   rw[dP d]at e⊢;simp[hk,getD_lt hk,e,n,cA hk (show a.length<2^62 by omega),aa.aD,ax.aD,ah.aD]
  ·rw[gq d]at e⊢;simp[hk,getD_lt hk,e,aa.aD,ax.aD,ah.aD]
 ·rw[M.vJ];simp
theorem ar7(a:List aG)(ha:aW aG.sz a<=1048576):M.B9 a=some a:=by
 have hl:=dk aG.sz a;have hn:a.length<=1048576:=by omega
 have hi:(a.length:Int)<=1073741824:=by omega
 have q:∀z,z.length=a.length->M.tD  a Go.V.ad 0 z=some a:=tZ (F:=M.tD  a) a (by omega) (fun f k out h1 h2 hk=>by
  rw[M.tD];have e:=ar4 a[k] (by have:=dX aG.sz a a[k] (dM hk);omega);simp[hk,h2,getD_lt hk,e,cA hk (eJ hn),aa.aD,ax.aD,ah.aD]) (fun f out=>by rw[M.tD];simp)
 unfold M.B9;rw[q _ (by simp)];simp[hi]
theorem ar8(a:List aG)(ha:aW aG.sz a<=1048576):M.CL a a=some true:=by
 have hl:=dk aG.sz a;have hn:a.length<=1048576:=by omega
 unfold M.CL;refine ua (F:=M.vT  a a) a hn (fun f k hk=>?_) (fun f=>?_)
 ·rw[M.vT];have e:=ar5 a[k] (by have:=dX aG.sz a a[k] (dM hk);omega);simp[hk,getD_lt hk,e,cA hk (eJ hn),aa.aD,ax.aD,ah.aD]
 ·rw[M.vT];simp
theorem ar9(a:aJ)(left:Int)(ok:a.Ok)(h0:0<=left)(h1:left<=1048576):M.BQ a left=some (if(a.sz:Int)<=left then left-a.sz else -1):=by
 unfold M.BQ;have hs:=aJ.cF a;have ok1:=(aJ.ok_eq a).1 ok
 try simp only[aa.aD,ax.aD,ah.aD]
 have e0:Go.IntKind.wrap .i64 (left-((a.Name).length:Int))=left-((a.Name).length:Int):=wrap_i64 (by have:=ok1.1;unfold ee at this;omega) (by omega);by_cases c0:(((a.Name).length:Nat):Int)<=left
 ·skip
  have n0:¬(left-(((a.Name).length:Nat):Int)<0):=by omega
  have e1:=ar6 (a.Items) (left-(((a.Name).length:Nat):Int)) ok1.2.1 (by omega) (by omega);by_cases c1:((aW aG.sz (a.Items):Nat):Int)<=left-(((a.Name).length:Nat):Int)
  ·rw[dP c1]at e1;have n1:¬(left-(((a.Name).length:Nat):Int)-((aW aG.sz (a.Items):Nat):Int)<0):=by omega
   have q:(a.sz:Int)<=left:=by rw[hs]<;>push_cast<;>omega
   have q2:left-(a.sz:Int)=left-(((a.Name).length:Nat):Int)-((aW aG.sz (a.Items):Nat):Int):=by rw[hs]<;>push_cast<;>omega
   rw[dP q,q2];simp[e0,n0,e1,n1]
  ·rw[gq c1]at e1;have q:¬((a.sz:Int)<=left):=by rw[hs]<;>push_cast<;>omega
   rw[gq q];simp[e0,n0,e1]
 ·have n0:left-(((a.Name).length:Nat):Int)<0:=by omega
  have q:¬((a.sz:Int)<=left):=by rw[hs]<;>push_cast<;>omega
  rw[gq q];simp[e0,n0]
theorem asa(a:aJ)(h:a.sz<=1048576):M.Cb a=some (a.Name,a.Items):=by
 unfold M.Cb;have hs:=aJ.cF a
 try simp only[aa.aD,ax.aD,ah.aD]
 have e1:=ar7 (a.Items) (by omega)
 try simp[e1]
theorem asb(a:aJ)(h:a.sz<=1048576):M.CM a a=some true:=by
 unfold M.CM;have hs:=aJ.cF a
 try simp only[aa.aD,ax.aD,ah.aD]
 have e1:=ar8 (a.Items) (by omega)
 try simp[e1]
theorem asc(a:List aJ)(left:Int)(ok:g9 aJ.Ok a)(h0:0<=left)(h1:left<=1048576):M.BR a left=some (if(aW aJ.sz a:Int)<=left then left-aW aJ.sz a else -1):=by
 have hl:=ok.1;unfold M.BR;rw[wrap_i64 (by omega) (by omega)];refine tY (f:=aJ.sz) (F:=M.vK  a) a left h0 h1 (fun g k l h2 h3 hk=>?_) (fun g l=>?_)
 ·have hn:k<2^62:=by omega
  rw[M.vK];have e:=ar9 a[k] l (ok.2 _ (dM hk)) h2 (by omega);by_cases d:((aJ.sz a[k]:Nat):Int)<=l
  ·have n:¬(l-((aJ.sz a[k]:Nat):Int)<0):=by omega
   rw[dP d]at e⊢;simp[hk,getD_lt hk,e,n,cA hk (show a.length<2^62 by omega),aa.aD,ax.aD,ah.aD]
  ·rw[gq d]at e⊢;simp[hk,getD_lt hk,e,aa.aD,ax.aD,ah.aD]
 ·rw[M.vK];simp
theorem ase(a:List aJ)(ha:aW aJ.sz a<=1048576):M.Cc a=some a:=by
 have hl:=dk aJ.sz a;have hn:a.length<=1048576:=by omega
 have hi:(a.length:Int)<=1073741824:=by omega
 have q:∀z,z.length=a.length->M.tG  a Go.V.ad 0 z=some a:=tZ (F:=M.tG  a) a (by omega) (fun f k out h1 h2 hk=>by
  rw[M.tG];have e:=asa a[k] (by have:=dX aJ.sz a a[k] (dM hk);omega);simp[hk,h2,getD_lt hk,e,cA hk (eJ hn),aa.aD,ax.aD,ah.aD]) (fun f out=>by rw[M.tG];simp)
 unfold M.Cc;rw[q _ (by simp)];simp[hi]
theorem asf(a:List aJ)(ha:aW aJ.sz a<=1048576):M.CN a a=some true:=by
 have hl:=dk aJ.sz a;have hn:a.length<=1048576:=by omega
 unfold M.CN;refine ua (F:=M.vU  a a) a hn (fun f k hk=>?_) (fun f=>?_)
 ·rw[M.vU];have e:=asb a[k] (by have:=dX aJ.sz a a[k] (dM hk);omega);simp[hk,getD_lt hk,e,cA hk (eJ hn),aa.aD,ax.aD,ah.aD]
 ·rw[M.vU];simp
theorem aiD(a:aA)(left:Int)(ok:a.Ok)(h0:0<=left)(h1:left<=1048576):M.BS a left=some (if(a.sz:Int)<=left then left-a.sz else -1):=by
 unfold M.BS;have hs:=aA.cF a;have ok1:=(aA.ok_eq a).1 ok
 try simp only[aa.aD,ax.aD,ah.aD]
 have e0:Go.IntKind.wrap .i64 (left-((a.Name).length:Int))=left-((a.Name).length:Int):=wrap_i64 (by have:=ok1.1;unfold ee at this;omega) (by omega);by_cases c0:(((a.Name).length:Nat):Int)<=left
 ·skip
  have n0:¬(left-(((a.Name).length:Nat):Int)<0):=by omega
  have e1:Go.IntKind.wrap .i64 (left-(((a.Name).length:Nat):Int)-((a.Version).length:Int))=left-(((a.Name).length:Nat):Int)-((a.Version).length:Int):=wrap_i64 (by have:=ok1.2.1;unfold ee at this;omega) (by omega);by_cases c1:(((a.Version).length:Nat):Int)<=left-(((a.Name).length:Nat):Int)
  ·skip
   have n1:¬(left-(((a.Name).length:Nat):Int)-(((a.Version).length:Nat):Int)<0):=by omega
   have e2:=arZ (a.aF) (left-(((a.Name).length:Nat):Int)-(((a.Version).length:Nat):Int)) ok1.2.2.1 (by omega) (by omega);by_cases c2:((aW aE.sz (a.aF):Nat):Int)<=left-(((a.Name).length:Nat):Int)-(((a.Version).length:Nat):Int)
   ·rw[dP c2]at e2;have n2:¬(left-(((a.Name).length:Nat):Int)-(((a.Version).length:Nat):Int)-((aW aE.sz (a.aF):Nat):Int)<0):=by omega
    have e3:=asc (a.Worlds) (left-(((a.Name).length:Nat):Int)-(((a.Version).length:Nat):Int)-((aW aE.sz (a.aF):Nat):Int)) ok1.2.2.2.1 (by omega) (by omega);by_cases c3:((aW aJ.sz (a.Worlds):Nat):Int)<=left-(((a.Name).length:Nat):Int)-(((a.Version).length:Nat):Int)-((aW aE.sz (a.aF):Nat):Int)
    ·rw[dP c3]at e3;have n3:¬(left-(((a.Name).length:Nat):Int)-(((a.Version).length:Nat):Int)-((aW aE.sz (a.aF):Nat):Int)-((aW aJ.sz (a.Worlds):Nat):Int)<0):=by omega
     have q:(a.sz:Int)<=left:=by rw[hs]<;>push_cast<;>omega
     have q2:left-(a.sz:Int)=left-(((a.Name).length:Nat):Int)-(((a.Version).length:Nat):Int)-((aW aE.sz (a.aF):Nat):Int)-((aW aJ.sz (a.Worlds):Nat):Int):=by rw[hs]<;>push_cast<;>omega
     rw[dP q,q2];simp[e0,n0,e1,n1,e2,n2,e3,n3]
    ·rw[gq c3]at e3;have q:¬((a.sz:Int)<=left):=by rw[hs]<;>push_cast<;>omega
     rw[gq q];simp[e0,n0,e1,n1,e2,n2,e3]
   ·rw[gq c2]at e2;have q:¬((a.sz:Int)<=left):=by rw[hs]<;>push_cast<;>omega
    rw[gq q];simp[e0,n0,e1,n1,e2]
  ·have n1:left-(((a.Name).length:Nat):Int)-(((a.Version).length:Nat):Int)<0:=by omega
   have q:¬((a.sz:Int)<=left):=by rw[hs]<;>push_cast<;>omega
   rw[gq q];simp[e0,n0,e1,n1]
 ·have n0:left-(((a.Name).length:Nat):Int)<0:=by omega
  have q:¬((a.sz:Int)<=left):=by rw[hs]<;>push_cast<;>omega
  rw[gq q];simp[e0,n0]
theorem aiE(a:aA)(h:a.sz<=1048576):M.Cd a=some (a.Name,a.Version,a.aF,a.Worlds):=by
 unfold M.Cd;have hs:=aA.cF a
 try simp only[aa.aD,ax.aD,ah.aD]
 have e2:=ar0 (a.aF) (by omega);have e3:=ase (a.Worlds) (by omega)
 try simp[e2,e3]
theorem aiF(a:aA)(h:a.sz<=1048576):M.CO a a=some true:=by
 unfold M.CO;have hs:=aA.cF a
 try simp only[aa.aD,ax.aD,ah.aD]
 have e2:=ar1 (a.aF) (by omega);have e3:=asf (a.Worlds) (by omega)
 try simp[e2,e3]
end M
