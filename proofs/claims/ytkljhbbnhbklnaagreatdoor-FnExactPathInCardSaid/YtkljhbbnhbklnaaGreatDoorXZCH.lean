/-
  Part of the proof of the claim.
-/
import Derived.Test.YtkljhbbnhbklnaaGreatDoorXZCM
import Derived.Test.YtkljhbbnhbklnaaGreatDoorXXlaw
import Derived.Test.YtkljhbbnhbklnaaGreatDoorXXpl
set_option linter.unusedVariables false
set_option linter.unusedSimpArgs false
namespace M
def dO(s:List UInt8):Prop:=s.length<=9223372036854775807
def gn{α:Type}(p:α->Prop)(l:List α):Prop:=l.length<=9223372036854775807/\∀x∈l,p x
def aQ.sz(a:aQ):Nat:=(a.aJ).length+(a.Name).length+(a.Version).length
theorem aQ.cf(a:aQ):a.sz=(a.aJ).length+(a.Name).length+(a.Version).length:=rfl
def aQ.Ok(a:aQ):Prop:=dO (a.aJ)/\dO (a.Name)/\dO (a.Version)/\True
theorem aQ.ok_eq(a:aQ):a.Ok↔(dO (a.aJ)/\dO (a.Name)/\dO (a.Version)/\True):=jX
def dr.sz(a:dr):Nat:=(a.Path).sz+(a.Version).length
theorem dr.cf(a:dr):a.sz=(a.Path).sz+(a.Version).length:=rfl
def dr.Ok(a:dr):Prop:=aQ.Ok (a.Path)/\dO (a.Version)/\I64 (a.Why)/\True
theorem dr.ok_eq(a:dr):a.Ok↔(aQ.Ok (a.Path)/\dO (a.Version)/\I64 (a.Why)/\True):=jX
mutual
def aa.sz:aa->Nat
 |.mk v0 v1 v2 v3=>(v1).length+aT List.length (v2)+aa.Ji v3
def aa.Ji:List aa->Nat
 |[]=>0
 |t::r=>aa.sz t+1+aa.Ji r
end
theorem aa.afx:∀l:List aa,aa.Ji l=aT aa.sz l
 |[]=>rfl
 |t::r=>by simp only[aa.Ji,aT,aa.afx r]
theorem aa.cf(a:aa):a.sz=(a.Name).length+aT List.length (a.bm)+aT aa.sz (a.Kids):=by cases a;simp only[aa.sz,aa.afx];rfl
mutual
def aa.Ok:aa->Prop
 |.mk v0 v1 v2 v3=>I64 (v0)/\dO (v1)/\gn dO (v2)/\(v3.length<=9223372036854775807/\aa.ub v3)/\True
def aa.ub:List aa->Prop
 |[]=>True
 |t::r=>aa.Ok t/\aa.ub r
end
theorem aa.afy:∀l:List aa,aa.ub l↔∀x∈l,aa.Ok x
 |[]=>by simp[aa.ub]
 |t::r=>by simp[aa.ub,aa.afy r]
theorem aa.ok_eq(a:aa):a.Ok↔(I64 (a.Kind)/\dO (a.Name)/\gn dO (a.bm)/\gn aa.Ok (a.Kids)/\True):=by
 cases a;simp only[aa.Ok,aa.afy,gn];exact jX
def aA.sz(a:aA):Nat:=(a.Name).length+(a.Term).sz
theorem aA.cf(a:aA):a.sz=(a.Name).length+(a.Term).sz:=rfl
def aA.Ok(a:aA):Prop:=dO (a.Name)/\aa.Ok (a.Term)/\True
theorem aA.ok_eq(a:aA):a.Ok↔(dO (a.Name)/\aa.Ok (a.Term)/\True):=jX
def aO.sz(a:aO):Nat:=(a.Name).length+(a.As).length
theorem aO.cf(a:aO):a.sz=(a.Name).length+(a.As).length:=rfl
def aO.Ok(a:aO):Prop:=dO (a.Name)/\dO (a.As)/\True
theorem aO.ok_eq(a:aO):a.Ok↔(dO (a.Name)/\dO (a.As)/\True):=jX
def af.sz(a:af):Nat:=(a.Name).length+(a.Term).sz+aT aA.sz (a.Params)+(a.From).sz+aT aO.sz (a.Uses)
theorem af.cf(a:af):a.sz=(a.Name).length+(a.Term).sz+aT aA.sz (a.Params)+(a.From).sz+aT aO.sz (a.Uses):=rfl
def af.Ok(a:af):Prop:=I64 (a.Kind)/\dO (a.Name)/\aa.Ok (a.Term)/\gn aA.Ok (a.Params)/\True/\aQ.Ok (a.From)/\gn aO.Ok (a.Uses)/\True
theorem af.ok_eq(a:af):a.Ok↔(I64 (a.Kind)/\dO (a.Name)/\aa.Ok (a.Term)/\gn aA.Ok (a.Params)/\True/\aQ.Ok (a.From)/\gn aO.Ok (a.Uses)/\True):=jX
def aD.sz(a:aD):Nat:=(a.Name).length+aT af.sz (a.Items)
theorem aD.cf(a:aD):a.sz=(a.Name).length+aT af.sz (a.Items):=rfl
def aD.Ok(a:aD):Prop:=dO (a.Name)/\gn af.Ok (a.Items)/\True
theorem aD.ok_eq(a:aD):a.Ok↔(dO (a.Name)/\gn af.Ok (a.Items)/\True):=jX
def aG.sz(a:aG):Nat:=(a.Path).sz
theorem aG.cf(a:aG):a.sz=(a.Path).sz:=rfl
def aG.Ok(a:aG):Prop:=I64 (a.Kind)/\aQ.Ok (a.Path)/\True
theorem aG.ok_eq(a:aG):a.Ok↔(I64 (a.Kind)/\aQ.Ok (a.Path)/\True):=jX
def aM.sz(a:aM):Nat:=(a.Name).length+aT aG.sz (a.Items)
theorem aM.cf(a:aM):a.sz=(a.Name).length+aT aG.sz (a.Items):=rfl
def aM.Ok(a:aM):Prop:=dO (a.Name)/\gn aG.Ok (a.Items)/\True
theorem aM.ok_eq(a:aM):a.Ok↔(dO (a.Name)/\gn aG.Ok (a.Items)/\True):=jX
def ai.sz(a:ai):Nat:=(a.Name).length+(a.Version).length+aT aD.sz (a.aF)+aT aM.sz (a.Worlds)
theorem ai.cf(a:ai):a.sz=(a.Name).length+(a.Version).length+aT aD.sz (a.aF)+aT aM.sz (a.Worlds):=rfl
def ai.Ok(a:ai):Prop:=dO (a.Name)/\dO (a.Version)/\gn aD.Ok (a.aF)/\gn aM.Ok (a.Worlds)/\True
theorem ai.ok_eq(a:ai):a.Ok↔(dO (a.Name)/\dO (a.Version)/\gn aD.Ok (a.aF)/\gn aM.Ok (a.Worlds)/\True):=jX
def cJ.sz(a:cJ):Nat:=(a.Where).length
theorem cJ.cf(a:cJ):a.sz=(a.Where).length:=rfl
def cJ.Ok(a:cJ):Prop:=I64 (a.Code)/\dO (a.Where)/\True
theorem cJ.ok_eq(a:cJ):a.Ok↔(I64 (a.Code)/\dO (a.Where)/\True):=jX
theorem aQ.gV(a:aQ)(h:∀m,Go.V.jO m .Path a):a.Ok:=⟨(h 0).1,(h 0).2.1,(h 0).2.2.1,trivial⟩
theorem dr.gV(a:dr)(h:∀m,Go.V.jO m .Choice a):a.Ok:=⟨(aQ.gV (a.Path) (fun m=>by cases m with|zero=>exact⟨(h 0).1,(h 0).2.1,(h 0).2.2.1,trivial⟩|succ m=>exact⟨(h (m+1)).1,(h (m+1)).2.1,(h (m+1)).2.2.1,trivial⟩)),(h 0).2.2.2.1,(h 0).2.2.2.2.1,trivial⟩
mutual
theorem aa.gV:∀(a:aa),(∀m,Go.V.jO m .Term a)->a.Ok
 |.mk v0 v1 v2 v3,h=>by
   simp only[aa.Ok];exact⟨(h 0).1,(h 0).2.1,⟨((h 0).2.2.1).1,fun y hy=>((fun m=>((h (m+1)).2.2.1).2 y hy) 0).1⟩,⟨((h 0).2.2.2.1).1,(aa.afz _ fun y hy m=>((h (m+1)).2.2.2.1).2 y hy)⟩,trivial⟩
theorem aa.afz:∀(l:List aa),(∀y∈l,∀m,Go.V.jO m .Term y)->aa.ub l
 |[],_=>by simp only[aa.ub]
 |t::r,h=>by
  simp only[aa.ub];exact⟨aa.gV t (h t (by simp)),aa.afz r fun y hy=>h y (by simp[hy])⟩
end
theorem aA.gV(a:aA)(h:∀m,Go.V.jO m .cY a):a.Ok:=⟨(h 0).1,(aa.gV (a.Term) (fun m=>by cases m with|zero=>exact⟨(h 0).2.1,(h 0).2.2.1,(h 0).2.2.2.1,(h 0).2.2.2.2.1,trivial⟩|succ m=>exact⟨(h (m+1)).2.1,(h (m+1)).2.2.1,(h (m+1)).2.2.2.1,(h (m+1)).2.2.2.2.1,trivial⟩)),trivial⟩
theorem aO.gV(a:aO)(h:∀m,Go.V.jO m .de a):a.Ok:=⟨(h 0).1,(h 0).2.1,trivial⟩
theorem af.gV(a:af)(h:∀m,Go.V.jO m .Item a):a.Ok:=⟨(h 0).1,(h 0).2.1,(aa.gV (a.Term) (fun m=>by cases m with|zero=>exact⟨(h 0).2.2.1,(h 0).2.2.2.1,(h 0).2.2.2.2.1,(h 0).2.2.2.2.2.1,trivial⟩|succ m=>exact⟨(h (m+1)).2.2.1,(h (m+1)).2.2.2.1,(h (m+1)).2.2.2.2.1,(h (m+1)).2.2.2.2.2.1,trivial⟩)),⟨((h 0).2.2.2.2.2.2.1).1,fun y hy=>aA.gV y (fun m=>((h (m+1)).2.2.2.2.2.2.1).2 y hy)⟩,trivial,(aQ.gV (a.From) (fun m=>by cases m with|zero=>exact⟨(h 0).2.2.2.2.2.2.2.2.1,(h 0).2.2.2.2.2.2.2.2.2.1,(h 0).2.2.2.2.2.2.2.2.2.2.1,trivial⟩|succ m=>exact⟨(h (m+1)).2.2.2.2.2.2.2.2.1,(h (m+1)).2.2.2.2.2.2.2.2.2.1,(h (m+1)).2.2.2.2.2.2.2.2.2.2.1,trivial⟩)),⟨((h 0).2.2.2.2.2.2.2.2.2.2.2.1).1,fun y hy=>aO.gV y (fun m=>((h (m+1)).2.2.2.2.2.2.2.2.2.2.2.1).2 y hy)⟩,trivial⟩
theorem aD.gV(a:aD)(h:∀m,Go.V.jO m .cz a):a.Ok:=⟨(h 0).1,⟨((h 0).2.1).1,fun y hy=>af.gV y (fun m=>((h (m+1)).2.1).2 y hy)⟩,trivial⟩
theorem aG.gV(a:aG)(h:∀m,Go.V.jO m .dt a):a.Ok:=⟨(h 0).1,(aQ.gV (a.Path) (fun m=>by cases m with|zero=>exact⟨(h 0).2.1,(h 0).2.2.1,(h 0).2.2.2.1,trivial⟩|succ m=>exact⟨(h (m+1)).2.1,(h (m+1)).2.2.1,(h (m+1)).2.2.2.1,trivial⟩)),trivial⟩
theorem aM.gV(a:aM)(h:∀m,Go.V.jO m .cX a):a.Ok:=⟨(h 0).1,⟨((h 0).2.1).1,fun y hy=>aG.gV y (fun m=>((h (m+1)).2.1).2 y hy)⟩,trivial⟩
theorem ai.gV(a:ai)(h:∀m,Go.V.jO m .aJ a):a.Ok:=⟨(h 0).1,(h 0).2.1,⟨((h 0).2.2.1).1,fun y hy=>aD.gV y (fun m=>((h (m+1)).2.2.1).2 y hy)⟩,⟨((h 0).2.2.2.1).1,fun y hy=>aM.gV y (fun m=>((h (m+1)).2.2.2.1).2 y hy)⟩,trivial⟩
theorem cJ.gV(a:cJ)(h:∀m,Go.V.jO m .Problem a):a.Ok:=⟨(h 0).1,(h 0).2.1,trivial⟩
theorem avs(a:List (List UInt8))(left:Int)(ok:gn dO a)(h0:0<=left)(h1:left<=1048576):M.B7 a left=some (if(aT List.length a:Int)<=left then left-aT List.length a else -1):=by
 have hl:=ok.1;unfold M.B7;rw[wrap_i64 (by omega) (by omega)];refine rm (f:=List.length) (F:=M.v8  a) a left h0 h1 (fun g k l h2 h3 hk=>?_) (fun g l=>?_)
 ·have hn:k<2^62:=by omega
  rw[M.v8];have w:Go.IntKind.wrap .i64 (l-((a[k]).length:Int))=l-(a[k]).length:=wrap_i64 (by have:=ok.2 a[k] (cw hk);unfold dO at this;omega) (by omega);by_cases d:((a[k]).length:Int)<=l
  ·have n:¬(l-((a[k]).length:Int)<0):=by omega
   rw[ba d];simp[hk,getD_lt hk,w,n,bS hk (show a.length<2^62 by omega)]
  ·have n:l-((a[k]).length:Int)<0:=by omega
   rw[aX d];simp[hk,getD_lt hk,w,n]
 ·rw[M.v8];simp
theorem avt(a:List (List UInt8))(ha:aT List.length a<=1048576):M.CH a=some a:=by
 have hl:=df List.length a;have hn:a.length<=1048576:=by omega
 have hi:(a.length:Int)<=1073741824:=by omega
 have q:∀z,z.length=a.length->M.tZ  a Go.V.ah 0 z=some a:=rl (F:=M.tZ  a) a (by omega) (fun f k out h1 h2 hk=>by
  rw[M.tZ];simp[hk,h2,getD_lt hk,bS hk (dZ hn)]) (fun f out=>by rw[M.tZ];simp)
 unfold M.CH;rw[q _ (by simp)];simp[hi]
theorem avu(a:List (List UInt8))(ha:aT List.length a<=1048576):M.CY a a=some true:=by
 have hl:=df List.length a;have hn:a.length<=1048576:=by omega
 unfold M.CY;refine rn (F:=M.wa  a a) a hn (fun f k hk=>?_) (fun f=>?_)
 ·rw[M.wa];simp[hk,getD_lt hk,bS hk (dZ hn)]
 ·rw[M.wa];simp
theorem NH(a:aQ)(left:Int)(ok:a.Ok)(h0:0<=left)(h1:left<=1048576):M.ry a left=some (if(a.sz:Int)<=left then left-a.sz else -1):=by
 unfold M.ry;have hs:=aQ.cf a;have ok1:=(aQ.ok_eq a).1 ok
 try simp only[aa.aB,aA.aB,af.aB]
 have e0:Go.IntKind.wrap .i64 (left-((a.aJ).length:Int))=left-((a.aJ).length:Int):=wrap_i64 (by have:=ok1.1;unfold dO at this;omega) (by omega);by_cases c0:(((a.aJ).length:Nat):Int)<=left
 ·skip
  have n0:¬(left-(((a.aJ).length:Nat):Int)<0):=by omega
  have e1:Go.IntKind.wrap .i64 (left-(((a.aJ).length:Nat):Int)-((a.Name).length:Int))=left-(((a.aJ).length:Nat):Int)-((a.Name).length:Int):=wrap_i64 (by have:=ok1.2.1;unfold dO at this;omega) (by omega);by_cases c1:(((a.Name).length:Nat):Int)<=left-(((a.aJ).length:Nat):Int)
  ·skip
   have n1:¬(left-(((a.aJ).length:Nat):Int)-(((a.Name).length:Nat):Int)<0):=by omega
   have e2:Go.IntKind.wrap .i64 (left-(((a.aJ).length:Nat):Int)-(((a.Name).length:Nat):Int)-((a.Version).length:Int))=left-(((a.aJ).length:Nat):Int)-(((a.Name).length:Nat):Int)-((a.Version).length:Int):=wrap_i64 (by have:=ok1.2.2.1;unfold dO at this;omega) (by omega);by_cases c2:(((a.Version).length:Nat):Int)<=left-(((a.aJ).length:Nat):Int)-(((a.Name).length:Nat):Int)
   ·skip
    have n2:¬(left-(((a.aJ).length:Nat):Int)-(((a.Name).length:Nat):Int)-(((a.Version).length:Nat):Int)<0):=by omega
    have q:(a.sz:Int)<=left:=by rw[hs]<;>push_cast<;>omega
    have q2:left-(a.sz:Int)=left-(((a.aJ).length:Nat):Int)-(((a.Name).length:Nat):Int)-(((a.Version).length:Nat):Int):=by rw[hs]<;>push_cast<;>omega
    rw[ba q,q2];simp[e0,n0,e1,n1,e2,n2]
   ·have n2:left-(((a.aJ).length:Nat):Int)-(((a.Name).length:Nat):Int)-(((a.Version).length:Nat):Int)<0:=by omega
    have q:¬((a.sz:Int)<=left):=by rw[hs]<;>push_cast<;>omega
    rw[aX q];simp[e0,n0,e1,n1,e2,n2]
  ·have n1:left-(((a.aJ).length:Nat):Int)-(((a.Name).length:Nat):Int)<0:=by omega
   have q:¬((a.sz:Int)<=left):=by rw[hs]<;>push_cast<;>omega
   rw[aX q];simp[e0,n0,e1,n1]
 ·have n0:left-(((a.aJ).length:Nat):Int)<0:=by omega
  have q:¬((a.sz:Int)<=left):=by rw[hs]<;>push_cast<;>omega
  rw[aX q];simp[e0,n0]
theorem avv(a:aQ)(h:a.sz<=1048576):M.yG a=some a:=by
 unfold M.yG;have hs:=aQ.cf a
 try simp only[aa.aB,aA.aB,af.aB]
 try simp[]
theorem NG(a:aQ)(h:a.sz<=1048576):M.tV a a=some true:=by
 unfold M.tV;have hs:=aQ.cf a
 try simp only[aa.aB,aA.aB,af.aB]
 try simp[]
theorem avw(r:aa->Int->Option Int)(a:List aa)(left:Int)(ok:gn aa.Ok a)(h0:0<=left)(h1:left<=1048576)(hr:∀x l,x∈a->0<=l->l<left->r x l=some (if(x.sz:Int)<=l then l-x.sz else -1)):M.B6 r a left=some (if(aT aa.sz a:Int)<=left then left-aT aa.sz a else -1):=by
 have hl:=ok.1;unfold M.B6;rw[wrap_i64 (by omega) (by omega)];refine rm (f:=aa.sz) (F:=M.vH r  a) a left h0 h1 (fun g k l h2 h3 hk=>?_) (fun g l=>?_)
 ·have hn:k<2^62:=by omega
  rw[M.vH];have e:=hr a[k] l (cw hk) h2 (by omega);by_cases d:((aa.sz a[k]:Nat):Int)<=l
  ·have n:¬(l-((aa.sz a[k]:Nat):Int)<0):=by omega
   rw[ba d]at e⊢;simp[hk,getD_lt hk,e,n,bS hk (show a.length<2^62 by omega),aa.aB,aA.aB,af.aB]
  ·rw[aX d]at e⊢;simp[hk,getD_lt hk,e,aa.aB,aA.aB,af.aB]
 ·rw[M.vH];simp
theorem avx(r:aa->Option (Int×(List UInt8)×(List (List UInt8))×(List aa)))(a:List aa)(ha:a.length<=1048576)(hr:∀x∈a,r x=some (x.Kind,x.Name,x.bm,x.Kids)):M.CG r a=some a:=by
 have hn:a.length<=1048576:=by omega
 have hi:(a.length:Int)<=1073741824:=by omega
 have q:∀z,z.length=a.length->M.tM r  a Go.V.ah 0 z=some a:=rl (F:=M.tM r  a) a (by omega) (fun f k out h1 h2 hk=>by
  rw[M.tM];have e:=hr a[k] (cw hk);simp[hk,h2,getD_lt hk,e,bS hk (dZ hn),aa.aB,aA.aB,af.aB,aa.eta]) (fun f out=>by rw[M.tM];simp)
 unfold M.CG;rw[q _ (by simp)];simp[hi]
theorem avy(r:aa->aa->Option Bool)(a:List aa)(ha:a.length<=1048576)(hr:∀x∈a,r x x=some true):M.CX r a a=some true:=by
 have hn:a.length<=1048576:=by omega
 unfold M.CX;refine rn (F:=M.vQ r  a a) a hn (fun f k hk=>?_) (fun f=>?_)
 ·rw[M.vQ];have e:=hr a[k] (cw hk);simp[hk,getD_lt hk,e,bS hk (dZ hn),aa.aB,aA.aB,af.aB]
 ·rw[M.vQ];simp
theorem afA:∀(n:Nat)(a:aa)(left:Int),a.Ok->0<=left->left<n->left<=1048576->M.vI n a left=some (if(a.sz:Int)<=left then left-a.sz else -1)
 |0,a,left,ok,h0,h2,h1=>by omega
 |n+1,a,left,ok,h0,h2,h1=>by
  show M.Ht (M.vI n) a left=_
  unfold M.Ht;have hs:=aa.cf a;have ok1:=(aa.ok_eq a).1 ok
  try simp only[aa.aB,aA.aB,af.aB]
  have e0:Go.IntKind.wrap .i64 (left-((a.Name).length:Int))=left-((a.Name).length:Int):=wrap_i64 (by have:=ok1.2.1;unfold dO at this;omega) (by omega);by_cases c0:(((a.Name).length:Nat):Int)<=left
  ·skip
   have n0:¬(left-(((a.Name).length:Nat):Int)<0):=by omega
   have e1:=avs (a.bm) (left-(((a.Name).length:Nat):Int)) ok1.2.2.1 (by omega) (by omega);by_cases c1:((aT List.length (a.bm):Nat):Int)<=left-(((a.Name).length:Nat):Int)
   ·rw[ba c1]at e1;have n1:¬(left-(((a.Name).length:Nat):Int)-((aT List.length (a.bm):Nat):Int)<0):=by omega
    have e2:=avw (M.vI n) (a.Kids) (left-(((a.Name).length:Nat):Int)-((aT List.length (a.bm):Nat):Int)) ok1.2.2.2.1 (by omega) (by omega) (fun x l hx q0 q1=>afA n x l ((ok1.2.2.2.1).2 x hx) q0 (by omega) (by omega));by_cases c2:((aT aa.sz (a.Kids):Nat):Int)<=left-(((a.Name).length:Nat):Int)-((aT List.length (a.bm):Nat):Int)
    ·rw[ba c2]at e2;have n2:¬(left-(((a.Name).length:Nat):Int)-((aT List.length (a.bm):Nat):Int)-((aT aa.sz (a.Kids):Nat):Int)<0):=by omega
     have q:(a.sz:Int)<=left:=by rw[hs]<;>push_cast<;>omega
     have q2:left-(a.sz:Int)=left-(((a.Name).length:Nat):Int)-((aT List.length (a.bm):Nat):Int)-((aT aa.sz (a.Kids):Nat):Int):=by rw[hs]<;>push_cast<;>omega
     rw[ba q,q2];simp[e0,n0,e1,n1,e2,n2]
    ·rw[aX c2]at e2;have q:¬((a.sz:Int)<=left):=by rw[hs]<;>push_cast<;>omega
     rw[aX q];simp[e0,n0,e1,n1,e2]
   ·rw[aX c1]at e1;have q:¬((a.sz:Int)<=left):=by rw[hs]<;>push_cast<;>omega
    rw[aX q];simp[e0,n0,e1]
  ·have n0:left-(((a.Name).length:Nat):Int)<0:=by omega
   have q:¬((a.sz:Int)<=left):=by rw[hs]<;>push_cast<;>omega
   rw[aX q];simp[e0,n0]
theorem afB(a:aa)(left:Int)(ok:a.Ok)(h0:0<=left)(h1:left<=1048576):M.yE a left=some (if(a.sz:Int)<=left then left-a.sz else -1):=
 afA _ a left ok h0 (by have:=Go.V.bq;omega) h1
theorem afC:∀(n:Nat)(a:aa),a.sz<n->a.sz<=1048576->M.vP n a=some (a.Kind,a.Name,a.bm,a.Kids)
 |0,a,h2,h=>by omega
 |n+1,a,h2,h=>by
  show M.HH (M.vP n) a=_
  unfold M.HH;have hs:=aa.cf a
  try simp only[aa.aB,aA.aB,af.aB]
  have e2:=avt (a.bm) (by omega);have hk3:=df aa.sz (a.Kids);have e3:=avx (M.vP n) (a.Kids) (by omega) (fun x hx=>afC n x (by have:=dK aa.sz (a.Kids) x hx;have:=Fz aa.sz (a.Kids) x hx;omega) (by have:=dK aa.sz (a.Kids) x hx;omega))
  try simp[e2,e3,aa.eta]
theorem afD(a:aa)(h:a.sz<=1048576):M.yF a=some (a.Kind,a.Name,a.bm,a.Kids):=
 afC _ a (by have:=Go.V.bq;omega) h
theorem afE:∀(n:Nat)(a:aa),a.sz<n->a.sz<=1048576->M.vR n a a=some true
 |0,a,h2,h=>by omega
 |n+1,a,h2,h=>by
  show M.H4 (M.vR n) a a=_
  unfold M.H4;have hs:=aa.cf a
  try simp only[aa.aB,aA.aB,af.aB]
  have e2:=avu (a.bm) (by omega);have hk3:=df aa.sz (a.Kids);have e3:=avy (M.vR n) (a.Kids) (by omega) (fun x hx=>afE n x (by have:=dK aa.sz (a.Kids) x hx;have:=Fz aa.sz (a.Kids) x hx;omega) (by have:=dK aa.sz (a.Kids) x hx;omega))
  try simp[e2,e3,aa.eta]
theorem afF(a:aa)(h:a.sz<=1048576):M.yH a a=some true:=
 afE _ a (by have:=Go.V.bq;omega) h
theorem avz(a:aA)(left:Int)(ok:a.Ok)(h0:0<=left)(h1:left<=1048576):M.B8 a left=some (if(a.sz:Int)<=left then left-a.sz else -1):=by
 unfold M.B8;have hs:=aA.cf a;have ok1:=(aA.ok_eq a).1 ok
 try simp only[aa.aB,aA.aB,af.aB]
 have e0:Go.IntKind.wrap .i64 (left-((a.Name).length:Int))=left-((a.Name).length:Int):=wrap_i64 (by have:=ok1.1;unfold dO at this;omega) (by omega);by_cases c0:(((a.Name).length:Nat):Int)<=left
 ·skip
  have n0:¬(left-(((a.Name).length:Nat):Int)<0):=by omega
  have e1:=afB (a.Term) (left-(((a.Name).length:Nat):Int)) ok1.2.1 (by omega) (by omega);by_cases c1:(((a.Term).sz:Nat):Int)<=left-(((a.Name).length:Nat):Int)
  ·rw[ba c1]at e1;have n1:¬(left-(((a.Name).length:Nat):Int)-(((a.Term).sz:Nat):Int)<0):=by omega
   have q:(a.sz:Int)<=left:=by rw[hs]<;>push_cast<;>omega
   have q2:left-(a.sz:Int)=left-(((a.Name).length:Nat):Int)-(((a.Term).sz:Nat):Int):=by rw[hs]<;>push_cast<;>omega
   rw[ba q,q2];simp[e0,n0,e1,n1]
  ·rw[aX c1]at e1;have q:¬((a.sz:Int)<=left):=by rw[hs]<;>push_cast<;>omega
   rw[aX q];simp[e0,n0,e1]
 ·have n0:left-(((a.Name).length:Nat):Int)<0:=by omega
  have q:¬((a.sz:Int)<=left):=by rw[hs]<;>push_cast<;>omega
  rw[aX q];simp[e0,n0]
theorem avA(a:aA)(h:a.sz<=1048576):M.CJ a=some (a.Name,a.Term.Kind,a.Term.Name,a.Term.bm,a.Term.Kids):=by
 unfold M.CJ;have hs:=aA.cf a
 try simp only[aa.aB,aA.aB,af.aB]
 have e1:=afD (a.Term) (by omega)
 try simp[e1]
theorem avC(a:aA)(h:a.sz<=1048576):M.CZ a a=some true:=by
 unfold M.CZ;have hs:=aA.cf a
 try simp only[aa.aB,aA.aB,af.aB]
 have e1:=afF (a.Term) (by omega)
 try simp[e1]
theorem avD(a:List aA)(left:Int)(ok:gn aA.Ok a)(h0:0<=left)(h1:left<=1048576):M.B9 a left=some (if(aT aA.sz a:Int)<=left then left-aT aA.sz a else -1):=by
 have hl:=ok.1;unfold M.B9;rw[wrap_i64 (by omega) (by omega)];refine rm (f:=aA.sz) (F:=M.vJ  a) a left h0 h1 (fun g k l h2 h3 hk=>?_) (fun g l=>?_)
 ·have hn:k<2^62:=by omega
  rw[M.vJ];have e:=avz a[k] l (ok.2 _ (cw hk)) h2 (by omega);by_cases d:((aA.sz a[k]:Nat):Int)<=l
  ·have n:¬(l-((aA.sz a[k]:Nat):Int)<0):=by omega
   rw[ba d]at e⊢;simp[hk,getD_lt hk,e,n,bS hk (show a.length<2^62 by omega),aa.aB,aA.aB,af.aB]
  ·rw[aX d]at e⊢;simp[hk,getD_lt hk,e,aa.aB,aA.aB,af.aB]
 ·rw[M.vJ];simp
theorem avE(a:List aA)(ha:aT aA.sz a<=1048576):M.CL a=some a:=by
 have hl:=df aA.sz a;have hn:a.length<=1048576:=by omega
 have hi:(a.length:Int)<=1073741824:=by omega
 have q:∀z,z.length=a.length->M.tN  a Go.V.ah 0 z=some a:=rl (F:=M.tN  a) a (by omega) (fun f k out h1 h2 hk=>by
  rw[M.tN];have e:=avA a[k] (by have:=dK aA.sz a a[k] (cw hk);omega);simp[hk,h2,getD_lt hk,e,bS hk (dZ hn),aa.aB,aA.aB,af.aB,aa.eta]) (fun f out=>by rw[M.tN];simp)
 unfold M.CL;rw[q _ (by simp)];simp[hi]
theorem avF(a:List aA)(ha:aT aA.sz a<=1048576):M.C0 a a=some true:=by
 have hl:=df aA.sz a;have hn:a.length<=1048576:=by omega
 unfold M.C0;refine rn (F:=M.vS  a a) a hn (fun f k hk=>?_) (fun f=>?_)
 ·rw[M.vS];have e:=avC a[k] (by have:=dK aA.sz a a[k] (cw hk);omega);simp[hk,getD_lt hk,e,bS hk (dZ hn),aa.aB,aA.aB,af.aB]
 ·rw[M.vS];simp
theorem avG(a:aO)(left:Int)(ok:a.Ok)(h0:0<=left)(h1:left<=1048576):M.Cb a left=some (if(a.sz:Int)<=left then left-a.sz else -1):=by
 unfold M.Cb;have hs:=aO.cf a;have ok1:=(aO.ok_eq a).1 ok
 try simp only[aa.aB,aA.aB,af.aB]
 have e0:Go.IntKind.wrap .i64 (left-((a.Name).length:Int))=left-((a.Name).length:Int):=wrap_i64 (by have:=ok1.1;unfold dO at this;omega) (by omega);by_cases c0:(((a.Name).length:Nat):Int)<=left
 ·skip
  have n0:¬(left-(((a.Name).length:Nat):Int)<0):=by omega
  have e1:Go.IntKind.wrap .i64 (left-(((a.Name).length:Nat):Int)-((a.As).length:Int))=left-(((a.Name).length:Nat):Int)-((a.As).length:Int):=wrap_i64 (by have:=ok1.2.1;unfold dO at this;omega) (by omega);by_cases c1:(((a.As).length:Nat):Int)<=left-(((a.Name).length:Nat):Int)
  ·skip
   have n1:¬(left-(((a.Name).length:Nat):Int)-(((a.As).length:Nat):Int)<0):=by omega
   have q:(a.sz:Int)<=left:=by rw[hs]<;>push_cast<;>omega
   have q2:left-(a.sz:Int)=left-(((a.Name).length:Nat):Int)-(((a.As).length:Nat):Int):=by rw[hs]<;>push_cast<;>omega
   rw[ba q,q2];simp[e0,n0,e1,n1]
  ·have n1:left-(((a.Name).length:Nat):Int)-(((a.As).length:Nat):Int)<0:=by omega
   have q:¬((a.sz:Int)<=left):=by rw[hs]<;>push_cast<;>omega
   rw[aX q];simp[e0,n0,e1,n1]
 ·have n0:left-(((a.Name).length:Nat):Int)<0:=by omega
  have q:¬((a.sz:Int)<=left):=by rw[hs]<;>push_cast<;>omega
  rw[aX q];simp[e0,n0]
theorem avH(a:aO)(h:a.sz<=1048576):M.HO a=some a:=by
 unfold M.HO;have hs:=aO.cf a
 try simp only[aa.aB,aA.aB,af.aB]
 try simp[]
theorem avI(a:aO)(h:a.sz<=1048576):M.C2 a a=some true:=by
 unfold M.C2;have hs:=aO.cf a
 try simp only[aa.aB,aA.aB,af.aB]
 try simp[]
theorem avJ(a:List aO)(left:Int)(ok:gn aO.Ok a)(h0:0<=left)(h1:left<=1048576):M.Cc a left=some (if(aT aO.sz a:Int)<=left then left-aT aO.sz a else -1):=by
 have hl:=ok.1;unfold M.Cc;rw[wrap_i64 (by omega) (by omega)];refine rm (f:=aO.sz) (F:=M.vK  a) a left h0 h1 (fun g k l h2 h3 hk=>?_) (fun g l=>?_)
 ·have hn:k<2^62:=by omega
  rw[M.vK];have e:=avG a[k] l (ok.2 _ (cw hk)) h2 (by omega);by_cases d:((aO.sz a[k]:Nat):Int)<=l
  ·have n:¬(l-((aO.sz a[k]:Nat):Int)<0):=by omega
   rw[ba d]at e⊢;simp[hk,getD_lt hk,e,n,bS hk (show a.length<2^62 by omega),aa.aB,aA.aB,af.aB]
  ·rw[aX d]at e⊢;simp[hk,getD_lt hk,e,aa.aB,aA.aB,af.aB]
 ·rw[M.vK];simp
theorem avK(a:List aO)(ha:aT aO.sz a<=1048576):M.CM a=some a:=by
 have hl:=df aO.sz a;have hn:a.length<=1048576:=by omega
 have hi:(a.length:Int)<=1073741824:=by omega
 have q:∀z,z.length=a.length->M.tO  a Go.V.ah 0 z=some a:=rl (F:=M.tO  a) a (by omega) (fun f k out h1 h2 hk=>by
  rw[M.tO];have e:=avH a[k] (by have:=dK aO.sz a a[k] (cw hk);omega);simp[hk,h2,getD_lt hk,e,bS hk (dZ hn),aa.aB,aA.aB,af.aB]) (fun f out=>by rw[M.tO];simp)
 unfold M.CM;rw[q _ (by simp)];simp[hi]
theorem avL(a:List aO)(ha:aT aO.sz a<=1048576):M.C3 a a=some true:=by
 have hl:=df aO.sz a;have hn:a.length<=1048576:=by omega
 unfold M.C3;refine rn (F:=M.vT  a a) a hn (fun f k hk=>?_) (fun f=>?_)
 ·rw[M.vT];have e:=avI a[k] (by have:=dK aO.sz a a[k] (cw hk);omega);simp[hk,getD_lt hk,e,bS hk (dZ hn),aa.aB,aA.aB,af.aB]
 ·rw[M.vT];simp
theorem avM(a:af)(left:Int)(ok:a.Ok)(h0:0<=left)(h1:left<=1048576):M.Cd a left=some (if(a.sz:Int)<=left then left-a.sz else -1):=by
 unfold M.Cd;have hs:=af.cf a;have ok1:=(af.ok_eq a).1 ok
 try simp only[aa.aB,aA.aB,af.aB]
 have e0:Go.IntKind.wrap .i64 (left-((a.Name).length:Int))=left-((a.Name).length:Int):=wrap_i64 (by have:=ok1.2.1;unfold dO at this;omega) (by omega);by_cases c0:(((a.Name).length:Nat):Int)<=left
 ·skip
  have n0:¬(left-(((a.Name).length:Nat):Int)<0):=by omega
  have e1:=afB (a.Term) (left-(((a.Name).length:Nat):Int)) ok1.2.2.1 (by omega) (by omega);by_cases c1:(((a.Term).sz:Nat):Int)<=left-(((a.Name).length:Nat):Int)
  ·rw[ba c1]at e1;have n1:¬(left-(((a.Name).length:Nat):Int)-(((a.Term).sz:Nat):Int)<0):=by omega
   have e2:=avD (a.Params) (left-(((a.Name).length:Nat):Int)-(((a.Term).sz:Nat):Int)) ok1.2.2.2.1 (by omega) (by omega);by_cases c2:((aT aA.sz (a.Params):Nat):Int)<=left-(((a.Name).length:Nat):Int)-(((a.Term).sz:Nat):Int)
   ·rw[ba c2]at e2;have n2:¬(left-(((a.Name).length:Nat):Int)-(((a.Term).sz:Nat):Int)-((aT aA.sz (a.Params):Nat):Int)<0):=by omega
    have e3:=NH (a.From) (left-(((a.Name).length:Nat):Int)-(((a.Term).sz:Nat):Int)-((aT aA.sz (a.Params):Nat):Int)) ok1.2.2.2.2.2.1 (by omega) (by omega);by_cases c3:(((a.From).sz:Nat):Int)<=left-(((a.Name).length:Nat):Int)-(((a.Term).sz:Nat):Int)-((aT aA.sz (a.Params):Nat):Int)
    ·rw[ba c3]at e3;have n3:¬(left-(((a.Name).length:Nat):Int)-(((a.Term).sz:Nat):Int)-((aT aA.sz (a.Params):Nat):Int)-(((a.From).sz:Nat):Int)<0):=by omega
     have e4:=avJ (a.Uses) (left-(((a.Name).length:Nat):Int)-(((a.Term).sz:Nat):Int)-((aT aA.sz (a.Params):Nat):Int)-(((a.From).sz:Nat):Int)) ok1.2.2.2.2.2.2.1 (by omega) (by omega);by_cases c4:((aT aO.sz (a.Uses):Nat):Int)<=left-(((a.Name).length:Nat):Int)-(((a.Term).sz:Nat):Int)-((aT aA.sz (a.Params):Nat):Int)-(((a.From).sz:Nat):Int)
     ·rw[ba c4]at e4;have n4:¬(left-(((a.Name).length:Nat):Int)-(((a.Term).sz:Nat):Int)-((aT aA.sz (a.Params):Nat):Int)-(((a.From).sz:Nat):Int)-((aT aO.sz (a.Uses):Nat):Int)<0):=by omega
      have q:(a.sz:Int)<=left:=by rw[hs]<;>push_cast<;>omega
      have q2:left-(a.sz:Int)=left-(((a.Name).length:Nat):Int)-(((a.Term).sz:Nat):Int)-((aT aA.sz (a.Params):Nat):Int)-(((a.From).sz:Nat):Int)-((aT aO.sz (a.Uses):Nat):Int):=by rw[hs]<;>push_cast<;>omega
      rw[ba q,q2];simp[e0,n0,e1,n1,e2,n2,e3,n3,e4,n4]
     ·rw[aX c4]at e4;have q:¬((a.sz:Int)<=left):=by rw[hs]<;>push_cast<;>omega
      rw[aX q];simp[e0,n0,e1,n1,e2,n2,e3,n3,e4]
    ·rw[aX c3]at e3;have q:¬((a.sz:Int)<=left):=by rw[hs]<;>push_cast<;>omega
     rw[aX q];simp[e0,n0,e1,n1,e2,n2,e3]
   ·rw[aX c2]at e2;have q:¬((a.sz:Int)<=left):=by rw[hs]<;>push_cast<;>omega
    rw[aX q];simp[e0,n0,e1,n1,e2]
  ·rw[aX c1]at e1;have q:¬((a.sz:Int)<=left):=by rw[hs]<;>push_cast<;>omega
   rw[aX q];simp[e0,n0,e1]
 ·have n0:left-(((a.Name).length:Nat):Int)<0:=by omega
  have q:¬((a.sz:Int)<=left):=by rw[hs]<;>push_cast<;>omega
  rw[aX q];simp[e0,n0]
theorem avN(a:af)(h:a.sz<=1048576):M.CN a=some (a.Kind,a.Name,a.Term.Kind,a.Term.Name,a.Async,a.From.aJ,a.From.Name,a.From.Version,a.Term.bm,a.Term.Kids,a.Params,a.Uses):=by
 unfold M.CN;have hs:=af.cf a
 try simp only[aa.aB,aA.aB,af.aB]
 have e2:=afD (a.Term) (by omega);have e3:=avE (a.Params) (by omega);have e5:=avv (a.From) (by omega);have e6:=avK (a.Uses) (by omega)
 try simp[e2,e3,e5,e6]
theorem avO(a:af)(h:a.sz<=1048576):M.C4 a a=some true:=by
 unfold M.C4;have hs:=af.cf a
 try simp only[aa.aB,aA.aB,af.aB]
 have e2:=afF (a.Term) (by omega);have e3:=avF (a.Params) (by omega);have e5:=NG (a.From) (by omega);have e6:=avL (a.Uses) (by omega)
 try simp[e2,e3,e5,e6]
theorem avP(a:List af)(left:Int)(ok:gn af.Ok a)(h0:0<=left)(h1:left<=1048576):M.Ce a left=some (if(aT af.sz a:Int)<=left then left-aT af.sz a else -1):=by
 have hl:=ok.1;unfold M.Ce;rw[wrap_i64 (by omega) (by omega)];refine rm (f:=af.sz) (F:=M.vL  a) a left h0 h1 (fun g k l h2 h3 hk=>?_) (fun g l=>?_)
 ·have hn:k<2^62:=by omega
  rw[M.vL];have e:=avM a[k] l (ok.2 _ (cw hk)) h2 (by omega);by_cases d:((af.sz a[k]:Nat):Int)<=l
  ·have n:¬(l-((af.sz a[k]:Nat):Int)<0):=by omega
   rw[ba d]at e⊢;simp[hk,getD_lt hk,e,n,bS hk (show a.length<2^62 by omega),aa.aB,aA.aB,af.aB]
  ·rw[aX d]at e⊢;simp[hk,getD_lt hk,e,aa.aB,aA.aB,af.aB]
 ·rw[M.vL];simp
theorem avQ(a:List af)(ha:aT af.sz a<=1048576):M.CO a=some a:=by
 have hl:=df af.sz a;have hn:a.length<=1048576:=by omega
 have hi:(a.length:Int)<=1073741824:=by omega
 have q:∀z,z.length=a.length->M.tP  a Go.V.ah 0 z=some a:=rl (F:=M.tP  a) a (by omega) (fun f k out h1 h2 hk=>by
  rw[M.tP];have e:=avN a[k] (by have:=dK af.sz a a[k] (cw hk);omega);simp[hk,h2,getD_lt hk,e,bS hk (dZ hn),aa.aB,aA.aB,af.aB,aa.eta]) (fun f out=>by rw[M.tP];simp)
 unfold M.CO;rw[q _ (by simp)];simp[hi]
theorem avR(a:List af)(ha:aT af.sz a<=1048576):M.C5 a a=some true:=by
 have hl:=df af.sz a;have hn:a.length<=1048576:=by omega
 unfold M.C5;refine rn (F:=M.vU  a a) a hn (fun f k hk=>?_) (fun f=>?_)
 ·rw[M.vU];have e:=avO a[k] (by have:=dK af.sz a a[k] (cw hk);omega);simp[hk,getD_lt hk,e,bS hk (dZ hn),aa.aB,aA.aB,af.aB]
 ·rw[M.vU];simp
theorem avS(a:aD)(left:Int)(ok:a.Ok)(h0:0<=left)(h1:left<=1048576):M.Cf a left=some (if(a.sz:Int)<=left then left-a.sz else -1):=by
 unfold M.Cf;have hs:=aD.cf a;have ok1:=(aD.ok_eq a).1 ok
 try simp only[aa.aB,aA.aB,af.aB]
 have e0:Go.IntKind.wrap .i64 (left-((a.Name).length:Int))=left-((a.Name).length:Int):=wrap_i64 (by have:=ok1.1;unfold dO at this;omega) (by omega);by_cases c0:(((a.Name).length:Nat):Int)<=left
 ·skip
  have n0:¬(left-(((a.Name).length:Nat):Int)<0):=by omega
  have e1:=avP (a.Items) (left-(((a.Name).length:Nat):Int)) ok1.2.1 (by omega) (by omega);by_cases c1:((aT af.sz (a.Items):Nat):Int)<=left-(((a.Name).length:Nat):Int)
  ·rw[ba c1]at e1;have n1:¬(left-(((a.Name).length:Nat):Int)-((aT af.sz (a.Items):Nat):Int)<0):=by omega
   have q:(a.sz:Int)<=left:=by rw[hs]<;>push_cast<;>omega
   have q2:left-(a.sz:Int)=left-(((a.Name).length:Nat):Int)-((aT af.sz (a.Items):Nat):Int):=by rw[hs]<;>push_cast<;>omega
   rw[ba q,q2];simp[e0,n0,e1,n1]
  ·rw[aX c1]at e1;have q:¬((a.sz:Int)<=left):=by rw[hs]<;>push_cast<;>omega
   rw[aX q];simp[e0,n0,e1]
 ·have n0:left-(((a.Name).length:Nat):Int)<0:=by omega
  have q:¬((a.sz:Int)<=left):=by rw[hs]<;>push_cast<;>omega
  rw[aX q];simp[e0,n0]
theorem avT(a:aD)(h:a.sz<=1048576):M.CP a=some (a.Name,a.Items):=by
 unfold M.CP;have hs:=aD.cf a
 try simp only[aa.aB,aA.aB,af.aB]
 have e1:=avQ (a.Items) (by omega)
 try simp[e1]
theorem avU(a:aD)(h:a.sz<=1048576):M.C6 a a=some true:=by
 unfold M.C6;have hs:=aD.cf a
 try simp only[aa.aB,aA.aB,af.aB]
 have e1:=avR (a.Items) (by omega)
 try simp[e1]
theorem avV(a:List aD)(left:Int)(ok:gn aD.Ok a)(h0:0<=left)(h1:left<=1048576):M.Ci a left=some (if(aT aD.sz a:Int)<=left then left-aT aD.sz a else -1):=by
 have hl:=ok.1;unfold M.Ci;rw[wrap_i64 (by omega) (by omega)];refine rm (f:=aD.sz) (F:=M.vM  a) a left h0 h1 (fun g k l h2 h3 hk=>?_) (fun g l=>?_)
 ·have hn:k<2^62:=by omega
  rw[M.vM];have e:=avS a[k] l (ok.2 _ (cw hk)) h2 (by omega);by_cases d:((aD.sz a[k]:Nat):Int)<=l
  ·have n:¬(l-((aD.sz a[k]:Nat):Int)<0):=by omega
   rw[ba d]at e⊢;simp[hk,getD_lt hk,e,n,bS hk (show a.length<2^62 by omega),aa.aB,aA.aB,af.aB]
  ·rw[aX d]at e⊢;simp[hk,getD_lt hk,e,aa.aB,aA.aB,af.aB]
 ·rw[M.vM];simp
theorem avW(a:List aD)(ha:aT aD.sz a<=1048576):M.CQ a=some a:=by
 have hl:=df aD.sz a;have hn:a.length<=1048576:=by omega
 have hi:(a.length:Int)<=1073741824:=by omega
 have q:∀z,z.length=a.length->M.tQ  a Go.V.ah 0 z=some a:=rl (F:=M.tQ  a) a (by omega) (fun f k out h1 h2 hk=>by
  rw[M.tQ];have e:=avT a[k] (by have:=dK aD.sz a a[k] (cw hk);omega);simp[hk,h2,getD_lt hk,e,bS hk (dZ hn),aa.aB,aA.aB,af.aB]) (fun f out=>by rw[M.tQ];simp)
 unfold M.CQ;rw[q _ (by simp)];simp[hi]
theorem avX(a:List aD)(ha:aT aD.sz a<=1048576):M.C7 a a=some true:=by
 have hl:=df aD.sz a;have hn:a.length<=1048576:=by omega
 unfold M.C7;refine rn (F:=M.vV  a a) a hn (fun f k hk=>?_) (fun f=>?_)
 ·rw[M.vV];have e:=avU a[k] (by have:=dK aD.sz a a[k] (cw hk);omega);simp[hk,getD_lt hk,e,bS hk (dZ hn),aa.aB,aA.aB,af.aB]
 ·rw[M.vV];simp
theorem avY(a:aG)(left:Int)(ok:a.Ok)(h0:0<=left)(h1:left<=1048576):M.Cj a left=some (if(a.sz:Int)<=left then left-a.sz else -1):=by
 unfold M.Cj;have hs:=aG.cf a;have ok1:=(aG.ok_eq a).1 ok
 try simp only[aa.aB,aA.aB,af.aB]
 have e0:=NH (a.Path) (left) ok1.2.1 (by omega) (by omega);by_cases c0:(((a.Path).sz:Nat):Int)<=left
 ·rw[ba c0]at e0;have n0:¬(left-(((a.Path).sz:Nat):Int)<0):=by omega
  have q:(a.sz:Int)<=left:=by rw[hs]<;>push_cast<;>omega
  have q2:left-(a.sz:Int)=left-(((a.Path).sz:Nat):Int):=by rw[hs]<;>push_cast<;>omega
  rw[ba q,q2];simp[e0,n0]
 ·rw[aX c0]at e0;have q:¬((a.sz:Int)<=left):=by rw[hs]<;>push_cast<;>omega
  rw[aX q];simp[e0]
theorem avZ(a:aG)(h:a.sz<=1048576):M.HV a=some a:=by
 unfold M.HV;have hs:=aG.cf a
 try simp only[aa.aB,aA.aB,af.aB]
theorem av1(a:aG)(h:a.sz<=1048576):M.C9 a a=some true:=by
 unfold M.C9;have hs:=aG.cf a
 try simp only[aa.aB,aA.aB,af.aB]
 have e1:=NG (a.Path) (by omega)
 try simp[e1]
theorem av2(a:List aG)(left:Int)(ok:gn aG.Ok a)(h0:0<=left)(h1:left<=1048576):M.Cm a left=some (if(aT aG.sz a:Int)<=left then left-aT aG.sz a else -1):=by
 have hl:=ok.1;unfold M.Cm;rw[wrap_i64 (by omega) (by omega)];refine rm (f:=aG.sz) (F:=M.vN  a) a left h0 h1 (fun g k l h2 h3 hk=>?_) (fun g l=>?_)
 ·have hn:k<2^62:=by omega
  rw[M.vN];have e:=avY a[k] l (ok.2 _ (cw hk)) h2 (by omega);by_cases d:((aG.sz a[k]:Nat):Int)<=l
  ·have n:¬(l-((aG.sz a[k]:Nat):Int)<0):=by omega
   rw[ba d]at e⊢;simp[hk,getD_lt hk,e,n,bS hk (show a.length<2^62 by omega),aa.aB,aA.aB,af.aB]
  ·rw[aX d]at e⊢;simp[hk,getD_lt hk,e,aa.aB,aA.aB,af.aB]
 ·rw[M.vN];simp
theorem av3(a:List aG)(ha:aT aG.sz a<=1048576):M.CS a=some a:=by
 have hl:=df aG.sz a;have hn:a.length<=1048576:=by omega
 have hi:(a.length:Int)<=1073741824:=by omega
 have q:∀z,z.length=a.length->M.tR  a Go.V.ah 0 z=some a:=rl (F:=M.tR  a) a (by omega) (fun f k out h1 h2 hk=>by
  rw[M.tR];have e:=avZ a[k] (by have:=dK aG.sz a a[k] (cw hk);omega);simp[hk,h2,getD_lt hk,e,bS hk (dZ hn),aa.aB,aA.aB,af.aB]) (fun f out=>by rw[M.tR];simp)
 unfold M.CS;rw[q _ (by simp)];simp[hi]
theorem av4(a:List aG)(ha:aT aG.sz a<=1048576):M.Da a a=some true:=by
 have hl:=df aG.sz a;have hn:a.length<=1048576:=by omega
 unfold M.Da;refine rn (F:=M.vW  a a) a hn (fun f k hk=>?_) (fun f=>?_)
 ·rw[M.vW];have e:=av1 a[k] (by have:=dK aG.sz a a[k] (cw hk);omega);simp[hk,getD_lt hk,e,bS hk (dZ hn),aa.aB,aA.aB,af.aB]
 ·rw[M.vW];simp
theorem av5(a:aM)(left:Int)(ok:a.Ok)(h0:0<=left)(h1:left<=1048576):M.CB a left=some (if(a.sz:Int)<=left then left-a.sz else -1):=by
 unfold M.CB;have hs:=aM.cf a;have ok1:=(aM.ok_eq a).1 ok
 try simp only[aa.aB,aA.aB,af.aB]
 have e0:Go.IntKind.wrap .i64 (left-((a.Name).length:Int))=left-((a.Name).length:Int):=wrap_i64 (by have:=ok1.1;unfold dO at this;omega) (by omega);by_cases c0:(((a.Name).length:Nat):Int)<=left
 ·skip
  have n0:¬(left-(((a.Name).length:Nat):Int)<0):=by omega
  have e1:=av2 (a.Items) (left-(((a.Name).length:Nat):Int)) ok1.2.1 (by omega) (by omega);by_cases c1:((aT aG.sz (a.Items):Nat):Int)<=left-(((a.Name).length:Nat):Int)
  ·rw[ba c1]at e1;have n1:¬(left-(((a.Name).length:Nat):Int)-((aT aG.sz (a.Items):Nat):Int)<0):=by omega
   have q:(a.sz:Int)<=left:=by rw[hs]<;>push_cast<;>omega
   have q2:left-(a.sz:Int)=left-(((a.Name).length:Nat):Int)-((aT aG.sz (a.Items):Nat):Int):=by rw[hs]<;>push_cast<;>omega
   rw[ba q,q2];simp[e0,n0,e1,n1]
  ·rw[aX c1]at e1;have q:¬((a.sz:Int)<=left):=by rw[hs]<;>push_cast<;>omega
   rw[aX q];simp[e0,n0,e1]
 ·have n0:left-(((a.Name).length:Nat):Int)<0:=by omega
  have q:¬((a.sz:Int)<=left):=by rw[hs]<;>push_cast<;>omega
  rw[aX q];simp[e0,n0]
theorem av6(a:aM)(h:a.sz<=1048576):M.CU a=some (a.Name,a.Items):=by
 unfold M.CU;have hs:=aM.cf a
 try simp only[aa.aB,aA.aB,af.aB]
 have e1:=av3 (a.Items) (by omega)
 try simp[e1]
theorem av7(a:aM)(h:a.sz<=1048576):M.Db a a=some true:=by
 unfold M.Db;have hs:=aM.cf a
 try simp only[aa.aB,aA.aB,af.aB]
 have e1:=av4 (a.Items) (by omega)
 try simp[e1]
theorem av8(a:List aM)(left:Int)(ok:gn aM.Ok a)(h0:0<=left)(h1:left<=1048576):M.CC a left=some (if(aT aM.sz a:Int)<=left then left-aT aM.sz a else -1):=by
 have hl:=ok.1;unfold M.CC;rw[wrap_i64 (by omega) (by omega)];refine rm (f:=aM.sz) (F:=M.vO  a) a left h0 h1 (fun g k l h2 h3 hk=>?_) (fun g l=>?_)
 ·have hn:k<2^62:=by omega
  rw[M.vO];have e:=av5 a[k] l (ok.2 _ (cw hk)) h2 (by omega);by_cases d:((aM.sz a[k]:Nat):Int)<=l
  ·have n:¬(l-((aM.sz a[k]:Nat):Int)<0):=by omega
   rw[ba d]at e⊢;simp[hk,getD_lt hk,e,n,bS hk (show a.length<2^62 by omega),aa.aB,aA.aB,af.aB]
  ·rw[aX d]at e⊢;simp[hk,getD_lt hk,e,aa.aB,aA.aB,af.aB]
 ·rw[M.vO];simp
theorem av9(a:List aM)(ha:aT aM.sz a<=1048576):M.CV a=some a:=by
 have hl:=df aM.sz a;have hn:a.length<=1048576:=by omega
 have hi:(a.length:Int)<=1073741824:=by omega
 have q:∀z,z.length=a.length->M.tU  a Go.V.ah 0 z=some a:=rl (F:=M.tU  a) a (by omega) (fun f k out h1 h2 hk=>by
  rw[M.tU];have e:=av6 a[k] (by have:=dK aM.sz a a[k] (cw hk);omega);simp[hk,h2,getD_lt hk,e,bS hk (dZ hn),aa.aB,aA.aB,af.aB]) (fun f out=>by rw[M.tU];simp)
 unfold M.CV;rw[q _ (by simp)];simp[hi]
theorem awc(a:List aM)(ha:aT aM.sz a<=1048576):M.Dc a a=some true:=by
 have hl:=df aM.sz a;have hn:a.length<=1048576:=by omega
 unfold M.Dc;refine rn (F:=M.vX  a a) a hn (fun f k hk=>?_) (fun f=>?_)
 ·rw[M.vX];have e:=av7 a[k] (by have:=dK aM.sz a a[k] (cw hk);omega);simp[hk,getD_lt hk,e,bS hk (dZ hn),aa.aB,aA.aB,af.aB]
 ·rw[M.vX];simp
theorem awd(a:ai)(left:Int)(ok:a.Ok)(h0:0<=left)(h1:left<=1048576):M.CE a left=some (if(a.sz:Int)<=left then left-a.sz else -1):=by
 unfold M.CE;have hs:=ai.cf a;have ok1:=(ai.ok_eq a).1 ok
 try simp only[aa.aB,aA.aB,af.aB]
 have e0:Go.IntKind.wrap .i64 (left-((a.Name).length:Int))=left-((a.Name).length:Int):=wrap_i64 (by have:=ok1.1;unfold dO at this;omega) (by omega);by_cases c0:(((a.Name).length:Nat):Int)<=left
 ·skip
  have n0:¬(left-(((a.Name).length:Nat):Int)<0):=by omega
  have e1:Go.IntKind.wrap .i64 (left-(((a.Name).length:Nat):Int)-((a.Version).length:Int))=left-(((a.Name).length:Nat):Int)-((a.Version).length:Int):=wrap_i64 (by have:=ok1.2.1;unfold dO at this;omega) (by omega);by_cases c1:(((a.Version).length:Nat):Int)<=left-(((a.Name).length:Nat):Int)
  ·skip
   have n1:¬(left-(((a.Name).length:Nat):Int)-(((a.Version).length:Nat):Int)<0):=by omega
   have e2:=avV (a.aF) (left-(((a.Name).length:Nat):Int)-(((a.Version).length:Nat):Int)) ok1.2.2.1 (by omega) (by omega);by_cases c2:((aT aD.sz (a.aF):Nat):Int)<=left-(((a.Name).length:Nat):Int)-(((a.Version).length:Nat):Int)
   ·rw[ba c2]at e2;have n2:¬(left-(((a.Name).length:Nat):Int)-(((a.Version).length:Nat):Int)-((aT aD.sz (a.aF):Nat):Int)<0):=by omega
    have e3:=av8 (a.Worlds) (left-(((a.Name).length:Nat):Int)-(((a.Version).length:Nat):Int)-((aT aD.sz (a.aF):Nat):Int)) ok1.2.2.2.1 (by omega) (by omega);by_cases c3:((aT aM.sz (a.Worlds):Nat):Int)<=left-(((a.Name).length:Nat):Int)-(((a.Version).length:Nat):Int)-((aT aD.sz (a.aF):Nat):Int)
    ·rw[ba c3]at e3;have n3:¬(left-(((a.Name).length:Nat):Int)-(((a.Version).length:Nat):Int)-((aT aD.sz (a.aF):Nat):Int)-((aT aM.sz (a.Worlds):Nat):Int)<0):=by omega
     have q:(a.sz:Int)<=left:=by rw[hs]<;>push_cast<;>omega
     have q2:left-(a.sz:Int)=left-(((a.Name).length:Nat):Int)-(((a.Version).length:Nat):Int)-((aT aD.sz (a.aF):Nat):Int)-((aT aM.sz (a.Worlds):Nat):Int):=by rw[hs]<;>push_cast<;>omega
     rw[ba q,q2];simp[e0,n0,e1,n1,e2,n2,e3,n3]
    ·rw[aX c3]at e3;have q:¬((a.sz:Int)<=left):=by rw[hs]<;>push_cast<;>omega
     rw[aX q];simp[e0,n0,e1,n1,e2,n2,e3]
   ·rw[aX c2]at e2;have q:¬((a.sz:Int)<=left):=by rw[hs]<;>push_cast<;>omega
    rw[aX q];simp[e0,n0,e1,n1,e2]
  ·have n1:left-(((a.Name).length:Nat):Int)-(((a.Version).length:Nat):Int)<0:=by omega
   have q:¬((a.sz:Int)<=left):=by rw[hs]<;>push_cast<;>omega
   rw[aX q];simp[e0,n0,e1,n1]
 ·have n0:left-(((a.Name).length:Nat):Int)<0:=by omega
  have q:¬((a.sz:Int)<=left):=by rw[hs]<;>push_cast<;>omega
  rw[aX q];simp[e0,n0]
theorem awe(a:ai)(h:a.sz<=1048576):M.CW a=some (a.Name,a.Version,a.aF,a.Worlds):=by
 unfold M.CW;have hs:=ai.cf a
 try simp only[aa.aB,aA.aB,af.aB]
 have e2:=avW (a.aF) (by omega);have e3:=av9 (a.Worlds) (by omega)
 try simp[e2,e3]
theorem awf(a:ai)(h:a.sz<=1048576):M.Df a a=some true:=by
 unfold M.Df;have hs:=ai.cf a
 try simp only[aa.aB,aA.aB,af.aB]
 have e2:=avX (a.aF) (by omega);have e3:=awc (a.Worlds) (by omega)
 try simp[e2,e3]
theorem amj(a:List ai)(left:Int)(ok:gn ai.Ok a)(h0:0<=left)(h1:left<=1048576):M.Dj a left=some (if(aT ai.sz a:Int)<=left then left-aT ai.sz a else -1):=by
 have hl:=ok.1;unfold M.Dj;rw[wrap_i64 (by omega) (by omega)];refine rm (f:=ai.sz) (F:=M.vZ  a) a left h0 h1 (fun g k l h2 h3 hk=>?_) (fun g l=>?_)
 ·have hn:k<2^62:=by omega
  rw[M.vZ];have e:=awd a[k] l (ok.2 _ (cw hk)) h2 (by omega);by_cases d:((ai.sz a[k]:Nat):Int)<=l
  ·have n:¬(l-((ai.sz a[k]:Nat):Int)<0):=by omega
   rw[ba d]at e⊢;simp[hk,getD_lt hk,e,n,bS hk (show a.length<2^62 by omega),aa.aB,aA.aB,af.aB]
  ·rw[aX d]at e⊢;simp[hk,getD_lt hk,e,aa.aB,aA.aB,af.aB]
 ·rw[M.vZ];simp
theorem amk(a:List ai)(ha:aT ai.sz a<=1048576):M.Dk a=some a:=by
 have hl:=df ai.sz a;have hn:a.length<=1048576:=by omega
 have hi:(a.length:Int)<=1073741824:=by omega
 have q:∀z,z.length=a.length->M.tX  a Go.V.ah 0 z=some a:=rl (F:=M.tX  a) a (by omega) (fun f k out h1 h2 hk=>by
  rw[M.tX];have e:=awe a[k] (by have:=dK ai.sz a a[k] (cw hk);omega);simp[hk,h2,getD_lt hk,e,bS hk (dZ hn),aa.aB,aA.aB,af.aB]) (fun f out=>by rw[M.tX];simp)
 unfold M.Dk;rw[q _ (by simp)];simp[hi]
theorem aml(a:List ai)(ha:aT ai.sz a<=1048576):M.Dl a a=some true:=by
 have hl:=df ai.sz a;have hn:a.length<=1048576:=by omega
 unfold M.Dl;refine rn (F:=M.v7  a a) a hn (fun f k hk=>?_) (fun f=>?_)
 ·rw[M.v7];have e:=awf a[k] (by have:=dK ai.sz a a[k] (cw hk);omega);simp[hk,getD_lt hk,e,bS hk (dZ hn),aa.aB,aA.aB,af.aB]
 ·rw[M.v7];simp
end M
