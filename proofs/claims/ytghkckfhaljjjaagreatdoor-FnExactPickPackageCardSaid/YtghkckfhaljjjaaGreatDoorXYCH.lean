/-
  Part of the proof of the claim.
-/
import Derived.Test.YtghkckfhaljjjaaGreatDoorXYCM
import Derived.Test.YtghkckfhaljjjaaGreatDoorXXlaw
import Derived.Test.YtghkckfhaljjjaaGreatDoorXXpl
set_option linter.unusedVariables false
set_option linter.unusedSimpArgs false
namespace M
def d4(s:List UInt8):Prop:=s.length<=9223372036854775807
def gm{α:Type}(p:α->Prop)(l:List α):Prop:=l.length<=9223372036854775807/\∀x∈l,p x
def bc.sz(a:bc):Nat:=(a.ba).length+(a.Name).length+(a.Version).length
theorem bc.cu(a:bc):a.sz=(a.ba).length+(a.Name).length+(a.Version).length:=rfl
def bc.Ok(a:bc):Prop:=d4 (a.ba)/\d4 (a.Name)/\d4 (a.Version)/\True
theorem bc.ok_eq(a:bc):a.Ok↔(d4 (a.ba)/\d4 (a.Name)/\d4 (a.Version)/\True):=kW
mutual
def aa.sz:aa->Nat
 |.mk v0 v1 v2 v3=>(v1).length+aQ List.length (v2)+aa.Il v3
def aa.Il:List aa->Nat
 |[]=>0
 |t::r=>aa.sz t+1+aa.Il r
end
theorem aa.adE:∀l:List aa,aa.Il l=aQ aa.sz l
 |[]=>rfl
 |t::r=>by simp only[aa.Il,aQ,aa.adE r]
theorem aa.cu(a:aa):a.sz=(a.Name).length+aQ List.length (a.bj)+aQ aa.sz (a.Kids):=by cases a;simp only[aa.sz,aa.adE];rfl
mutual
def aa.Ok:aa->Prop
 |.mk v0 v1 v2 v3=>I64 (v0)/\d4 (v1)/\gm d4 (v2)/\(v3.length<=9223372036854775807/\aa.tH v3)/\True
def aa.tH:List aa->Prop
 |[]=>True
 |t::r=>aa.Ok t/\aa.tH r
end
theorem aa.adF:∀l:List aa,aa.tH l↔∀x∈l,aa.Ok x
 |[]=>by simp[aa.tH]
 |t::r=>by simp[aa.tH,aa.adF r]
theorem aa.ok_eq(a:aa):a.Ok↔(I64 (a.Kind)/\d4 (a.Name)/\gm d4 (a.bj)/\gm aa.Ok (a.Kids)/\True):=by
 cases a;simp only[aa.Ok,aa.adF,gm];exact kW
def az.sz(a:az):Nat:=(a.Name).length+(a.Term).sz
theorem az.cu(a:az):a.sz=(a.Name).length+(a.Term).sz:=rfl
def az.Ok(a:az):Prop:=d4 (a.Name)/\aa.Ok (a.Term)/\True
theorem az.ok_eq(a:az):a.Ok↔(d4 (a.Name)/\aa.Ok (a.Term)/\True):=kW
def aM.sz(a:aM):Nat:=(a.Name).length+(a.As).length
theorem aM.cu(a:aM):a.sz=(a.Name).length+(a.As).length:=rfl
def aM.Ok(a:aM):Prop:=d4 (a.Name)/\d4 (a.As)/\True
theorem aM.ok_eq(a:aM):a.Ok↔(d4 (a.Name)/\d4 (a.As)/\True):=kW
def ah.sz(a:ah):Nat:=(a.Name).length+(a.Term).sz+aQ az.sz (a.Params)+(a.From).sz+aQ aM.sz (a.Uses)
theorem ah.cu(a:ah):a.sz=(a.Name).length+(a.Term).sz+aQ az.sz (a.Params)+(a.From).sz+aQ aM.sz (a.Uses):=rfl
def ah.Ok(a:ah):Prop:=I64 (a.Kind)/\d4 (a.Name)/\aa.Ok (a.Term)/\gm az.Ok (a.Params)/\True/\bc.Ok (a.From)/\gm aM.Ok (a.Uses)/\True
theorem ah.ok_eq(a:ah):a.Ok↔(I64 (a.Kind)/\d4 (a.Name)/\aa.Ok (a.Term)/\gm az.Ok (a.Params)/\True/\bc.Ok (a.From)/\gm aM.Ok (a.Uses)/\True):=kW
def aE.sz(a:aE):Nat:=(a.Name).length+aQ ah.sz (a.Items)
theorem aE.cu(a:aE):a.sz=(a.Name).length+aQ ah.sz (a.Items):=rfl
def aE.Ok(a:aE):Prop:=d4 (a.Name)/\gm ah.Ok (a.Items)/\True
theorem aE.ok_eq(a:aE):a.Ok↔(d4 (a.Name)/\gm ah.Ok (a.Items)/\True):=kW
def aH.sz(a:aH):Nat:=(a.Path).sz
theorem aH.cu(a:aH):a.sz=(a.Path).sz:=rfl
def aH.Ok(a:aH):Prop:=I64 (a.Kind)/\bc.Ok (a.Path)/\True
theorem aH.ok_eq(a:aH):a.Ok↔(I64 (a.Kind)/\bc.Ok (a.Path)/\True):=kW
def aJ.sz(a:aJ):Nat:=(a.Name).length+aQ aH.sz (a.Items)
theorem aJ.cu(a:aJ):a.sz=(a.Name).length+aQ aH.sz (a.Items):=rfl
def aJ.Ok(a:aJ):Prop:=d4 (a.Name)/\gm aH.Ok (a.Items)/\True
theorem aJ.ok_eq(a:aJ):a.Ok↔(d4 (a.Name)/\gm aH.Ok (a.Items)/\True):=kW
def aj.sz(a:aj):Nat:=(a.Name).length+(a.Version).length+aQ aE.sz (a.aF)+aQ aJ.sz (a.Worlds)
theorem aj.cu(a:aj):a.sz=(a.Name).length+(a.Version).length+aQ aE.sz (a.aF)+aQ aJ.sz (a.Worlds):=rfl
def aj.Ok(a:aj):Prop:=d4 (a.Name)/\d4 (a.Version)/\gm aE.Ok (a.aF)/\gm aJ.Ok (a.Worlds)/\True
theorem aj.ok_eq(a:aj):a.Ok↔(d4 (a.Name)/\d4 (a.Version)/\gm aE.Ok (a.aF)/\gm aJ.Ok (a.Worlds)/\True):=kW
theorem bc.iW(a:bc)(h:∀m,Go.V.lK m .Path a):a.Ok:=⟨(h 0).1,(h 0).2.1,(h 0).2.2.1,trivial⟩
mutual
theorem aa.iW:∀(a:aa),(∀m,Go.V.lK m .Term a)->a.Ok
 |.mk v0 v1 v2 v3,h=>by
   simp only[aa.Ok];exact⟨(h 0).1,(h 0).2.1,⟨((h 0).2.2.1).1,fun y hy=>((fun m=>((h (m+1)).2.2.1).2 y hy) 0).1⟩,⟨((h 0).2.2.2.1).1,(aa.adG _ fun y hy m=>((h (m+1)).2.2.2.1).2 y hy)⟩,trivial⟩
theorem aa.adG:∀(l:List aa),(∀y∈l,∀m,Go.V.lK m .Term y)->aa.tH l
 |[],_=>by simp only[aa.tH]
 |t::r,h=>by
  simp only[aa.tH];exact⟨aa.iW t (h t (by simp)),aa.adG r fun y hy=>h y (by simp[hy])⟩
end
theorem az.iW(a:az)(h:∀m,Go.V.lK m .cY a):a.Ok:=⟨(h 0).1,(aa.iW (a.Term) (fun m=>by cases m with|zero=>exact⟨(h 0).2.1,(h 0).2.2.1,(h 0).2.2.2.1,(h 0).2.2.2.2.1,trivial⟩|succ m=>exact⟨(h (m+1)).2.1,(h (m+1)).2.2.1,(h (m+1)).2.2.2.1,(h (m+1)).2.2.2.2.1,trivial⟩)),trivial⟩
theorem aM.iW(a:aM)(h:∀m,Go.V.lK m .dc a):a.Ok:=⟨(h 0).1,(h 0).2.1,trivial⟩
theorem ah.iW(a:ah)(h:∀m,Go.V.lK m .Item a):a.Ok:=⟨(h 0).1,(h 0).2.1,(aa.iW (a.Term) (fun m=>by cases m with|zero=>exact⟨(h 0).2.2.1,(h 0).2.2.2.1,(h 0).2.2.2.2.1,(h 0).2.2.2.2.2.1,trivial⟩|succ m=>exact⟨(h (m+1)).2.2.1,(h (m+1)).2.2.2.1,(h (m+1)).2.2.2.2.1,(h (m+1)).2.2.2.2.2.1,trivial⟩)),⟨((h 0).2.2.2.2.2.2.1).1,fun y hy=>az.iW y (fun m=>((h (m+1)).2.2.2.2.2.2.1).2 y hy)⟩,trivial,(bc.iW (a.From) (fun m=>by cases m with|zero=>exact⟨(h 0).2.2.2.2.2.2.2.2.1,(h 0).2.2.2.2.2.2.2.2.2.1,(h 0).2.2.2.2.2.2.2.2.2.2.1,trivial⟩|succ m=>exact⟨(h (m+1)).2.2.2.2.2.2.2.2.1,(h (m+1)).2.2.2.2.2.2.2.2.2.1,(h (m+1)).2.2.2.2.2.2.2.2.2.2.1,trivial⟩)),⟨((h 0).2.2.2.2.2.2.2.2.2.2.2.1).1,fun y hy=>aM.iW y (fun m=>((h (m+1)).2.2.2.2.2.2.2.2.2.2.2.1).2 y hy)⟩,trivial⟩
theorem aE.iW(a:aE)(h:∀m,Go.V.lK m .cD a):a.Ok:=⟨(h 0).1,⟨((h 0).2.1).1,fun y hy=>ah.iW y (fun m=>((h (m+1)).2.1).2 y hy)⟩,trivial⟩
theorem aH.iW(a:aH)(h:∀m,Go.V.lK m .dr a):a.Ok:=⟨(h 0).1,(bc.iW (a.Path) (fun m=>by cases m with|zero=>exact⟨(h 0).2.1,(h 0).2.2.1,(h 0).2.2.2.1,trivial⟩|succ m=>exact⟨(h (m+1)).2.1,(h (m+1)).2.2.1,(h (m+1)).2.2.2.1,trivial⟩)),trivial⟩
theorem aJ.iW(a:aJ)(h:∀m,Go.V.lK m .cX a):a.Ok:=⟨(h 0).1,⟨((h 0).2.1).1,fun y hy=>aH.iW y (fun m=>((h (m+1)).2.1).2 y hy)⟩,trivial⟩
theorem aj.iW(a:aj)(h:∀m,Go.V.lK m .ba a):a.Ok:=⟨(h 0).1,(h 0).2.1,⟨((h 0).2.2.1).1,fun y hy=>aE.iW y (fun m=>((h (m+1)).2.2.1).2 y hy)⟩,⟨((h 0).2.2.2.1).1,fun y hy=>aJ.iW y (fun m=>((h (m+1)).2.2.2.1).2 y hy)⟩,trivial⟩
theorem asM(a:List (List UInt8))(left:Int)(ok:gm d4 a)(h0:0<=left)(h1:left<=1048576):M.Bq a left=some (if(aQ List.length a:Int)<=left then left-aQ List.length a else -1):=by
 have hl:=ok.1;unfold M.Bq;rw[wrap_i64 (by omega) (by omega)];refine qS (f:=List.length) (F:=M.vO  a) a left h0 h1 (fun g k l h2 h3 hk=>?_) (fun g l=>?_)
 ·have hn:k<2^62:=by omega
  rw[M.vO];have w:Go.IntKind.wrap .i64 (l-((a[k]).length:Int))=l-(a[k]).length:=wrap_i64 (by have:=ok.2 a[k] (cE hk);unfold d4 at this;omega) (by omega);by_cases d:((a[k]).length:Int)<=l
  ·have n:¬(l-((a[k]).length:Int)<0):=by omega
   rw[aY d];simp[hk,getD_lt hk,w,n,bZ hk (show a.length<2^62 by omega)]
  ·have n:l-((a[k]).length:Int)<0:=by omega
   rw[aT d];simp[hk,getD_lt hk,w,n]
 ·rw[M.vO];simp
theorem asN(a:List (List UInt8))(ha:aQ List.length a<=1048576):M.BK a=some a:=by
 have hl:=de List.length a;have hn:a.length<=1048576:=by omega
 have hi:(a.length:Int)<=1073741824:=by omega
 have q:∀z,z.length=a.length->M.tD  a Go.V.ad 0 z=some a:=qR (F:=M.tD  a) a (by omega) (fun f k out h1 h2 hk=>by
  rw[M.tD];simp[hk,h2,getD_lt hk,bZ hk (dY hn)]) (fun f out=>by rw[M.tD];simp)
 unfold M.BK;rw[q _ (by simp)];simp[hi]
theorem asO(a:List (List UInt8))(ha:aQ List.length a<=1048576):M.BZ a a=some true:=by
 have hl:=de List.length a;have hn:a.length<=1048576:=by omega
 unfold M.BZ;refine qT (F:=M.vP  a a) a hn (fun f k hk=>?_) (fun f=>?_)
 ·rw[M.vP];simp[hk,getD_lt hk,bZ hk (dY hn)]
 ·rw[M.vP];simp
theorem adH(a:bc)(left:Int)(ok:a.Ok)(h0:0<=left)(h1:left<=1048576):M.vv a left=some (if(a.sz:Int)<=left then left-a.sz else -1):=by
 unfold M.vv;have hs:=bc.cu a;have ok1:=(bc.ok_eq a).1 ok
 try simp only[aa.aC,az.aC,ah.aC]
 have e0:Go.IntKind.wrap .i64 (left-((a.ba).length:Int))=left-((a.ba).length:Int):=wrap_i64 (by have:=ok1.1;unfold d4 at this;omega) (by omega);by_cases c0:(((a.ba).length:Nat):Int)<=left
 ·skip
  have n0:¬(left-(((a.ba).length:Nat):Int)<0):=by omega
  have e1:Go.IntKind.wrap .i64 (left-(((a.ba).length:Nat):Int)-((a.Name).length:Int))=left-(((a.ba).length:Nat):Int)-((a.Name).length:Int):=wrap_i64 (by have:=ok1.2.1;unfold d4 at this;omega) (by omega);by_cases c1:(((a.Name).length:Nat):Int)<=left-(((a.ba).length:Nat):Int)
  ·skip
   have n1:¬(left-(((a.ba).length:Nat):Int)-(((a.Name).length:Nat):Int)<0):=by omega
   have e2:Go.IntKind.wrap .i64 (left-(((a.ba).length:Nat):Int)-(((a.Name).length:Nat):Int)-((a.Version).length:Int))=left-(((a.ba).length:Nat):Int)-(((a.Name).length:Nat):Int)-((a.Version).length:Int):=wrap_i64 (by have:=ok1.2.2.1;unfold d4 at this;omega) (by omega);by_cases c2:(((a.Version).length:Nat):Int)<=left-(((a.ba).length:Nat):Int)-(((a.Name).length:Nat):Int)
   ·skip
    have n2:¬(left-(((a.ba).length:Nat):Int)-(((a.Name).length:Nat):Int)-(((a.Version).length:Nat):Int)<0):=by omega
    have q:(a.sz:Int)<=left:=by rw[hs]<;>push_cast<;>omega
    have q2:left-(a.sz:Int)=left-(((a.ba).length:Nat):Int)-(((a.Name).length:Nat):Int)-(((a.Version).length:Nat):Int):=by rw[hs]<;>push_cast<;>omega
    rw[aY q,q2];simp[e0,n0,e1,n1,e2,n2]
   ·have n2:left-(((a.ba).length:Nat):Int)-(((a.Name).length:Nat):Int)-(((a.Version).length:Nat):Int)<0:=by omega
    have q:¬((a.sz:Int)<=left):=by rw[hs]<;>push_cast<;>omega
    rw[aT q];simp[e0,n0,e1,n1,e2,n2]
  ·have n1:left-(((a.ba).length:Nat):Int)-(((a.Name).length:Nat):Int)<0:=by omega
   have q:¬((a.sz:Int)<=left):=by rw[hs]<;>push_cast<;>omega
   rw[aT q];simp[e0,n0,e1,n1]
 ·have n0:left-(((a.ba).length:Nat):Int)<0:=by omega
  have q:¬((a.sz:Int)<=left):=by rw[hs]<;>push_cast<;>omega
  rw[aT q];simp[e0,n0]
theorem asP(a:bc)(h:a.sz<=1048576):M.BN a=some a:=by
 unfold M.BN;have hs:=bc.cu a
 try simp only[aa.aC,az.aC,ah.aC]
 try simp[]
theorem adI(a:bc)(h:a.sz<=1048576):M.vG a a=some true:=by
 unfold M.vG;have hs:=bc.cu a
 try simp only[aa.aC,az.aC,ah.aC]
 try simp[]
theorem asQ(r:aa->Int->Option Int)(a:List aa)(left:Int)(ok:gm aa.Ok a)(h0:0<=left)(h1:left<=1048576)(hr:∀x l,x∈a->0<=l->l<left->r x l=some (if(x.sz:Int)<=l then l-x.sz else -1)):M.Bo r a left=some (if(aQ aa.sz a:Int)<=left then left-aQ aa.sz a else -1):=by
 have hl:=ok.1;unfold M.Bo;rw[wrap_i64 (by omega) (by omega)];refine qS (f:=aa.sz) (F:=M.vr r  a) a left h0 h1 (fun g k l h2 h3 hk=>?_) (fun g l=>?_)
 ·have hn:k<2^62:=by omega
  rw[M.vr];have e:=hr a[k] l (cE hk) h2 (by omega);by_cases d:((aa.sz a[k]:Nat):Int)<=l
  ·have n:¬(l-((aa.sz a[k]:Nat):Int)<0):=by omega
   rw[aY d]at e⊢;simp[hk,getD_lt hk,e,n,bZ hk (show a.length<2^62 by omega),aa.aC,az.aC,ah.aC]
  ·rw[aT d]at e⊢;simp[hk,getD_lt hk,e,aa.aC,az.aC,ah.aC]
 ·rw[M.vr];simp
theorem asT(r:aa->Option (Int×(List UInt8)×(List (List UInt8))×(List aa)))(a:List aa)(ha:a.length<=1048576)(hr:∀x∈a,r x=some (x.Kind,x.Name,x.bj,x.Kids)):M.BJ r a=some a:=by
 have hn:a.length<=1048576:=by omega
 have hi:(a.length:Int)<=1073741824:=by omega
 have q:∀z,z.length=a.length->M.tl r  a Go.V.ad 0 z=some a:=qR (F:=M.tl r  a) a (by omega) (fun f k out h1 h2 hk=>by
  rw[M.tl];have e:=hr a[k] (cE hk);simp[hk,h2,getD_lt hk,e,bZ hk (dY hn),aa.aC,az.aC,ah.aC,aa.eta]) (fun f out=>by rw[M.tl];simp)
 unfold M.BJ;rw[q _ (by simp)];simp[hi]
theorem asU(r:aa->aa->Option Bool)(a:List aa)(ha:a.length<=1048576)(hr:∀x∈a,r x x=some true):M.BY r a a=some true:=by
 have hn:a.length<=1048576:=by omega
 unfold M.BY;refine qT (F:=M.vD r  a a) a hn (fun f k hk=>?_) (fun f=>?_)
 ·rw[M.vD];have e:=hr a[k] (cE hk);simp[hk,getD_lt hk,e,bZ hk (dY hn),aa.aC,az.aC,ah.aC]
 ·rw[M.vD];simp
theorem adJ:∀(n:Nat)(a:aa)(left:Int),a.Ok->0<=left->left<n->left<=1048576->M.vt n a left=some (if(a.sz:Int)<=left then left-a.sz else -1)
 |0,a,left,ok,h0,h2,h1=>by omega
 |n+1,a,left,ok,h0,h2,h1=>by
  show M.Gq (M.vt n) a left=_
  unfold M.Gq;have hs:=aa.cu a;have ok1:=(aa.ok_eq a).1 ok
  try simp only[aa.aC,az.aC,ah.aC]
  have e0:Go.IntKind.wrap .i64 (left-((a.Name).length:Int))=left-((a.Name).length:Int):=wrap_i64 (by have:=ok1.2.1;unfold d4 at this;omega) (by omega);by_cases c0:(((a.Name).length:Nat):Int)<=left
  ·skip
   have n0:¬(left-(((a.Name).length:Nat):Int)<0):=by omega
   have e1:=asM (a.bj) (left-(((a.Name).length:Nat):Int)) ok1.2.2.1 (by omega) (by omega);by_cases c1:((aQ List.length (a.bj):Nat):Int)<=left-(((a.Name).length:Nat):Int)
   ·rw[aY c1]at e1;have n1:¬(left-(((a.Name).length:Nat):Int)-((aQ List.length (a.bj):Nat):Int)<0):=by omega
    have e2:=asQ (M.vt n) (a.Kids) (left-(((a.Name).length:Nat):Int)-((aQ List.length (a.bj):Nat):Int)) ok1.2.2.2.1 (by omega) (by omega) (fun x l hx q0 q1=>adJ n x l ((ok1.2.2.2.1).2 x hx) q0 (by omega) (by omega));by_cases c2:((aQ aa.sz (a.Kids):Nat):Int)<=left-(((a.Name).length:Nat):Int)-((aQ List.length (a.bj):Nat):Int)
    ·rw[aY c2]at e2;have n2:¬(left-(((a.Name).length:Nat):Int)-((aQ List.length (a.bj):Nat):Int)-((aQ aa.sz (a.Kids):Nat):Int)<0):=by omega
     have q:(a.sz:Int)<=left:=by rw[hs]<;>push_cast<;>omega
     have q2:left-(a.sz:Int)=left-(((a.Name).length:Nat):Int)-((aQ List.length (a.bj):Nat):Int)-((aQ aa.sz (a.Kids):Nat):Int):=by rw[hs]<;>push_cast<;>omega
     rw[aY q,q2];simp[e0,n0,e1,n1,e2,n2]
    ·rw[aT c2]at e2;have q:¬((a.sz:Int)<=left):=by rw[hs]<;>push_cast<;>omega
     rw[aT q];simp[e0,n0,e1,n1,e2]
   ·rw[aT c1]at e1;have q:¬((a.sz:Int)<=left):=by rw[hs]<;>push_cast<;>omega
    rw[aT q];simp[e0,n0,e1]
  ·have n0:left-(((a.Name).length:Nat):Int)<0:=by omega
   have q:¬((a.sz:Int)<=left):=by rw[hs]<;>push_cast<;>omega
   rw[aT q];simp[e0,n0]
theorem adK(a:aa)(left:Int)(ok:a.Ok)(h0:0<=left)(h1:left<=1048576):M.yk a left=some (if(a.sz:Int)<=left then left-a.sz else -1):=
 adJ _ a left ok h0 (by have:=Go.V.bz;omega) h1
theorem adL:∀(n:Nat)(a:aa),a.sz<n->a.sz<=1048576->M.vC n a=some (a.Kind,a.Name,a.bj,a.Kids)
 |0,a,h2,h=>by omega
 |n+1,a,h2,h=>by
  show M.Gz (M.vC n) a=_
  unfold M.Gz;have hs:=aa.cu a
  try simp only[aa.aC,az.aC,ah.aC]
  have e2:=asN (a.bj) (by omega);have hk3:=de aa.sz (a.Kids);have e3:=asT (M.vC n) (a.Kids) (by omega) (fun x hx=>adL n x (by have:=dL aa.sz (a.Kids) x hx;have:=EO aa.sz (a.Kids) x hx;omega) (by have:=dL aa.sz (a.Kids) x hx;omega))
  try simp[e2,e3,aa.eta]
theorem adM(a:aa)(h:a.sz<=1048576):M.yl a=some (a.Kind,a.Name,a.bj,a.Kids):=
 adL _ a (by have:=Go.V.bz;omega) h
theorem adN:∀(n:Nat)(a:aa),a.sz<n->a.sz<=1048576->M.vE n a a=some true
 |0,a,h2,h=>by omega
 |n+1,a,h2,h=>by
  show M.GQ (M.vE n) a a=_
  unfold M.GQ;have hs:=aa.cu a
  try simp only[aa.aC,az.aC,ah.aC]
  have e2:=asO (a.bj) (by omega);have hk3:=de aa.sz (a.Kids);have e3:=asU (M.vE n) (a.Kids) (by omega) (fun x hx=>adN n x (by have:=dL aa.sz (a.Kids) x hx;have:=EO aa.sz (a.Kids) x hx;omega) (by have:=dL aa.sz (a.Kids) x hx;omega))
  try simp[e2,e3,aa.eta]
theorem adO(a:aa)(h:a.sz<=1048576):M.ym a a=some true:=
 adN _ a (by have:=Go.V.bz;omega) h
theorem asV(a:az)(left:Int)(ok:a.Ok)(h0:0<=left)(h1:left<=1048576):M.Br a left=some (if(a.sz:Int)<=left then left-a.sz else -1):=by
 unfold M.Br;have hs:=az.cu a;have ok1:=(az.ok_eq a).1 ok
 try simp only[aa.aC,az.aC,ah.aC]
 have e0:Go.IntKind.wrap .i64 (left-((a.Name).length:Int))=left-((a.Name).length:Int):=wrap_i64 (by have:=ok1.1;unfold d4 at this;omega) (by omega);by_cases c0:(((a.Name).length:Nat):Int)<=left
 ·skip
  have n0:¬(left-(((a.Name).length:Nat):Int)<0):=by omega
  have e1:=adK (a.Term) (left-(((a.Name).length:Nat):Int)) ok1.2.1 (by omega) (by omega);by_cases c1:(((a.Term).sz:Nat):Int)<=left-(((a.Name).length:Nat):Int)
  ·rw[aY c1]at e1;have n1:¬(left-(((a.Name).length:Nat):Int)-(((a.Term).sz:Nat):Int)<0):=by omega
   have q:(a.sz:Int)<=left:=by rw[hs]<;>push_cast<;>omega
   have q2:left-(a.sz:Int)=left-(((a.Name).length:Nat):Int)-(((a.Term).sz:Nat):Int):=by rw[hs]<;>push_cast<;>omega
   rw[aY q,q2];simp[e0,n0,e1,n1]
  ·rw[aT c1]at e1;have q:¬((a.sz:Int)<=left):=by rw[hs]<;>push_cast<;>omega
   rw[aT q];simp[e0,n0,e1]
 ·have n0:left-(((a.Name).length:Nat):Int)<0:=by omega
  have q:¬((a.sz:Int)<=left):=by rw[hs]<;>push_cast<;>omega
  rw[aT q];simp[e0,n0]
theorem asW(a:az)(h:a.sz<=1048576):M.BL a=some (a.Name,a.Term.Kind,a.Term.Name,a.Term.bj,a.Term.Kids):=by
 unfold M.BL;have hs:=az.cu a
 try simp only[aa.aC,az.aC,ah.aC]
 have e1:=adM (a.Term) (by omega)
 try simp[e1]
theorem asX(a:az)(h:a.sz<=1048576):M.B0 a a=some true:=by
 unfold M.B0;have hs:=az.cu a
 try simp only[aa.aC,az.aC,ah.aC]
 have e1:=adO (a.Term) (by omega)
 try simp[e1]
theorem asY(a:List az)(left:Int)(ok:gm az.Ok a)(h0:0<=left)(h1:left<=1048576):M.Bt a left=some (if(aQ az.sz a:Int)<=left then left-aQ az.sz a else -1):=by
 have hl:=ok.1;unfold M.Bt;rw[wrap_i64 (by omega) (by omega)];refine qS (f:=az.sz) (F:=M.vu  a) a left h0 h1 (fun g k l h2 h3 hk=>?_) (fun g l=>?_)
 ·have hn:k<2^62:=by omega
  rw[M.vu];have e:=asV a[k] l (ok.2 _ (cE hk)) h2 (by omega);by_cases d:((az.sz a[k]:Nat):Int)<=l
  ·have n:¬(l-((az.sz a[k]:Nat):Int)<0):=by omega
   rw[aY d]at e⊢;simp[hk,getD_lt hk,e,n,bZ hk (show a.length<2^62 by omega),aa.aC,az.aC,ah.aC]
  ·rw[aT d]at e⊢;simp[hk,getD_lt hk,e,aa.aC,az.aC,ah.aC]
 ·rw[M.vu];simp
theorem asZ(a:List az)(ha:aQ az.sz a<=1048576):M.BM a=some a:=by
 have hl:=de az.sz a;have hn:a.length<=1048576:=by omega
 have hi:(a.length:Int)<=1073741824:=by omega
 have q:∀z,z.length=a.length->M.tn  a Go.V.ad 0 z=some a:=qR (F:=M.tn  a) a (by omega) (fun f k out h1 h2 hk=>by
  rw[M.tn];have e:=asW a[k] (by have:=dL az.sz a a[k] (cE hk);omega);simp[hk,h2,getD_lt hk,e,bZ hk (dY hn),aa.aC,az.aC,ah.aC,aa.eta]) (fun f out=>by rw[M.tn];simp)
 unfold M.BM;rw[q _ (by simp)];simp[hi]
theorem as1(a:List az)(ha:aQ az.sz a<=1048576):M.B6 a a=some true:=by
 have hl:=de az.sz a;have hn:a.length<=1048576:=by omega
 unfold M.B6;refine qT (F:=M.vF  a a) a hn (fun f k hk=>?_) (fun f=>?_)
 ·rw[M.vF];have e:=asX a[k] (by have:=dL az.sz a a[k] (cE hk);omega);simp[hk,getD_lt hk,e,bZ hk (dY hn),aa.aC,az.aC,ah.aC]
 ·rw[M.vF];simp
theorem as2(a:aM)(left:Int)(ok:a.Ok)(h0:0<=left)(h1:left<=1048576):M.Bv a left=some (if(a.sz:Int)<=left then left-a.sz else -1):=by
 unfold M.Bv;have hs:=aM.cu a;have ok1:=(aM.ok_eq a).1 ok
 try simp only[aa.aC,az.aC,ah.aC]
 have e0:Go.IntKind.wrap .i64 (left-((a.Name).length:Int))=left-((a.Name).length:Int):=wrap_i64 (by have:=ok1.1;unfold d4 at this;omega) (by omega);by_cases c0:(((a.Name).length:Nat):Int)<=left
 ·skip
  have n0:¬(left-(((a.Name).length:Nat):Int)<0):=by omega
  have e1:Go.IntKind.wrap .i64 (left-(((a.Name).length:Nat):Int)-((a.As).length:Int))=left-(((a.Name).length:Nat):Int)-((a.As).length:Int):=wrap_i64 (by have:=ok1.2.1;unfold d4 at this;omega) (by omega);by_cases c1:(((a.As).length:Nat):Int)<=left-(((a.Name).length:Nat):Int)
  ·skip
   have n1:¬(left-(((a.Name).length:Nat):Int)-(((a.As).length:Nat):Int)<0):=by omega
   have q:(a.sz:Int)<=left:=by rw[hs]<;>push_cast<;>omega
   have q2:left-(a.sz:Int)=left-(((a.Name).length:Nat):Int)-(((a.As).length:Nat):Int):=by rw[hs]<;>push_cast<;>omega
   rw[aY q,q2];simp[e0,n0,e1,n1]
  ·have n1:left-(((a.Name).length:Nat):Int)-(((a.As).length:Nat):Int)<0:=by omega
   have q:¬((a.sz:Int)<=left):=by rw[hs]<;>push_cast<;>omega
   rw[aT q];simp[e0,n0,e1,n1]
 ·have n0:left-(((a.Name).length:Nat):Int)<0:=by omega
  have q:¬((a.sz:Int)<=left):=by rw[hs]<;>push_cast<;>omega
  rw[aT q];simp[e0,n0]
theorem as3(a:aM)(h:a.sz<=1048576):M.GG a=some a:=by
 unfold M.GG;have hs:=aM.cu a
 try simp only[aa.aC,az.aC,ah.aC]
 try simp[]
theorem as4(a:aM)(h:a.sz<=1048576):M.B7 a a=some true:=by
 unfold M.B7;have hs:=aM.cu a
 try simp only[aa.aC,az.aC,ah.aC]
 try simp[]
theorem as5(a:List aM)(left:Int)(ok:gm aM.Ok a)(h0:0<=left)(h1:left<=1048576):M.By a left=some (if(aQ aM.sz a:Int)<=left then left-aQ aM.sz a else -1):=by
 have hl:=ok.1;unfold M.By;rw[wrap_i64 (by omega) (by omega)];refine qS (f:=aM.sz) (F:=M.vx  a) a left h0 h1 (fun g k l h2 h3 hk=>?_) (fun g l=>?_)
 ·have hn:k<2^62:=by omega
  rw[M.vx];have e:=as2 a[k] l (ok.2 _ (cE hk)) h2 (by omega);by_cases d:((aM.sz a[k]:Nat):Int)<=l
  ·have n:¬(l-((aM.sz a[k]:Nat):Int)<0):=by omega
   rw[aY d]at e⊢;simp[hk,getD_lt hk,e,n,bZ hk (show a.length<2^62 by omega),aa.aC,az.aC,ah.aC]
  ·rw[aT d]at e⊢;simp[hk,getD_lt hk,e,aa.aC,az.aC,ah.aC]
 ·rw[M.vx];simp
theorem as6(a:List aM)(ha:aQ aM.sz a<=1048576):M.BO a=some a:=by
 have hl:=de aM.sz a;have hn:a.length<=1048576:=by omega
 have hi:(a.length:Int)<=1073741824:=by omega
 have q:∀z,z.length=a.length->M.tp  a Go.V.ad 0 z=some a:=qR (F:=M.tp  a) a (by omega) (fun f k out h1 h2 hk=>by
  rw[M.tp];have e:=as3 a[k] (by have:=dL aM.sz a a[k] (cE hk);omega);simp[hk,h2,getD_lt hk,e,bZ hk (dY hn),aa.aC,az.aC,ah.aC]) (fun f out=>by rw[M.tp];simp)
 unfold M.BO;rw[q _ (by simp)];simp[hi]
theorem as7(a:List aM)(ha:aQ aM.sz a<=1048576):M.B8 a a=some true:=by
 have hl:=de aM.sz a;have hn:a.length<=1048576:=by omega
 unfold M.B8;refine qT (F:=M.vH  a a) a hn (fun f k hk=>?_) (fun f=>?_)
 ·rw[M.vH];have e:=as4 a[k] (by have:=dL aM.sz a a[k] (cE hk);omega);simp[hk,getD_lt hk,e,bZ hk (dY hn),aa.aC,az.aC,ah.aC]
 ·rw[M.vH];simp
theorem as8(a:ah)(left:Int)(ok:a.Ok)(h0:0<=left)(h1:left<=1048576):M.Bz a left=some (if(a.sz:Int)<=left then left-a.sz else -1):=by
 unfold M.Bz;have hs:=ah.cu a;have ok1:=(ah.ok_eq a).1 ok
 try simp only[aa.aC,az.aC,ah.aC]
 have e0:Go.IntKind.wrap .i64 (left-((a.Name).length:Int))=left-((a.Name).length:Int):=wrap_i64 (by have:=ok1.2.1;unfold d4 at this;omega) (by omega);by_cases c0:(((a.Name).length:Nat):Int)<=left
 ·skip
  have n0:¬(left-(((a.Name).length:Nat):Int)<0):=by omega
  have e1:=adK (a.Term) (left-(((a.Name).length:Nat):Int)) ok1.2.2.1 (by omega) (by omega);by_cases c1:(((a.Term).sz:Nat):Int)<=left-(((a.Name).length:Nat):Int)
  ·rw[aY c1]at e1;have n1:¬(left-(((a.Name).length:Nat):Int)-(((a.Term).sz:Nat):Int)<0):=by omega
   have e2:=asY (a.Params) (left-(((a.Name).length:Nat):Int)-(((a.Term).sz:Nat):Int)) ok1.2.2.2.1 (by omega) (by omega);by_cases c2:((aQ az.sz (a.Params):Nat):Int)<=left-(((a.Name).length:Nat):Int)-(((a.Term).sz:Nat):Int)
   ·rw[aY c2]at e2;have n2:¬(left-(((a.Name).length:Nat):Int)-(((a.Term).sz:Nat):Int)-((aQ az.sz (a.Params):Nat):Int)<0):=by omega
    have e3:=adH (a.From) (left-(((a.Name).length:Nat):Int)-(((a.Term).sz:Nat):Int)-((aQ az.sz (a.Params):Nat):Int)) ok1.2.2.2.2.2.1 (by omega) (by omega);by_cases c3:(((a.From).sz:Nat):Int)<=left-(((a.Name).length:Nat):Int)-(((a.Term).sz:Nat):Int)-((aQ az.sz (a.Params):Nat):Int)
    ·rw[aY c3]at e3;have n3:¬(left-(((a.Name).length:Nat):Int)-(((a.Term).sz:Nat):Int)-((aQ az.sz (a.Params):Nat):Int)-(((a.From).sz:Nat):Int)<0):=by omega
     have e4:=as5 (a.Uses) (left-(((a.Name).length:Nat):Int)-(((a.Term).sz:Nat):Int)-((aQ az.sz (a.Params):Nat):Int)-(((a.From).sz:Nat):Int)) ok1.2.2.2.2.2.2.1 (by omega) (by omega);by_cases c4:((aQ aM.sz (a.Uses):Nat):Int)<=left-(((a.Name).length:Nat):Int)-(((a.Term).sz:Nat):Int)-((aQ az.sz (a.Params):Nat):Int)-(((a.From).sz:Nat):Int)
     ·rw[aY c4]at e4;have n4:¬(left-(((a.Name).length:Nat):Int)-(((a.Term).sz:Nat):Int)-((aQ az.sz (a.Params):Nat):Int)-(((a.From).sz:Nat):Int)-((aQ aM.sz (a.Uses):Nat):Int)<0):=by omega
      have q:(a.sz:Int)<=left:=by rw[hs]<;>push_cast<;>omega
      have q2:left-(a.sz:Int)=left-(((a.Name).length:Nat):Int)-(((a.Term).sz:Nat):Int)-((aQ az.sz (a.Params):Nat):Int)-(((a.From).sz:Nat):Int)-((aQ aM.sz (a.Uses):Nat):Int):=by rw[hs]<;>push_cast<;>omega
      rw[aY q,q2];simp[e0,n0,e1,n1,e2,n2,e3,n3,e4,n4]
     ·rw[aT c4]at e4;have q:¬((a.sz:Int)<=left):=by rw[hs]<;>push_cast<;>omega
      rw[aT q];simp[e0,n0,e1,n1,e2,n2,e3,n3,e4]
    ·rw[aT c3]at e3;have q:¬((a.sz:Int)<=left):=by rw[hs]<;>push_cast<;>omega
     rw[aT q];simp[e0,n0,e1,n1,e2,n2,e3]
   ·rw[aT c2]at e2;have q:¬((a.sz:Int)<=left):=by rw[hs]<;>push_cast<;>omega
    rw[aT q];simp[e0,n0,e1,n1,e2]
  ·rw[aT c1]at e1;have q:¬((a.sz:Int)<=left):=by rw[hs]<;>push_cast<;>omega
   rw[aT q];simp[e0,n0,e1]
 ·have n0:left-(((a.Name).length:Nat):Int)<0:=by omega
  have q:¬((a.sz:Int)<=left):=by rw[hs]<;>push_cast<;>omega
  rw[aT q];simp[e0,n0]
theorem as9(a:ah)(h:a.sz<=1048576):M.BP a=some (a.Kind,a.Name,a.Term.Kind,a.Term.Name,a.Async,a.From.ba,a.From.Name,a.From.Version,a.Term.bj,a.Term.Kids,a.Params,a.Uses):=by
 unfold M.BP;have hs:=ah.cu a
 try simp only[aa.aC,az.aC,ah.aC]
 have e2:=adM (a.Term) (by omega);have e3:=asZ (a.Params) (by omega);have e5:=asP (a.From) (by omega);have e6:=as6 (a.Uses) (by omega)
 try simp[e2,e3,e5,e6]
theorem ata(a:ah)(h:a.sz<=1048576):M.B9 a a=some true:=by
 unfold M.B9;have hs:=ah.cu a
 try simp only[aa.aC,az.aC,ah.aC]
 have e2:=adO (a.Term) (by omega);have e3:=as1 (a.Params) (by omega);have e5:=adI (a.From) (by omega);have e6:=as7 (a.Uses) (by omega)
 try simp[e2,e3,e5,e6]
theorem atb(a:List ah)(left:Int)(ok:gm ah.Ok a)(h0:0<=left)(h1:left<=1048576):M.BB a left=some (if(aQ ah.sz a:Int)<=left then left-aQ ah.sz a else -1):=by
 have hl:=ok.1;unfold M.BB;rw[wrap_i64 (by omega) (by omega)];refine qS (f:=ah.sz) (F:=M.vy  a) a left h0 h1 (fun g k l h2 h3 hk=>?_) (fun g l=>?_)
 ·have hn:k<2^62:=by omega
  rw[M.vy];have e:=as8 a[k] l (ok.2 _ (cE hk)) h2 (by omega);by_cases d:((ah.sz a[k]:Nat):Int)<=l
  ·have n:¬(l-((ah.sz a[k]:Nat):Int)<0):=by omega
   rw[aY d]at e⊢;simp[hk,getD_lt hk,e,n,bZ hk (show a.length<2^62 by omega),aa.aC,az.aC,ah.aC]
  ·rw[aT d]at e⊢;simp[hk,getD_lt hk,e,aa.aC,az.aC,ah.aC]
 ·rw[M.vy];simp
theorem atc(a:List ah)(ha:aQ ah.sz a<=1048576):M.BQ a=some a:=by
 have hl:=de ah.sz a;have hn:a.length<=1048576:=by omega
 have hi:(a.length:Int)<=1073741824:=by omega
 have q:∀z,z.length=a.length->M.tq  a Go.V.ad 0 z=some a:=qR (F:=M.tq  a) a (by omega) (fun f k out h1 h2 hk=>by
  rw[M.tq];have e:=as9 a[k] (by have:=dL ah.sz a a[k] (cE hk);omega);simp[hk,h2,getD_lt hk,e,bZ hk (dY hn),aa.aC,az.aC,ah.aC,aa.eta]) (fun f out=>by rw[M.tq];simp)
 unfold M.BQ;rw[q _ (by simp)];simp[hi]
theorem atd(a:List ah)(ha:aQ ah.sz a<=1048576):M.Cb a a=some true:=by
 have hl:=de ah.sz a;have hn:a.length<=1048576:=by omega
 unfold M.Cb;refine qT (F:=M.vI  a a) a hn (fun f k hk=>?_) (fun f=>?_)
 ·rw[M.vI];have e:=ata a[k] (by have:=dL ah.sz a a[k] (cE hk);omega);simp[hk,getD_lt hk,e,bZ hk (dY hn),aa.aC,az.aC,ah.aC]
 ·rw[M.vI];simp
theorem ate(a:aE)(left:Int)(ok:a.Ok)(h0:0<=left)(h1:left<=1048576):M.BC a left=some (if(a.sz:Int)<=left then left-a.sz else -1):=by
 unfold M.BC;have hs:=aE.cu a;have ok1:=(aE.ok_eq a).1 ok
 try simp only[aa.aC,az.aC,ah.aC]
 have e0:Go.IntKind.wrap .i64 (left-((a.Name).length:Int))=left-((a.Name).length:Int):=wrap_i64 (by have:=ok1.1;unfold d4 at this;omega) (by omega);by_cases c0:(((a.Name).length:Nat):Int)<=left
 ·skip
  have n0:¬(left-(((a.Name).length:Nat):Int)<0):=by omega
  have e1:=atb (a.Items) (left-(((a.Name).length:Nat):Int)) ok1.2.1 (by omega) (by omega);by_cases c1:((aQ ah.sz (a.Items):Nat):Int)<=left-(((a.Name).length:Nat):Int)
  ·rw[aY c1]at e1;have n1:¬(left-(((a.Name).length:Nat):Int)-((aQ ah.sz (a.Items):Nat):Int)<0):=by omega
   have q:(a.sz:Int)<=left:=by rw[hs]<;>push_cast<;>omega
   have q2:left-(a.sz:Int)=left-(((a.Name).length:Nat):Int)-((aQ ah.sz (a.Items):Nat):Int):=by rw[hs]<;>push_cast<;>omega
   rw[aY q,q2];simp[e0,n0,e1,n1]
  ·rw[aT c1]at e1;have q:¬((a.sz:Int)<=left):=by rw[hs]<;>push_cast<;>omega
   rw[aT q];simp[e0,n0,e1]
 ·have n0:left-(((a.Name).length:Nat):Int)<0:=by omega
  have q:¬((a.sz:Int)<=left):=by rw[hs]<;>push_cast<;>omega
  rw[aT q];simp[e0,n0]
theorem atf(a:aE)(h:a.sz<=1048576):M.BR a=some (a.Name,a.Items):=by
 unfold M.BR;have hs:=aE.cu a
 try simp only[aa.aC,az.aC,ah.aC]
 have e1:=atc (a.Items) (by omega)
 try simp[e1]
theorem atg(a:aE)(h:a.sz<=1048576):M.Cc a a=some true:=by
 unfold M.Cc;have hs:=aE.cu a
 try simp only[aa.aC,az.aC,ah.aC]
 have e1:=atd (a.Items) (by omega)
 try simp[e1]
theorem ath(a:List aE)(left:Int)(ok:gm aE.Ok a)(h0:0<=left)(h1:left<=1048576):M.BD a left=some (if(aQ aE.sz a:Int)<=left then left-aQ aE.sz a else -1):=by
 have hl:=ok.1;unfold M.BD;rw[wrap_i64 (by omega) (by omega)];refine qS (f:=aE.sz) (F:=M.vz  a) a left h0 h1 (fun g k l h2 h3 hk=>?_) (fun g l=>?_)
 ·have hn:k<2^62:=by omega
  rw[M.vz];have e:=ate a[k] l (ok.2 _ (cE hk)) h2 (by omega);by_cases d:((aE.sz a[k]:Nat):Int)<=l
  ·have n:¬(l-((aE.sz a[k]:Nat):Int)<0):=by omega
   rw[aY d]at e⊢;simp[hk,getD_lt hk,e,n,bZ hk (show a.length<2^62 by omega),aa.aC,az.aC,ah.aC]
  ·rw[aT d]at e⊢;simp[hk,getD_lt hk,e,aa.aC,az.aC,ah.aC]
 ·rw[M.vz];simp
theorem ati(a:List aE)(ha:aQ aE.sz a<=1048576):M.BS a=some a:=by
 have hl:=de aE.sz a;have hn:a.length<=1048576:=by omega
 have hi:(a.length:Int)<=1073741824:=by omega
 have q:∀z,z.length=a.length->M.tu  a Go.V.ad 0 z=some a:=qR (F:=M.tu  a) a (by omega) (fun f k out h1 h2 hk=>by
  rw[M.tu];have e:=atf a[k] (by have:=dL aE.sz a a[k] (cE hk);omega);simp[hk,h2,getD_lt hk,e,bZ hk (dY hn),aa.aC,az.aC,ah.aC]) (fun f out=>by rw[M.tu];simp)
 unfold M.BS;rw[q _ (by simp)];simp[hi]
theorem atj(a:List aE)(ha:aQ aE.sz a<=1048576):M.Cd a a=some true:=by
 have hl:=de aE.sz a;have hn:a.length<=1048576:=by omega
 unfold M.Cd;refine qT (F:=M.vJ  a a) a hn (fun f k hk=>?_) (fun f=>?_)
 ·rw[M.vJ];have e:=atg a[k] (by have:=dL aE.sz a a[k] (cE hk);omega);simp[hk,getD_lt hk,e,bZ hk (dY hn),aa.aC,az.aC,ah.aC]
 ·rw[M.vJ];simp
theorem atl(a:aH)(left:Int)(ok:a.Ok)(h0:0<=left)(h1:left<=1048576):M.BE a left=some (if(a.sz:Int)<=left then left-a.sz else -1):=by
 unfold M.BE;have hs:=aH.cu a;have ok1:=(aH.ok_eq a).1 ok
 try simp only[aa.aC,az.aC,ah.aC]
 have e0:=adH (a.Path) (left) ok1.2.1 (by omega) (by omega);by_cases c0:(((a.Path).sz:Nat):Int)<=left
 ·rw[aY c0]at e0;have n0:¬(left-(((a.Path).sz:Nat):Int)<0):=by omega
  have q:(a.sz:Int)<=left:=by rw[hs]<;>push_cast<;>omega
  have q2:left-(a.sz:Int)=left-(((a.Path).sz:Nat):Int):=by rw[hs]<;>push_cast<;>omega
  rw[aY q,q2];simp[e0,n0]
 ·rw[aT c0]at e0;have q:¬((a.sz:Int)<=left):=by rw[hs]<;>push_cast<;>omega
  rw[aT q];simp[e0]
theorem atm(a:aH)(h:a.sz<=1048576):M.GL a=some a:=by
 unfold M.GL;have hs:=aH.cu a
 try simp only[aa.aC,az.aC,ah.aC]
theorem atn(a:aH)(h:a.sz<=1048576):M.Ce a a=some true:=by
 unfold M.Ce;have hs:=aH.cu a
 try simp only[aa.aC,az.aC,ah.aC]
 have e1:=adI (a.Path) (by omega)
 try simp[e1]
theorem ato(a:List aH)(left:Int)(ok:gm aH.Ok a)(h0:0<=left)(h1:left<=1048576):M.BF a left=some (if(aQ aH.sz a:Int)<=left then left-aQ aH.sz a else -1):=by
 have hl:=ok.1;unfold M.BF;rw[wrap_i64 (by omega) (by omega)];refine qS (f:=aH.sz) (F:=M.vA  a) a left h0 h1 (fun g k l h2 h3 hk=>?_) (fun g l=>?_)
 ·have hn:k<2^62:=by omega
  rw[M.vA];have e:=atl a[k] l (ok.2 _ (cE hk)) h2 (by omega);by_cases d:((aH.sz a[k]:Nat):Int)<=l
  ·have n:¬(l-((aH.sz a[k]:Nat):Int)<0):=by omega
   rw[aY d]at e⊢;simp[hk,getD_lt hk,e,n,bZ hk (show a.length<2^62 by omega),aa.aC,az.aC,ah.aC]
  ·rw[aT d]at e⊢;simp[hk,getD_lt hk,e,aa.aC,az.aC,ah.aC]
 ·rw[M.vA];simp
theorem atp(a:List aH)(ha:aQ aH.sz a<=1048576):M.BU a=some a:=by
 have hl:=de aH.sz a;have hn:a.length<=1048576:=by omega
 have hi:(a.length:Int)<=1073741824:=by omega
 have q:∀z,z.length=a.length->M.tw  a Go.V.ad 0 z=some a:=qR (F:=M.tw  a) a (by omega) (fun f k out h1 h2 hk=>by
  rw[M.tw];have e:=atm a[k] (by have:=dL aH.sz a a[k] (cE hk);omega);simp[hk,h2,getD_lt hk,e,bZ hk (dY hn),aa.aC,az.aC,ah.aC]) (fun f out=>by rw[M.tw];simp)
 unfold M.BU;rw[q _ (by simp)];simp[hi]
theorem atq(a:List aH)(ha:aQ aH.sz a<=1048576):M.Cf a a=some true:=by
 have hl:=de aH.sz a;have hn:a.length<=1048576:=by omega
 unfold M.Cf;refine qT (F:=M.vK  a a) a hn (fun f k hk=>?_) (fun f=>?_)
 ·rw[M.vK];have e:=atn a[k] (by have:=dL aH.sz a a[k] (cE hk);omega);simp[hk,getD_lt hk,e,bZ hk (dY hn),aa.aC,az.aC,ah.aC]
 ·rw[M.vK];simp
theorem atr(a:aJ)(left:Int)(ok:a.Ok)(h0:0<=left)(h1:left<=1048576):M.BG a left=some (if(a.sz:Int)<=left then left-a.sz else -1):=by
 unfold M.BG;have hs:=aJ.cu a;have ok1:=(aJ.ok_eq a).1 ok
 try simp only[aa.aC,az.aC,ah.aC]
 have e0:Go.IntKind.wrap .i64 (left-((a.Name).length:Int))=left-((a.Name).length:Int):=wrap_i64 (by have:=ok1.1;unfold d4 at this;omega) (by omega);by_cases c0:(((a.Name).length:Nat):Int)<=left
 ·skip
  have n0:¬(left-(((a.Name).length:Nat):Int)<0):=by omega
  have e1:=ato (a.Items) (left-(((a.Name).length:Nat):Int)) ok1.2.1 (by omega) (by omega);by_cases c1:((aQ aH.sz (a.Items):Nat):Int)<=left-(((a.Name).length:Nat):Int)
  ·rw[aY c1]at e1;have n1:¬(left-(((a.Name).length:Nat):Int)-((aQ aH.sz (a.Items):Nat):Int)<0):=by omega
   have q:(a.sz:Int)<=left:=by rw[hs]<;>push_cast<;>omega
   have q2:left-(a.sz:Int)=left-(((a.Name).length:Nat):Int)-((aQ aH.sz (a.Items):Nat):Int):=by rw[hs]<;>push_cast<;>omega
   rw[aY q,q2];simp[e0,n0,e1,n1]
  ·rw[aT c1]at e1;have q:¬((a.sz:Int)<=left):=by rw[hs]<;>push_cast<;>omega
   rw[aT q];simp[e0,n0,e1]
 ·have n0:left-(((a.Name).length:Nat):Int)<0:=by omega
  have q:¬((a.sz:Int)<=left):=by rw[hs]<;>push_cast<;>omega
  rw[aT q];simp[e0,n0]
theorem att(a:aJ)(h:a.sz<=1048576):M.BV a=some (a.Name,a.Items):=by
 unfold M.BV;have hs:=aJ.cu a
 try simp only[aa.aC,az.aC,ah.aC]
 have e1:=atp (a.Items) (by omega)
 try simp[e1]
theorem atu(a:aJ)(h:a.sz<=1048576):M.Ci a a=some true:=by
 unfold M.Ci;have hs:=aJ.cu a
 try simp only[aa.aC,az.aC,ah.aC]
 have e1:=atq (a.Items) (by omega)
 try simp[e1]
theorem atv(a:List aJ)(left:Int)(ok:gm aJ.Ok a)(h0:0<=left)(h1:left<=1048576):M.BH a left=some (if(aQ aJ.sz a:Int)<=left then left-aQ aJ.sz a else -1):=by
 have hl:=ok.1;unfold M.BH;rw[wrap_i64 (by omega) (by omega)];refine qS (f:=aJ.sz) (F:=M.vB  a) a left h0 h1 (fun g k l h2 h3 hk=>?_) (fun g l=>?_)
 ·have hn:k<2^62:=by omega
  rw[M.vB];have e:=atr a[k] l (ok.2 _ (cE hk)) h2 (by omega);by_cases d:((aJ.sz a[k]:Nat):Int)<=l
  ·have n:¬(l-((aJ.sz a[k]:Nat):Int)<0):=by omega
   rw[aY d]at e⊢;simp[hk,getD_lt hk,e,n,bZ hk (show a.length<2^62 by omega),aa.aC,az.aC,ah.aC]
  ·rw[aT d]at e⊢;simp[hk,getD_lt hk,e,aa.aC,az.aC,ah.aC]
 ·rw[M.vB];simp
theorem atw(a:List aJ)(ha:aQ aJ.sz a<=1048576):M.BW a=some a:=by
 have hl:=de aJ.sz a;have hn:a.length<=1048576:=by omega
 have hi:(a.length:Int)<=1073741824:=by omega
 have q:∀z,z.length=a.length->M.tz  a Go.V.ad 0 z=some a:=qR (F:=M.tz  a) a (by omega) (fun f k out h1 h2 hk=>by
  rw[M.tz];have e:=att a[k] (by have:=dL aJ.sz a a[k] (cE hk);omega);simp[hk,h2,getD_lt hk,e,bZ hk (dY hn),aa.aC,az.aC,ah.aC]) (fun f out=>by rw[M.tz];simp)
 unfold M.BW;rw[q _ (by simp)];simp[hi]
theorem atx(a:List aJ)(ha:aQ aJ.sz a<=1048576):M.Cj a a=some true:=by
 have hl:=de aJ.sz a;have hn:a.length<=1048576:=by omega
 unfold M.Cj;refine qT (F:=M.vL  a a) a hn (fun f k hk=>?_) (fun f=>?_)
 ·rw[M.vL];have e:=atu a[k] (by have:=dL aJ.sz a a[k] (cE hk);omega);simp[hk,getD_lt hk,e,bZ hk (dY hn),aa.aC,az.aC,ah.aC]
 ·rw[M.vL];simp
theorem aty(a:aj)(left:Int)(ok:a.Ok)(h0:0<=left)(h1:left<=1048576):M.BI a left=some (if(a.sz:Int)<=left then left-a.sz else -1):=by
 unfold M.BI;have hs:=aj.cu a;have ok1:=(aj.ok_eq a).1 ok
 try simp only[aa.aC,az.aC,ah.aC]
 have e0:Go.IntKind.wrap .i64 (left-((a.Name).length:Int))=left-((a.Name).length:Int):=wrap_i64 (by have:=ok1.1;unfold d4 at this;omega) (by omega);by_cases c0:(((a.Name).length:Nat):Int)<=left
 ·skip
  have n0:¬(left-(((a.Name).length:Nat):Int)<0):=by omega
  have e1:Go.IntKind.wrap .i64 (left-(((a.Name).length:Nat):Int)-((a.Version).length:Int))=left-(((a.Name).length:Nat):Int)-((a.Version).length:Int):=wrap_i64 (by have:=ok1.2.1;unfold d4 at this;omega) (by omega);by_cases c1:(((a.Version).length:Nat):Int)<=left-(((a.Name).length:Nat):Int)
  ·skip
   have n1:¬(left-(((a.Name).length:Nat):Int)-(((a.Version).length:Nat):Int)<0):=by omega
   have e2:=ath (a.aF) (left-(((a.Name).length:Nat):Int)-(((a.Version).length:Nat):Int)) ok1.2.2.1 (by omega) (by omega);by_cases c2:((aQ aE.sz (a.aF):Nat):Int)<=left-(((a.Name).length:Nat):Int)-(((a.Version).length:Nat):Int)
   ·rw[aY c2]at e2;have n2:¬(left-(((a.Name).length:Nat):Int)-(((a.Version).length:Nat):Int)-((aQ aE.sz (a.aF):Nat):Int)<0):=by omega
    have e3:=atv (a.Worlds) (left-(((a.Name).length:Nat):Int)-(((a.Version).length:Nat):Int)-((aQ aE.sz (a.aF):Nat):Int)) ok1.2.2.2.1 (by omega) (by omega);by_cases c3:((aQ aJ.sz (a.Worlds):Nat):Int)<=left-(((a.Name).length:Nat):Int)-(((a.Version).length:Nat):Int)-((aQ aE.sz (a.aF):Nat):Int)
    ·rw[aY c3]at e3;have n3:¬(left-(((a.Name).length:Nat):Int)-(((a.Version).length:Nat):Int)-((aQ aE.sz (a.aF):Nat):Int)-((aQ aJ.sz (a.Worlds):Nat):Int)<0):=by omega
     have q:(a.sz:Int)<=left:=by rw[hs]<;>push_cast<;>omega
     have q2:left-(a.sz:Int)=left-(((a.Name).length:Nat):Int)-(((a.Version).length:Nat):Int)-((aQ aE.sz (a.aF):Nat):Int)-((aQ aJ.sz (a.Worlds):Nat):Int):=by rw[hs]<;>push_cast<;>omega
     rw[aY q,q2];simp[e0,n0,e1,n1,e2,n2,e3,n3]
    ·rw[aT c3]at e3;have q:¬((a.sz:Int)<=left):=by rw[hs]<;>push_cast<;>omega
     rw[aT q];simp[e0,n0,e1,n1,e2,n2,e3]
   ·rw[aT c2]at e2;have q:¬((a.sz:Int)<=left):=by rw[hs]<;>push_cast<;>omega
    rw[aT q];simp[e0,n0,e1,n1,e2]
  ·have n1:left-(((a.Name).length:Nat):Int)-(((a.Version).length:Nat):Int)<0:=by omega
   have q:¬((a.sz:Int)<=left):=by rw[hs]<;>push_cast<;>omega
   rw[aT q];simp[e0,n0,e1,n1]
 ·have n0:left-(((a.Name).length:Nat):Int)<0:=by omega
  have q:¬((a.sz:Int)<=left):=by rw[hs]<;>push_cast<;>omega
  rw[aT q];simp[e0,n0]
theorem atz(a:aj)(h:a.sz<=1048576):M.BX a=some (a.Name,a.Version,a.aF,a.Worlds):=by
 unfold M.BX;have hs:=aj.cu a
 try simp only[aa.aC,az.aC,ah.aC]
 have e2:=ati (a.aF) (by omega);have e3:=atw (a.Worlds) (by omega)
 try simp[e2,e3]
theorem atA(a:aj)(h:a.sz<=1048576):M.Cm a a=some true:=by
 unfold M.Cm;have hs:=aj.cu a
 try simp only[aa.aC,az.aC,ah.aC]
 have e2:=atj (a.aF) (by omega);have e3:=atx (a.Worlds) (by omega)
 try simp[e2,e3]
theorem akc(a:List aj)(left:Int)(ok:gm aj.Ok a)(h0:0<=left)(h1:left<=1048576):M.CC a left=some (if(aQ aj.sz a:Int)<=left then left-aQ aj.sz a else -1):=by
 have hl:=ok.1;unfold M.CC;rw[wrap_i64 (by omega) (by omega)];refine qS (f:=aj.sz) (F:=M.vM  a) a left h0 h1 (fun g k l h2 h3 hk=>?_) (fun g l=>?_)
 ·have hn:k<2^62:=by omega
  rw[M.vM];have e:=aty a[k] l (ok.2 _ (cE hk)) h2 (by omega);by_cases d:((aj.sz a[k]:Nat):Int)<=l
  ·have n:¬(l-((aj.sz a[k]:Nat):Int)<0):=by omega
   rw[aY d]at e⊢;simp[hk,getD_lt hk,e,n,bZ hk (show a.length<2^62 by omega),aa.aC,az.aC,ah.aC]
  ·rw[aT d]at e⊢;simp[hk,getD_lt hk,e,aa.aC,az.aC,ah.aC]
 ·rw[M.vM];simp
theorem akd(a:List aj)(ha:aQ aj.sz a<=1048576):M.CE a=some a:=by
 have hl:=de aj.sz a;have hn:a.length<=1048576:=by omega
 have hi:(a.length:Int)<=1073741824:=by omega
 have q:∀z,z.length=a.length->M.tA  a Go.V.ad 0 z=some a:=qR (F:=M.tA  a) a (by omega) (fun f k out h1 h2 hk=>by
  rw[M.tA];have e:=atz a[k] (by have:=dL aj.sz a a[k] (cE hk);omega);simp[hk,h2,getD_lt hk,e,bZ hk (dY hn),aa.aC,az.aC,ah.aC]) (fun f out=>by rw[M.tA];simp)
 unfold M.CE;rw[q _ (by simp)];simp[hi]
theorem ake(a:List aj)(ha:aQ aj.sz a<=1048576):M.CG a a=some true:=by
 have hl:=de aj.sz a;have hn:a.length<=1048576:=by omega
 unfold M.CG;refine qT (F:=M.vN  a a) a hn (fun f k hk=>?_) (fun f=>?_)
 ·rw[M.vN];have e:=atA a[k] (by have:=dL aj.sz a a[k] (cE hk);omega);simp[hk,getD_lt hk,e,bZ hk (dY hn),aa.aC,az.aC,ah.aC]
 ·rw[M.vN];simp
end M
