/-
  Part of the proof of the claim.
-/
import Derived.Test.YthggbkhhdgnmaaaGreatDoorXEFM
import Derived.Test.YthggbkhhdgnmaaaGreatDoorXElaw
import Derived.Test.YthggbkhhdgnmaaaGreatDoorXEpl
set_option linter.unusedVariables false
set_option linter.unusedSimpArgs false
namespace M
def cT(s:List UInt8):Prop:=s.length<=9223372036854775807
def eB{α:Type}(p:α->Prop)(l:List α):Prop:=l.length<=9223372036854775807/\∀x∈l,p x
def bg.sz(a:bg):Nat:=(a.aQ).length+(a.eu).length+(a.Import).length
theorem bg.bL(a:bg):a.sz=(a.aQ).length+(a.eu).length+(a.Import).length:=rfl
def bg.Ok(a:bg):Prop:=I64 (a.Kind)/\cT (a.aQ)/\cT (a.eu)/\cT (a.Import)/\True
theorem bg.ok_eq(a:bg):a.Ok↔(I64 (a.Kind)/\cT (a.aQ)/\cT (a.eu)/\cT (a.Import)/\True):=je
mutual
def aa.sz:aa->Nat
 |.mk v0 v1 v2 v3=>(v1).length+aB List.length (v2)+aa.JQ v3
def aa.JQ:List aa->Nat
 |[]=>0
 |t::r=>aa.sz t+1+aa.JQ r
end
theorem aa.Oc:∀l:List aa,aa.JQ l=aB aa.sz l
 |[]=>rfl
 |t::r=>by simp only[aa.JQ,aB,aa.Oc r]
theorem aa.bL(a:aa):a.sz=(a.Name).length+aB List.length (a.bF)+aB aa.sz (a.Kids):=by cases a;simp only[aa.sz,aa.Oc];rfl
mutual
def aa.Ok:aa->Prop
 |.mk v0 v1 v2 v3=>I64 (v0)/\cT (v1)/\eB cT (v2)/\(v3.length<=9223372036854775807/\aa.tj v3)/\True
def aa.tj:List aa->Prop
 |[]=>True
 |t::r=>aa.Ok t/\aa.tj r
end
theorem aa.agZ:∀l:List aa,aa.tj l↔∀x∈l,aa.Ok x
 |[]=>by simp[aa.tj]
 |t::r=>by simp[aa.tj,aa.agZ r]
theorem aa.ok_eq(a:aa):a.Ok↔(I64 (a.Kind)/\cT (a.Name)/\eB cT (a.bF)/\eB aa.Ok (a.Kids)/\True):=by
 cases a;simp only[aa.Ok,aa.agZ,eB];exact je
def al.sz(a:al):Nat:=(a.Name).length+(a.aI).sz
theorem al.bL(a:al):a.sz=(a.Name).length+(a.aI).sz:=rfl
def al.Ok(a:al):Prop:=cT (a.Name)/\aa.Ok (a.aI)/\True
theorem al.ok_eq(a:al):a.Ok↔(cT (a.Name)/\aa.Ok (a.aI)/\True):=je
def av.sz(a:av):Nat:=aB al.sz (a.Params)+(a.Result).sz
theorem av.bL(a:av):a.sz=aB al.sz (a.Params)+(a.Result).sz:=rfl
def av.Ok(a:av):Prop:=eB al.Ok (a.Params)/\aa.Ok (a.Result)/\True/\True
theorem av.ok_eq(a:av):a.Ok↔(eB al.Ok (a.Params)/\aa.Ok (a.Result)/\True/\True):=je
def aD.sz(a:aD):Nat:=(a.Name).length+(a.aI).sz
theorem aD.bL(a:aD):a.sz=(a.Name).length+(a.aI).sz:=rfl
def aD.Ok(a:aD):Prop:=cT (a.Name)/\av.Ok (a.aI)/\True
theorem aD.ok_eq(a:aD):a.Ok↔(cT (a.Name)/\av.Ok (a.aI)/\True):=je
def ar.sz(a:ar):Nat:=(a.du).length+(a.Name).length+(a.Version).length+aB List.length (a.bQ)+aB aD.sz (a.Funcs)
theorem ar.bL(a:ar):a.sz=(a.du).length+(a.Name).length+(a.Version).length+aB List.length (a.bQ)+aB aD.sz (a.Funcs):=rfl
def ar.Ok(a:ar):Prop:=cT (a.du)/\cT (a.Name)/\cT (a.Version)/\eB cT (a.bQ)/\eB aD.Ok (a.Funcs)/\True
theorem ar.ok_eq(a:ar):a.Ok↔(cT (a.du)/\cT (a.Name)/\cT (a.Version)/\eB cT (a.bQ)/\eB aD.Ok (a.Funcs)/\True):=je
def bk.sz(a:bk):Nat:=(a.aQ).length+(a.Func).length+(a.Core).length
theorem bk.bL(a:bk):a.sz=(a.aQ).length+(a.Func).length+(a.Core).length:=rfl
def bk.Ok(a:bk):Prop:=cT (a.aQ)/\cT (a.Func)/\cT (a.Core)/\True
theorem bk.ok_eq(a:bk):a.Ok↔(cT (a.aQ)/\cT (a.Func)/\cT (a.Core)/\True):=je
def bh.sz(a:bh):Nat:=(a.aQ).length+(a.Func).length+(a.Import).length
theorem bh.bL(a:bh):a.sz=(a.aQ).length+(a.Func).length+(a.Import).length:=rfl
def bh.Ok(a:bh):Prop:=cT (a.aQ)/\cT (a.Func)/\cT (a.Import)/\True
theorem bh.ok_eq(a:bh):a.Ok↔(cT (a.aQ)/\cT (a.Func)/\cT (a.Import)/\True):=je
def aJ.sz(a:aJ):Nat:=0
theorem aJ.bL(a:aJ):a.sz=0:=rfl
def aJ.Ok(a:aJ):Prop:=I64 (a.Op)/\I64 (a.A)/\True
theorem aJ.ok_eq(a:aJ):a.Ok↔(I64 (a.Op)/\I64 (a.A)/\True):=je
def aw.sz(a:aw):Nat:=(a.Name).length+aB aJ.sz (a.Code)
theorem aw.bL(a:aw):a.sz=(a.Name).length+aB aJ.sz (a.Code):=rfl
def aw.Ok(a:aw):Prop:=cT (a.Name)/\I64 (a.Params)/\I64 (a.dr)/\True/\eB aJ.Ok (a.Code)/\True
theorem aw.ok_eq(a:aw):a.Ok↔(cT (a.Name)/\I64 (a.Params)/\I64 (a.dr)/\True/\eB aJ.Ok (a.Code)/\True):=je
def aM.sz(a:aM):Nat:=(a.Name).length
theorem aM.bL(a:aM):a.sz=(a.Name).length:=rfl
def aM.Ok(a:aM):Prop:=cT (a.Name)/\I64 (a.Params)/\True/\True
theorem aM.ok_eq(a:aM):a.Ok↔(cT (a.Name)/\I64 (a.Params)/\True/\True):=je
def aR.sz(a:aR):Nat:=aB aM.sz (a.ay)+aB aw.sz (a.aP)
theorem aR.bL(a:aR):a.sz=aB aM.sz (a.ay)+aB aw.sz (a.aP):=rfl
def aR.Ok(a:aR):Prop:=I64 (a.dm)/\eB aM.Ok (a.ay)/\eB aw.Ok (a.aP)/\True
theorem aR.ok_eq(a:aR):a.Ok↔(I64 (a.dm)/\eB aM.Ok (a.ay)/\eB aw.Ok (a.aP)/\True):=je
def aX.sz(a:aX):Nat:=(a.Name).length+(a.Version).length+aB ar.sz (a.ay)+aB ar.sz (a.bP)+(a.Module).sz+aB bk.sz (a.bV)+aB bh.sz (a.cg)+aB bg.sz (a.Builtins)
theorem aX.bL(a:aX):a.sz=(a.Name).length+(a.Version).length+aB ar.sz (a.ay)+aB ar.sz (a.bP)+(a.Module).sz+aB bk.sz (a.bV)+aB bh.sz (a.cg)+aB bg.sz (a.Builtins):=rfl
def aX.Ok(a:aX):Prop:=cT (a.Name)/\cT (a.Version)/\eB ar.Ok (a.ay)/\eB ar.Ok (a.bP)/\I64 (a.Encoding)/\I64 (a.fu)/\aR.Ok (a.Module)/\eB bk.Ok (a.bV)/\eB bh.Ok (a.cg)/\eB bg.Ok (a.Builtins)/\True
theorem aX.ok_eq(a:aX):a.Ok↔(cT (a.Name)/\cT (a.Version)/\eB ar.Ok (a.ay)/\eB ar.Ok (a.bP)/\I64 (a.Encoding)/\I64 (a.fu)/\aR.Ok (a.Module)/\eB bk.Ok (a.bV)/\eB bh.Ok (a.cg)/\eB bg.Ok (a.Builtins)/\True):=je
theorem bg.fA(a:bg)(h:∀m,Go.V.iM m .Builtin a):a.Ok:=⟨(h 0).1,(h 0).2.1,(h 0).2.2.1,(h 0).2.2.2.1,trivial⟩
mutual
theorem aa.fA:∀(a:aa),(∀m,Go.V.iM m .Type a)->a.Ok
 |.mk v0 v1 v2 v3,h=>by
   simp only[aa.Ok];exact⟨(h 0).1,(h 0).2.1,⟨((h 0).2.2.1).1,fun y hy=>((fun m=>((h (m+1)).2.2.1).2 y hy) 0).1⟩,⟨((h 0).2.2.2.1).1,(aa.ag0 _ fun y hy m=>((h (m+1)).2.2.2.1).2 y hy)⟩,trivial⟩
theorem aa.ag0:∀(l:List aa),(∀y∈l,∀m,Go.V.iM m .Type y)->aa.tj l
 |[],_=>by simp only[aa.tj]
 |t::r,h=>by
  simp only[aa.tj];exact⟨aa.fA t (h t (by simp)),aa.ag0 r fun y hy=>h y (by simp[hy])⟩
end
theorem al.fA(a:al)(h:∀m,Go.V.iM m .Param a):a.Ok:=⟨(h 0).1,(aa.fA (a.aI) (fun m=>by cases m with|zero=>exact⟨(h 0).2.1,(h 0).2.2.1,(h 0).2.2.2.1,(h 0).2.2.2.2.1,trivial⟩|succ m=>exact⟨(h (m+1)).2.1,(h (m+1)).2.2.1,(h (m+1)).2.2.2.1,(h (m+1)).2.2.2.2.1,trivial⟩)),trivial⟩
theorem av.fA(a:av)(h:∀m,Go.V.iM m .eK a):a.Ok:=⟨⟨((h 0).1).1,fun y hy=>al.fA y (fun m=>((h (m+1)).1).2 y hy)⟩,(aa.fA (a.Result) (fun m=>by cases m with|zero=>exact⟨(h 0).2.1,(h 0).2.2.1,(h 0).2.2.2.1,(h 0).2.2.2.2.1,trivial⟩|succ m=>exact⟨(h (m+1)).2.1,(h (m+1)).2.2.1,(h (m+1)).2.2.2.1,(h (m+1)).2.2.2.2.1,trivial⟩)),trivial,trivial⟩
theorem aD.fA(a:aD)(h:∀m,Go.V.iM m .Func a):a.Ok:=⟨(h 0).1,(av.fA (a.aI) (fun m=>by cases m with|zero=>exact⟨(h 0).2.1,(h 0).2.2.1,(h 0).2.2.2.1,(h 0).2.2.2.2.1,(h 0).2.2.2.2.2.1,(h 0).2.2.2.2.2.2.1,trivial⟩|succ m=>exact⟨(h (m+1)).2.1,(h (m+1)).2.2.1,(h (m+1)).2.2.2.1,(h (m+1)).2.2.2.2.1,(h (m+1)).2.2.2.2.2.1,(h (m+1)).2.2.2.2.2.2.1,trivial⟩)),trivial⟩
theorem ar.fA(a:ar)(h:∀m,Go.V.iM m .aQ a):a.Ok:=⟨(h 0).1,(h 0).2.1,(h 0).2.2.1,⟨((h 0).2.2.2.1).1,fun y hy=>((fun m=>((h (m+1)).2.2.2.1).2 y hy) 0).1⟩,⟨((h 0).2.2.2.2.1).1,fun y hy=>aD.fA y (fun m=>((h (m+1)).2.2.2.2.1).2 y hy)⟩,trivial⟩
theorem bk.fA(a:bk)(h:∀m,Go.V.iM m .dA a):a.Ok:=⟨(h 0).1,(h 0).2.1,(h 0).2.2.1,trivial⟩
theorem bh.fA(a:bh)(h:∀m,Go.V.iM m .Lower a):a.Ok:=⟨(h 0).1,(h 0).2.1,(h 0).2.2.1,trivial⟩
theorem aJ.fA(a:aJ)(h:∀m,Go.V.iM m .Ins a):a.Ok:=⟨(h 0).1,(h 0).2.1,trivial⟩
theorem aw.fA(a:aw)(h:∀m,Go.V.iM m .Core a):a.Ok:=⟨(h 0).1,(h 0).2.1,(h 0).2.2.1,trivial,⟨((h 0).2.2.2.2.1).1,fun y hy=>aJ.fA y (fun m=>((h (m+1)).2.2.2.2.1).2 y hy)⟩,trivial⟩
theorem aM.fA(a:aM)(h:∀m,Go.V.iM m .Import a):a.Ok:=⟨(h 0).1,(h 0).2.1,trivial,trivial⟩
theorem aR.fA(a:aR)(h:∀m,Go.V.iM m .Module a):a.Ok:=⟨(h 0).1,⟨((h 0).2.1).1,fun y hy=>aM.fA y (fun m=>((h (m+1)).2.1).2 y hy)⟩,⟨((h 0).2.2.1).1,fun y hy=>aw.fA y (fun m=>((h (m+1)).2.2.1).2 y hy)⟩,trivial⟩
theorem aX.fA(a:aX)(h:∀m,Go.V.iM m .eL a):a.Ok:=⟨(h 0).1,(h 0).2.1,⟨((h 0).2.2.1).1,fun y hy=>ar.fA y (fun m=>((h (m+1)).2.2.1).2 y hy)⟩,⟨((h 0).2.2.2.1).1,fun y hy=>ar.fA y (fun m=>((h (m+1)).2.2.2.1).2 y hy)⟩,(h 0).2.2.2.2.1,(h 0).2.2.2.2.2.1,(aR.fA (a.Module) (fun m=>by cases m with|zero=>exact⟨(h 0).2.2.2.2.2.2.1,(h 0).2.2.2.2.2.2.2.1,(h 0).2.2.2.2.2.2.2.2.1,trivial⟩|succ m=>exact⟨(h (m+1)).2.2.2.2.2.2.1,(h (m+1)).2.2.2.2.2.2.2.1,(h (m+1)).2.2.2.2.2.2.2.2.1,trivial⟩)),⟨((h 0).2.2.2.2.2.2.2.2.2.1).1,fun y hy=>bk.fA y (fun m=>((h (m+1)).2.2.2.2.2.2.2.2.2.1).2 y hy)⟩,⟨((h 0).2.2.2.2.2.2.2.2.2.2.1).1,fun y hy=>bh.fA y (fun m=>((h (m+1)).2.2.2.2.2.2.2.2.2.2.1).2 y hy)⟩,⟨((h 0).2.2.2.2.2.2.2.2.2.2.2.1).1,fun y hy=>bg.fA y (fun m=>((h (m+1)).2.2.2.2.2.2.2.2.2.2.2.1).2 y hy)⟩,trivial⟩
theorem ag1(a:List (List UInt8))(left:Int)(ok:eB cT a)(h0:0<=left)(h1:left<=1048576):M.vP a left=some (if(aB List.length a:Int)<=left then left-aB List.length a else -1):=by
 have hl:=ok.1;unfold M.vP;rw[wrap_i64 (by omega) (by omega)];refine pj (f:=List.length) (F:=M.vO  a) a left h0 h1 (fun g k l h2 h3 hk=>?_) (fun g l=>?_)
 ·have hn:k<2^62:=by omega
  rw[M.vO];have w:Go.IntKind.wrap .i64 (l-((a[k]).length:Int))=l-(a[k]).length:=wrap_i64 (by have:=ok.2 a[k] (bK hk);unfold cT at this;omega) (by omega);by_cases d:((a[k]).length:Int)<=l
  ·have n:¬(l-((a[k]).length:Int)<0):=by omega
   rw[aF d];simp[hk,getD_lt hk,w,n,bE hk (show a.length<2^62 by omega)]
  ·have n:l-((a[k]).length:Int)<0:=by omega
   rw[ax d];simp[hk,getD_lt hk,w,n]
 ·rw[M.vO];simp
theorem ag2(a:List (List UInt8))(ha:aB List.length a<=1048576):M.vc a=some a:=by
 have hl:=bW List.length a;have hn:a.length<=1048576:=by omega
 have hi:(a.length:Int)<=1073741824:=by omega
 have q:∀z,z.length=a.length->M.so  a Go.V.ae 0 z=some a:=nc (F:=M.so  a) a (by omega) (fun f k out h1 h2 hk=>by
  rw[M.so];simp[hk,h2,getD_lt hk,bE hk (cu hn)]) (fun f out=>by rw[M.so];simp)
 unfold M.vc;rw[q _ (by simp)];simp[hi]
theorem ag3(a:List (List UInt8))(ha:aB List.length a<=1048576):M.uQ a a=some true:=by
 have hl:=bW List.length a;have hn:a.length<=1048576:=by omega
 unfold M.uQ;refine nf (F:=M.vS  a a) a hn (fun f k hk=>?_) (fun f=>?_)
 ·rw[M.vS];simp[hk,getD_lt hk,bE hk (cu hn)]
 ·rw[M.vS];simp
theorem axl(a:bg)(left:Int)(ok:a.Ok)(h0:0<=left)(h1:left<=1048576):M.A3 a left=some (if(a.sz:Int)<=left then left-a.sz else -1):=by
 unfold M.A3;have hs:=bg.bL a;have ok1:=(bg.ok_eq a).1 ok
 try simp only[aa.ai,al.ai,av.ai,aD.ai]
 have e0:Go.IntKind.wrap .i64 (left-((a.aQ).length:Int))=left-((a.aQ).length:Int):=wrap_i64 (by have:=ok1.2.1;unfold cT at this;omega) (by omega);by_cases c0:(((a.aQ).length:Nat):Int)<=left
 ·skip
  have n0:¬(left-(((a.aQ).length:Nat):Int)<0):=by omega
  have e1:Go.IntKind.wrap .i64 (left-(((a.aQ).length:Nat):Int)-((a.eu).length:Int))=left-(((a.aQ).length:Nat):Int)-((a.eu).length:Int):=wrap_i64 (by have:=ok1.2.2.1;unfold cT at this;omega) (by omega);by_cases c1:(((a.eu).length:Nat):Int)<=left-(((a.aQ).length:Nat):Int)
  ·skip
   have n1:¬(left-(((a.aQ).length:Nat):Int)-(((a.eu).length:Nat):Int)<0):=by omega
   have e2:Go.IntKind.wrap .i64 (left-(((a.aQ).length:Nat):Int)-(((a.eu).length:Nat):Int)-((a.Import).length:Int))=left-(((a.aQ).length:Nat):Int)-(((a.eu).length:Nat):Int)-((a.Import).length:Int):=wrap_i64 (by have:=ok1.2.2.2.1;unfold cT at this;omega) (by omega);by_cases c2:(((a.Import).length:Nat):Int)<=left-(((a.aQ).length:Nat):Int)-(((a.eu).length:Nat):Int)
   ·skip
    have n2:¬(left-(((a.aQ).length:Nat):Int)-(((a.eu).length:Nat):Int)-(((a.Import).length:Nat):Int)<0):=by omega
    have q:(a.sz:Int)<=left:=by rw[hs]<;>push_cast<;>omega
    have q2:left-(a.sz:Int)=left-(((a.aQ).length:Nat):Int)-(((a.eu).length:Nat):Int)-(((a.Import).length:Nat):Int):=by rw[hs]<;>push_cast<;>omega
    rw[aF q,q2];simp[e0,n0,e1,n1,e2,n2]
   ·have n2:left-(((a.aQ).length:Nat):Int)-(((a.eu).length:Nat):Int)-(((a.Import).length:Nat):Int)<0:=by omega
    have q:¬((a.sz:Int)<=left):=by rw[hs]<;>push_cast<;>omega
    rw[ax q];simp[e0,n0,e1,n1,e2,n2]
  ·have n1:left-(((a.aQ).length:Nat):Int)-(((a.eu).length:Nat):Int)<0:=by omega
   have q:¬((a.sz:Int)<=left):=by rw[hs]<;>push_cast<;>omega
   rw[ax q];simp[e0,n0,e1,n1]
 ·have n0:left-(((a.aQ).length:Nat):Int)<0:=by omega
  have q:¬((a.sz:Int)<=left):=by rw[hs]<;>push_cast<;>omega
  rw[ax q];simp[e0,n0]
theorem axm(a:bg)(h:a.sz<=1048576):M.Gw a=some a:=by
 unfold M.Gw;have hs:=bg.bL a
 try simp only[aa.ai,al.ai,av.ai,aD.ai]
 try simp[]
theorem axn(a:bg)(h:a.sz<=1048576):M.BH a a=some true:=by
 unfold M.BH;have hs:=bg.bL a
 try simp only[aa.ai,al.ai,av.ai,aD.ai]
 try simp[]
theorem axo(a:List bg)(left:Int)(ok:eB bg.Ok a)(h0:0<=left)(h1:left<=1048576):M.A4 a left=some (if(aB bg.sz a:Int)<=left then left-aB bg.sz a else -1):=by
 have hl:=ok.1;unfold M.A4;rw[wrap_i64 (by omega) (by omega)];refine pj (f:=bg.sz) (F:=M.uU  a) a left h0 h1 (fun g k l h2 h3 hk=>?_) (fun g l=>?_)
 ·have hn:k<2^62:=by omega
  rw[M.uU];have e:=axl a[k] l (ok.2 _ (bK hk)) h2 (by omega);by_cases d:((bg.sz a[k]:Nat):Int)<=l
  ·have n:¬(l-((bg.sz a[k]:Nat):Int)<0):=by omega
   rw[aF d]at e⊢;simp[hk,getD_lt hk,e,n,bE hk (show a.length<2^62 by omega),aa.ai,al.ai,av.ai,aD.ai]
  ·rw[ax d]at e⊢;simp[hk,getD_lt hk,e,aa.ai,al.ai,av.ai,aD.ai]
 ·rw[M.uU];simp
theorem axp(a:List bg)(ha:aB bg.sz a<=1048576):M.Ba a=some a:=by
 have hl:=bW bg.sz a;have hn:a.length<=1048576:=by omega
 have hi:(a.length:Int)<=1073741824:=by omega
 have q:∀z,z.length=a.length->M.rJ  a Go.V.ae 0 z=some a:=nc (F:=M.rJ  a) a (by omega) (fun f k out h1 h2 hk=>by
  rw[M.rJ];have e:=axm a[k] (by have:=da bg.sz a a[k] (bK hk);omega);simp[hk,h2,getD_lt hk,e,bE hk (cu hn),aa.ai,al.ai,av.ai,aD.ai]) (fun f out=>by rw[M.rJ];simp)
 unfold M.Ba;rw[q _ (by simp)];simp[hi]
theorem axq(a:List bg)(ha:aB bg.sz a<=1048576):M.BI a a=some true:=by
 have hl:=bW bg.sz a;have hn:a.length<=1048576:=by omega
 unfold M.BI;refine nf (F:=M.u6  a a) a hn (fun f k hk=>?_) (fun f=>?_)
 ·rw[M.u6];have e:=axn a[k] (by have:=da bg.sz a a[k] (bK hk);omega);simp[hk,getD_lt hk,e,bE hk (cu hn),aa.ai,al.ai,av.ai,aD.ai]
 ·rw[M.u6];simp
theorem axr(r:aa->Int->Option Int)(a:List aa)(left:Int)(ok:eB aa.Ok a)(h0:0<=left)(h1:left<=1048576)(hr:∀x l,x∈a->0<=l->l<left->r x l=some (if(x.sz:Int)<=l then l-x.sz else -1)):M.DC r a left=some (if(aB aa.sz a:Int)<=left then left-aB aa.sz a else -1):=by
 have hl:=ok.1;unfold M.DC;rw[wrap_i64 (by omega) (by omega)];refine pj (f:=aa.sz) (F:=M.vQ r  a) a left h0 h1 (fun g k l h2 h3 hk=>?_) (fun g l=>?_)
 ·have hn:k<2^62:=by omega
  rw[M.vQ];have e:=hr a[k] l (bK hk) h2 (by omega);by_cases d:((aa.sz a[k]:Nat):Int)<=l
  ·have n:¬(l-((aa.sz a[k]:Nat):Int)<0):=by omega
   rw[aF d]at e⊢;simp[hk,getD_lt hk,e,n,bE hk (show a.length<2^62 by omega),aa.ai,al.ai,av.ai,aD.ai]
  ·rw[ax d]at e⊢;simp[hk,getD_lt hk,e,aa.ai,al.ai,av.ai,aD.ai]
 ·rw[M.vQ];simp
theorem axs(r:aa->Option (Int×(List UInt8)×(List (List UInt8))×(List aa)))(a:List aa)(ha:a.length<=1048576)(hr:∀x∈a,r x=some (x.Kind,x.Name,x.bF,x.Kids)):M.BV r a=some a:=by
 have hn:a.length<=1048576:=by omega
 have hi:(a.length:Int)<=1073741824:=by omega
 have q:∀z,z.length=a.length->M.sq r  a Go.V.ae 0 z=some a:=nc (F:=M.sq r  a) a (by omega) (fun f k out h1 h2 hk=>by
  rw[M.sq];have e:=hr a[k] (bK hk);simp[hk,h2,getD_lt hk,e,bE hk (cu hn),aa.ai,al.ai,av.ai,aD.ai,aa.eta]) (fun f out=>by rw[M.sq];simp)
 unfold M.BV;rw[q _ (by simp)];simp[hi]
theorem axt(r:aa->aa->Option Bool)(a:List aa)(ha:a.length<=1048576)(hr:∀x∈a,r x x=some true):M.DD r a a=some true:=by
 have hn:a.length<=1048576:=by omega
 unfold M.DD;refine nf (F:=M.vT r  a a) a hn (fun f k hk=>?_) (fun f=>?_)
 ·rw[M.vT];have e:=hr a[k] (bK hk);simp[hk,getD_lt hk,e,bE hk (cu hn),aa.ai,al.ai,av.ai,aD.ai]
 ·rw[M.vT];simp
theorem ag4:∀(n:Nat)(a:aa)(left:Int),a.Ok->0<=left->left<n->left<=1048576->M.vR n a left=some (if(a.sz:Int)<=left then left-a.sz else -1)
 |0,a,left,ok,h0,h2,h1=>by omega
 |n+1,a,left,ok,h0,h2,h1=>by
  show M.Ja (M.vR n) a left=_
  unfold M.Ja;have hs:=aa.bL a;have ok1:=(aa.ok_eq a).1 ok
  try simp only[aa.ai,al.ai,av.ai,aD.ai]
  have e0:Go.IntKind.wrap .i64 (left-((a.Name).length:Int))=left-((a.Name).length:Int):=wrap_i64 (by have:=ok1.2.1;unfold cT at this;omega) (by omega);by_cases c0:(((a.Name).length:Nat):Int)<=left
  ·skip
   have n0:¬(left-(((a.Name).length:Nat):Int)<0):=by omega
   have e1:=ag1 (a.bF) (left-(((a.Name).length:Nat):Int)) ok1.2.2.1 (by omega) (by omega);by_cases c1:((aB List.length (a.bF):Nat):Int)<=left-(((a.Name).length:Nat):Int)
   ·rw[aF c1]at e1;have n1:¬(left-(((a.Name).length:Nat):Int)-((aB List.length (a.bF):Nat):Int)<0):=by omega
    have e2:=axr (M.vR n) (a.Kids) (left-(((a.Name).length:Nat):Int)-((aB List.length (a.bF):Nat):Int)) ok1.2.2.2.1 (by omega) (by omega) (fun x l hx q0 q1=>ag4 n x l ((ok1.2.2.2.1).2 x hx) q0 (by omega) (by omega));by_cases c2:((aB aa.sz (a.Kids):Nat):Int)<=left-(((a.Name).length:Nat):Int)-((aB List.length (a.bF):Nat):Int)
    ·rw[aF c2]at e2;have n2:¬(left-(((a.Name).length:Nat):Int)-((aB List.length (a.bF):Nat):Int)-((aB aa.sz (a.Kids):Nat):Int)<0):=by omega
     have q:(a.sz:Int)<=left:=by rw[hs]<;>push_cast<;>omega
     have q2:left-(a.sz:Int)=left-(((a.Name).length:Nat):Int)-((aB List.length (a.bF):Nat):Int)-((aB aa.sz (a.Kids):Nat):Int):=by rw[hs]<;>push_cast<;>omega
     rw[aF q,q2];simp[e0,n0,e1,n1,e2,n2]
    ·rw[ax c2]at e2;have q:¬((a.sz:Int)<=left):=by rw[hs]<;>push_cast<;>omega
     rw[ax q];simp[e0,n0,e1,n1,e2]
   ·rw[ax c1]at e1;have q:¬((a.sz:Int)<=left):=by rw[hs]<;>push_cast<;>omega
    rw[ax q];simp[e0,n0,e1]
  ·have n0:left-(((a.Name).length:Nat):Int)<0:=by omega
   have q:¬((a.sz:Int)<=left):=by rw[hs]<;>push_cast<;>omega
   rw[ax q];simp[e0,n0]
theorem ag5(a:aa)(left:Int)(ok:a.Ok)(h0:0<=left)(h1:left<=1048576):M.yw a left=some (if(a.sz:Int)<=left then left-a.sz else -1):=
 ag4 _ a left ok h0 (by have:=Go.V.bS;omega) h1
theorem ag6:∀(n:Nat)(a:aa),a.sz<n->a.sz<=1048576->M.vd n a=some (a.Kind,a.Name,a.bF,a.Kids)
 |0,a,h2,h=>by omega
 |n+1,a,h2,h=>by
  show M.H3 (M.vd n) a=_
  unfold M.H3;have hs:=aa.bL a
  try simp only[aa.ai,al.ai,av.ai,aD.ai]
  have e2:=ag2 (a.bF) (by omega);have hk3:=bW aa.sz (a.Kids);have e3:=axs (M.vd n) (a.Kids) (by omega) (fun x hx=>ag6 n x (by have:=da aa.sz (a.Kids) x hx;have:=pn aa.sz (a.Kids) x hx;omega) (by have:=da aa.sz (a.Kids) x hx;omega))
  try simp[e2,e3,aa.eta]
theorem ag7(a:aa)(h:a.sz<=1048576):M.yl a=some (a.Kind,a.Name,a.bF,a.Kids):=
 ag6 _ a (by have:=Go.V.bS;omega) h
theorem ag8:∀(n:Nat)(a:aa),a.sz<n->a.sz<=1048576->M.vU n a a=some true
 |0,a,h2,h=>by omega
 |n+1,a,h2,h=>by
  show M.Jd (M.vU n) a a=_
  unfold M.Jd;have hs:=aa.bL a
  try simp only[aa.ai,al.ai,av.ai,aD.ai]
  have e2:=ag3 (a.bF) (by omega);have hk3:=bW aa.sz (a.Kids);have e3:=axt (M.vU n) (a.Kids) (by omega) (fun x hx=>ag8 n x (by have:=da aa.sz (a.Kids) x hx;have:=pn aa.sz (a.Kids) x hx;omega) (by have:=da aa.sz (a.Kids) x hx;omega))
  try simp[e2,e3,aa.eta]
theorem ag9(a:aa)(h:a.sz<=1048576):M.xO a a=some true:=
 ag8 _ a (by have:=Go.V.bS;omega) h
theorem axu(a:al)(left:Int)(ok:a.Ok)(h0:0<=left)(h1:left<=1048576):M.DV a left=some (if(a.sz:Int)<=left then left-a.sz else -1):=by
 unfold M.DV;have hs:=al.bL a;have ok1:=(al.ok_eq a).1 ok
 try simp only[aa.ai,al.ai,av.ai,aD.ai]
 have e0:Go.IntKind.wrap .i64 (left-((a.Name).length:Int))=left-((a.Name).length:Int):=wrap_i64 (by have:=ok1.1;unfold cT at this;omega) (by omega);by_cases c0:(((a.Name).length:Nat):Int)<=left
 ·skip
  have n0:¬(left-(((a.Name).length:Nat):Int)<0):=by omega
  have e1:=ag5 (a.aI) (left-(((a.Name).length:Nat):Int)) ok1.2.1 (by omega) (by omega);by_cases c1:(((a.aI).sz:Nat):Int)<=left-(((a.Name).length:Nat):Int)
  ·rw[aF c1]at e1;have n1:¬(left-(((a.Name).length:Nat):Int)-(((a.aI).sz:Nat):Int)<0):=by omega
   have q:(a.sz:Int)<=left:=by rw[hs]<;>push_cast<;>omega
   have q2:left-(a.sz:Int)=left-(((a.Name).length:Nat):Int)-(((a.aI).sz:Nat):Int):=by rw[hs]<;>push_cast<;>omega
   rw[aF q,q2];simp[e0,n0,e1,n1]
  ·rw[ax c1]at e1;have q:¬((a.sz:Int)<=left):=by rw[hs]<;>push_cast<;>omega
   rw[ax q];simp[e0,n0,e1]
 ·have n0:left-(((a.Name).length:Nat):Int)<0:=by omega
  have q:¬((a.sz:Int)<=left):=by rw[hs]<;>push_cast<;>omega
  rw[ax q];simp[e0,n0]
theorem axv(a:al)(h:a.sz<=1048576):M.BW a=some (a.Name,a.aI.Kind,a.aI.Name,a.aI.bF,a.aI.Kids):=by
 unfold M.BW;have hs:=al.bL a
 try simp only[aa.ai,al.ai,av.ai,aD.ai]
 have e1:=ag7 (a.aI) (by omega)
 try simp[e1]
theorem axw(a:al)(h:a.sz<=1048576):M.AT a a=some true:=by
 unfold M.AT;have hs:=al.bL a
 try simp only[aa.ai,al.ai,av.ai,aD.ai]
 have e1:=ag9 (a.aI) (by omega)
 try simp[e1]
theorem axx(a:List al)(left:Int)(ok:eB al.Ok a)(h0:0<=left)(h1:left<=1048576):M.DW a left=some (if(aB al.sz a:Int)<=left then left-aB al.sz a else -1):=by
 have hl:=ok.1;unfold M.DW;rw[wrap_i64 (by omega) (by omega)];refine pj (f:=al.sz) (F:=M.wa  a) a left h0 h1 (fun g k l h2 h3 hk=>?_) (fun g l=>?_)
 ·have hn:k<2^62:=by omega
  rw[M.wa];have e:=axu a[k] l (ok.2 _ (bK hk)) h2 (by omega);by_cases d:((al.sz a[k]:Nat):Int)<=l
  ·have n:¬(l-((al.sz a[k]:Nat):Int)<0):=by omega
   rw[aF d]at e⊢;simp[hk,getD_lt hk,e,n,bE hk (show a.length<2^62 by omega),aa.ai,al.ai,av.ai,aD.ai]
  ·rw[ax d]at e⊢;simp[hk,getD_lt hk,e,aa.ai,al.ai,av.ai,aD.ai]
 ·rw[M.wa];simp
theorem axy(a:List al)(ha:aB al.sz a<=1048576):M.BX a=some a:=by
 have hl:=bW al.sz a;have hn:a.length<=1048576:=by omega
 have hi:(a.length:Int)<=1073741824:=by omega
 have q:∀z,z.length=a.length->M.sr  a Go.V.ae 0 z=some a:=nc (F:=M.sr  a) a (by omega) (fun f k out h1 h2 hk=>by
  rw[M.sr];have e:=axv a[k] (by have:=da al.sz a a[k] (bK hk);omega);simp[hk,h2,getD_lt hk,e,bE hk (cu hn),aa.ai,al.ai,av.ai,aD.ai,aa.eta]) (fun f out=>by rw[M.sr];simp)
 unfold M.BX;rw[q _ (by simp)];simp[hi]
theorem axz(a:List al)(ha:aB al.sz a<=1048576):M.AU a a=some true:=by
 have hl:=bW al.sz a;have hn:a.length<=1048576:=by omega
 unfold M.AU;refine nf (F:=M.uN  a a) a hn (fun f k hk=>?_) (fun f=>?_)
 ·rw[M.uN];have e:=axw a[k] (by have:=da al.sz a a[k] (bK hk);omega);simp[hk,getD_lt hk,e,bE hk (cu hn),aa.ai,al.ai,av.ai,aD.ai]
 ·rw[M.uN];simp
theorem axA(a:av)(left:Int)(ok:a.Ok)(h0:0<=left)(h1:left<=1048576):M.DX a left=some (if(a.sz:Int)<=left then left-a.sz else -1):=by
 unfold M.DX;have hs:=av.bL a;have ok1:=(av.ok_eq a).1 ok
 try simp only[aa.ai,al.ai,av.ai,aD.ai]
 have e0:=axx (a.Params) (left) ok1.1 (by omega) (by omega);by_cases c0:((aB al.sz (a.Params):Nat):Int)<=left
 ·rw[aF c0]at e0;have n0:¬(left-((aB al.sz (a.Params):Nat):Int)<0):=by omega
  have e1:=ag5 (a.Result) (left-((aB al.sz (a.Params):Nat):Int)) ok1.2.1 (by omega) (by omega);by_cases c1:(((a.Result).sz:Nat):Int)<=left-((aB al.sz (a.Params):Nat):Int)
  ·rw[aF c1]at e1;have n1:¬(left-((aB al.sz (a.Params):Nat):Int)-(((a.Result).sz:Nat):Int)<0):=by omega
   have q:(a.sz:Int)<=left:=by rw[hs]<;>push_cast<;>omega
   have q2:left-(a.sz:Int)=left-((aB al.sz (a.Params):Nat):Int)-(((a.Result).sz:Nat):Int):=by rw[hs]<;>push_cast<;>omega
   rw[aF q,q2];simp[e0,n0,e1,n1]
  ·rw[ax c1]at e1;have q:¬((a.sz:Int)<=left):=by rw[hs]<;>push_cast<;>omega
   rw[ax q];simp[e0,n0,e1]
 ·rw[ax c0]at e0;have q:¬((a.sz:Int)<=left):=by rw[hs]<;>push_cast<;>omega
  rw[ax q];simp[e0]
theorem axB(a:av)(h:a.sz<=1048576):M.BY a=some (a.Result.Kind,a.Result.Name,a.Async,a.Params,a.Result.bF,a.Result.Kids):=by
 unfold M.BY;have hs:=av.bL a
 try simp only[aa.ai,al.ai,av.ai,aD.ai]
 have e0:=axy (a.Params) (by omega);have e1:=ag7 (a.Result) (by omega)
 try simp[e0,e1]
theorem aha(a:av)(h:a.sz<=1048576):M.uO a a=some true:=by
 unfold M.uO;have hs:=av.bL a
 try simp only[aa.ai,al.ai,av.ai,aD.ai]
 have e0:=axz (a.Params) (by omega);have e1:=ag9 (a.Result) (by omega)
 try simp[e0,e1]
theorem axC(a:aD)(left:Int)(ok:a.Ok)(h0:0<=left)(h1:left<=1048576):M.DY a left=some (if(a.sz:Int)<=left then left-a.sz else -1):=by
 unfold M.DY;have hs:=aD.bL a;have ok1:=(aD.ok_eq a).1 ok
 try simp only[aa.ai,al.ai,av.ai,aD.ai]
 have e0:Go.IntKind.wrap .i64 (left-((a.Name).length:Int))=left-((a.Name).length:Int):=wrap_i64 (by have:=ok1.1;unfold cT at this;omega) (by omega);by_cases c0:(((a.Name).length:Nat):Int)<=left
 ·skip
  have n0:¬(left-(((a.Name).length:Nat):Int)<0):=by omega
  have e1:=axA (a.aI) (left-(((a.Name).length:Nat):Int)) ok1.2.1 (by omega) (by omega);by_cases c1:(((a.aI).sz:Nat):Int)<=left-(((a.Name).length:Nat):Int)
  ·rw[aF c1]at e1;have n1:¬(left-(((a.Name).length:Nat):Int)-(((a.aI).sz:Nat):Int)<0):=by omega
   have q:(a.sz:Int)<=left:=by rw[hs]<;>push_cast<;>omega
   have q2:left-(a.sz:Int)=left-(((a.Name).length:Nat):Int)-(((a.aI).sz:Nat):Int):=by rw[hs]<;>push_cast<;>omega
   rw[aF q,q2];simp[e0,n0,e1,n1]
  ·rw[ax c1]at e1;have q:¬((a.sz:Int)<=left):=by rw[hs]<;>push_cast<;>omega
   rw[ax q];simp[e0,n0,e1]
 ·have n0:left-(((a.Name).length:Nat):Int)<0:=by omega
  have q:¬((a.sz:Int)<=left):=by rw[hs]<;>push_cast<;>omega
  rw[ax q];simp[e0,n0]
theorem axD(a:aD)(h:a.sz<=1048576):M.BZ a=some (a.Name,a.aI.Result.Kind,a.aI.Result.Name,a.aI.Async,a.aI.Params,a.aI.Result.bF,a.aI.Result.Kids):=by
 unfold M.BZ;have hs:=aD.bL a
 try simp only[aa.ai,al.ai,av.ai,aD.ai]
 have e1:=axB (a.aI) (by omega)
 try simp[e1]
theorem axE(a:aD)(h:a.sz<=1048576):M.AW a a=some true:=by
 unfold M.AW;have hs:=aD.bL a
 try simp only[aa.ai,al.ai,av.ai,aD.ai]
 have e1:=aha (a.aI) (by omega)
 try simp[e1]
theorem axF(a:List aD)(left:Int)(ok:eB aD.Ok a)(h0:0<=left)(h1:left<=1048576):M.DZ a left=some (if(aB aD.sz a:Int)<=left then left-aB aD.sz a else -1):=by
 have hl:=ok.1;unfold M.DZ;rw[wrap_i64 (by omega) (by omega)];refine pj (f:=aD.sz) (F:=M.wb  a) a left h0 h1 (fun g k l h2 h3 hk=>?_) (fun g l=>?_)
 ·have hn:k<2^62:=by omega
  rw[M.wb];have e:=axC a[k] l (ok.2 _ (bK hk)) h2 (by omega);by_cases d:((aD.sz a[k]:Nat):Int)<=l
  ·have n:¬(l-((aD.sz a[k]:Nat):Int)<0):=by omega
   rw[aF d]at e⊢;simp[hk,getD_lt hk,e,n,bE hk (show a.length<2^62 by omega),aa.ai,al.ai,av.ai,aD.ai]
  ·rw[ax d]at e⊢;simp[hk,getD_lt hk,e,aa.ai,al.ai,av.ai,aD.ai]
 ·rw[M.wb];simp
theorem axG(a:List aD)(ha:aB aD.sz a<=1048576):M.B0 a=some a:=by
 have hl:=bW aD.sz a;have hn:a.length<=1048576:=by omega
 have hi:(a.length:Int)<=1073741824:=by omega
 have q:∀z,z.length=a.length->M.su  a Go.V.ae 0 z=some a:=nc (F:=M.su  a) a (by omega) (fun f k out h1 h2 hk=>by
  rw[M.su];have e:=axD a[k] (by have:=da aD.sz a a[k] (bK hk);omega);simp[hk,h2,getD_lt hk,e,bE hk (cu hn),aa.ai,al.ai,av.ai,aD.ai,aa.eta]) (fun f out=>by rw[M.su];simp)
 unfold M.B0;rw[q _ (by simp)];simp[hi]
theorem axH(a:List aD)(ha:aB aD.sz a<=1048576):M.AX a a=some true:=by
 have hl:=bW aD.sz a;have hn:a.length<=1048576:=by omega
 unfold M.AX;refine nf (F:=M.uP  a a) a hn (fun f k hk=>?_) (fun f=>?_)
 ·rw[M.uP];have e:=axE a[k] (by have:=da aD.sz a a[k] (bK hk);omega);simp[hk,getD_lt hk,e,bE hk (cu hn),aa.ai,al.ai,av.ai,aD.ai]
 ·rw[M.uP];simp
theorem axI(a:ar)(left:Int)(ok:a.Ok)(h0:0<=left)(h1:left<=1048576):M.D1 a left=some (if(a.sz:Int)<=left then left-a.sz else -1):=by
 unfold M.D1;have hs:=ar.bL a;have ok1:=(ar.ok_eq a).1 ok
 try simp only[aa.ai,al.ai,av.ai,aD.ai]
 have e0:Go.IntKind.wrap .i64 (left-((a.du).length:Int))=left-((a.du).length:Int):=wrap_i64 (by have:=ok1.1;unfold cT at this;omega) (by omega);by_cases c0:(((a.du).length:Nat):Int)<=left
 ·skip
  have n0:¬(left-(((a.du).length:Nat):Int)<0):=by omega
  have e1:Go.IntKind.wrap .i64 (left-(((a.du).length:Nat):Int)-((a.Name).length:Int))=left-(((a.du).length:Nat):Int)-((a.Name).length:Int):=wrap_i64 (by have:=ok1.2.1;unfold cT at this;omega) (by omega);by_cases c1:(((a.Name).length:Nat):Int)<=left-(((a.du).length:Nat):Int)
  ·skip
   have n1:¬(left-(((a.du).length:Nat):Int)-(((a.Name).length:Nat):Int)<0):=by omega
   have e2:Go.IntKind.wrap .i64 (left-(((a.du).length:Nat):Int)-(((a.Name).length:Nat):Int)-((a.Version).length:Int))=left-(((a.du).length:Nat):Int)-(((a.Name).length:Nat):Int)-((a.Version).length:Int):=wrap_i64 (by have:=ok1.2.2.1;unfold cT at this;omega) (by omega);by_cases c2:(((a.Version).length:Nat):Int)<=left-(((a.du).length:Nat):Int)-(((a.Name).length:Nat):Int)
   ·skip
    have n2:¬(left-(((a.du).length:Nat):Int)-(((a.Name).length:Nat):Int)-(((a.Version).length:Nat):Int)<0):=by omega
    have e3:=ag1 (a.bQ) (left-(((a.du).length:Nat):Int)-(((a.Name).length:Nat):Int)-(((a.Version).length:Nat):Int)) ok1.2.2.2.1 (by omega) (by omega);by_cases c3:((aB List.length (a.bQ):Nat):Int)<=left-(((a.du).length:Nat):Int)-(((a.Name).length:Nat):Int)-(((a.Version).length:Nat):Int)
    ·rw[aF c3]at e3;have n3:¬(left-(((a.du).length:Nat):Int)-(((a.Name).length:Nat):Int)-(((a.Version).length:Nat):Int)-((aB List.length (a.bQ):Nat):Int)<0):=by omega
     have e4:=axF (a.Funcs) (left-(((a.du).length:Nat):Int)-(((a.Name).length:Nat):Int)-(((a.Version).length:Nat):Int)-((aB List.length (a.bQ):Nat):Int)) ok1.2.2.2.2.1 (by omega) (by omega);by_cases c4:((aB aD.sz (a.Funcs):Nat):Int)<=left-(((a.du).length:Nat):Int)-(((a.Name).length:Nat):Int)-(((a.Version).length:Nat):Int)-((aB List.length (a.bQ):Nat):Int)
     ·rw[aF c4]at e4;have n4:¬(left-(((a.du).length:Nat):Int)-(((a.Name).length:Nat):Int)-(((a.Version).length:Nat):Int)-((aB List.length (a.bQ):Nat):Int)-((aB aD.sz (a.Funcs):Nat):Int)<0):=by omega
      have q:(a.sz:Int)<=left:=by rw[hs]<;>push_cast<;>omega
      have q2:left-(a.sz:Int)=left-(((a.du).length:Nat):Int)-(((a.Name).length:Nat):Int)-(((a.Version).length:Nat):Int)-((aB List.length (a.bQ):Nat):Int)-((aB aD.sz (a.Funcs):Nat):Int):=by rw[hs]<;>push_cast<;>omega
      rw[aF q,q2];simp[e0,n0,e1,n1,e2,n2,e3,n3,e4,n4]
     ·rw[ax c4]at e4;have q:¬((a.sz:Int)<=left):=by rw[hs]<;>push_cast<;>omega
      rw[ax q];simp[e0,n0,e1,n1,e2,n2,e3,n3,e4]
    ·rw[ax c3]at e3;have q:¬((a.sz:Int)<=left):=by rw[hs]<;>push_cast<;>omega
     rw[ax q];simp[e0,n0,e1,n1,e2,n2,e3]
   ·have n2:left-(((a.du).length:Nat):Int)-(((a.Name).length:Nat):Int)-(((a.Version).length:Nat):Int)<0:=by omega
    have q:¬((a.sz:Int)<=left):=by rw[hs]<;>push_cast<;>omega
    rw[ax q];simp[e0,n0,e1,n1,e2,n2]
  ·have n1:left-(((a.du).length:Nat):Int)-(((a.Name).length:Nat):Int)<0:=by omega
   have q:¬((a.sz:Int)<=left):=by rw[hs]<;>push_cast<;>omega
   rw[ax q];simp[e0,n0,e1,n1]
 ·have n0:left-(((a.du).length:Nat):Int)<0:=by omega
  have q:¬((a.sz:Int)<=left):=by rw[hs]<;>push_cast<;>omega
  rw[ax q];simp[e0,n0]
theorem axJ(a:ar)(h:a.sz<=1048576):M.B1 a=some (a.du,a.Name,a.Version,a.bQ,a.Funcs):=by
 unfold M.B1;have hs:=ar.bL a
 try simp only[aa.ai,al.ai,av.ai,aD.ai]
 have e3:=ag2 (a.bQ) (by omega);have e4:=axG (a.Funcs) (by omega)
 try simp[e3,e4]
theorem axK(a:ar)(h:a.sz<=1048576):M.AY a a=some true:=by
 unfold M.AY;have hs:=ar.bL a
 try simp only[aa.ai,al.ai,av.ai,aD.ai]
 have e3:=ag3 (a.bQ) (by omega);have e4:=axH (a.Funcs) (by omega)
 try simp[e3,e4]
theorem ahb(a:List ar)(left:Int)(ok:eB ar.Ok a)(h0:0<=left)(h1:left<=1048576):M.xQ a left=some (if(aB ar.sz a:Int)<=left then left-aB ar.sz a else -1):=by
 have hl:=ok.1;unfold M.xQ;rw[wrap_i64 (by omega) (by omega)];refine pj (f:=ar.sz) (F:=M.wc  a) a left h0 h1 (fun g k l h2 h3 hk=>?_) (fun g l=>?_)
 ·have hn:k<2^62:=by omega
  rw[M.wc];have e:=axI a[k] l (ok.2 _ (bK hk)) h2 (by omega);by_cases d:((ar.sz a[k]:Nat):Int)<=l
  ·have n:¬(l-((ar.sz a[k]:Nat):Int)<0):=by omega
   rw[aF d]at e⊢;simp[hk,getD_lt hk,e,n,bE hk (show a.length<2^62 by omega),aa.ai,al.ai,av.ai,aD.ai]
  ·rw[ax d]at e⊢;simp[hk,getD_lt hk,e,aa.ai,al.ai,av.ai,aD.ai]
 ·rw[M.wc];simp
theorem ahc(a:List ar)(ha:aB ar.sz a<=1048576):M.ym a=some a:=by
 have hl:=bW ar.sz a;have hn:a.length<=1048576:=by omega
 have hi:(a.length:Int)<=1073741824:=by omega
 have q:∀z,z.length=a.length->M.sw  a Go.V.ae 0 z=some a:=nc (F:=M.sw  a) a (by omega) (fun f k out h1 h2 hk=>by
  rw[M.sw];have e:=axJ a[k] (by have:=da ar.sz a a[k] (bK hk);omega);simp[hk,h2,getD_lt hk,e,bE hk (cu hn),aa.ai,al.ai,av.ai,aD.ai]) (fun f out=>by rw[M.sw];simp)
 unfold M.ym;rw[q _ (by simp)];simp[hi]
theorem ahd(a:List ar)(ha:aB ar.sz a<=1048576):M.xP a a=some true:=by
 have hl:=bW ar.sz a;have hn:a.length<=1048576:=by omega
 unfold M.xP;refine nf (F:=M.uR  a a) a hn (fun f k hk=>?_) (fun f=>?_)
 ·rw[M.uR];have e:=axK a[k] (by have:=da ar.sz a a[k] (bK hk);omega);simp[hk,getD_lt hk,e,bE hk (cu hn),aa.ai,al.ai,av.ai,aD.ai]
 ·rw[M.uR];simp
theorem axL(a:bk)(left:Int)(ok:a.Ok)(h0:0<=left)(h1:left<=1048576):M.AZ a left=some (if(a.sz:Int)<=left then left-a.sz else -1):=by
 unfold M.AZ;have hs:=bk.bL a;have ok1:=(bk.ok_eq a).1 ok
 try simp only[aa.ai,al.ai,av.ai,aD.ai]
 have e0:Go.IntKind.wrap .i64 (left-((a.aQ).length:Int))=left-((a.aQ).length:Int):=wrap_i64 (by have:=ok1.1;unfold cT at this;omega) (by omega);by_cases c0:(((a.aQ).length:Nat):Int)<=left
 ·skip
  have n0:¬(left-(((a.aQ).length:Nat):Int)<0):=by omega
  have e1:Go.IntKind.wrap .i64 (left-(((a.aQ).length:Nat):Int)-((a.Func).length:Int))=left-(((a.aQ).length:Nat):Int)-((a.Func).length:Int):=wrap_i64 (by have:=ok1.2.1;unfold cT at this;omega) (by omega);by_cases c1:(((a.Func).length:Nat):Int)<=left-(((a.aQ).length:Nat):Int)
  ·skip
   have n1:¬(left-(((a.aQ).length:Nat):Int)-(((a.Func).length:Nat):Int)<0):=by omega
   have e2:Go.IntKind.wrap .i64 (left-(((a.aQ).length:Nat):Int)-(((a.Func).length:Nat):Int)-((a.Core).length:Int))=left-(((a.aQ).length:Nat):Int)-(((a.Func).length:Nat):Int)-((a.Core).length:Int):=wrap_i64 (by have:=ok1.2.2.1;unfold cT at this;omega) (by omega);by_cases c2:(((a.Core).length:Nat):Int)<=left-(((a.aQ).length:Nat):Int)-(((a.Func).length:Nat):Int)
   ·skip
    have n2:¬(left-(((a.aQ).length:Nat):Int)-(((a.Func).length:Nat):Int)-(((a.Core).length:Nat):Int)<0):=by omega
    have q:(a.sz:Int)<=left:=by rw[hs]<;>push_cast<;>omega
    have q2:left-(a.sz:Int)=left-(((a.aQ).length:Nat):Int)-(((a.Func).length:Nat):Int)-(((a.Core).length:Nat):Int):=by rw[hs]<;>push_cast<;>omega
    rw[aF q,q2];simp[e0,n0,e1,n1,e2,n2]
   ·have n2:left-(((a.aQ).length:Nat):Int)-(((a.Func).length:Nat):Int)-(((a.Core).length:Nat):Int)<0:=by omega
    have q:¬((a.sz:Int)<=left):=by rw[hs]<;>push_cast<;>omega
    rw[ax q];simp[e0,n0,e1,n1,e2,n2]
  ·have n1:left-(((a.aQ).length:Nat):Int)-(((a.Func).length:Nat):Int)<0:=by omega
   have q:¬((a.sz:Int)<=left):=by rw[hs]<;>push_cast<;>omega
   rw[ax q];simp[e0,n0,e1,n1]
 ·have n0:left-(((a.aQ).length:Nat):Int)<0:=by omega
  have q:¬((a.sz:Int)<=left):=by rw[hs]<;>push_cast<;>omega
  rw[ax q];simp[e0,n0]
theorem axM(a:bk)(h:a.sz<=1048576):M.Gs a=some a:=by
 unfold M.Gs;have hs:=bk.bL a
 try simp only[aa.ai,al.ai,av.ai,aD.ai]
 try simp[]
theorem axN(a:bk)(h:a.sz<=1048576):M.BD a a=some true:=by
 unfold M.BD;have hs:=bk.bL a
 try simp only[aa.ai,al.ai,av.ai,aD.ai]
 try simp[]
theorem axO(a:List bk)(left:Int)(ok:eB bk.Ok a)(h0:0<=left)(h1:left<=1048576):M.A0 a left=some (if(aB bk.sz a:Int)<=left then left-aB bk.sz a else -1):=by
 have hl:=ok.1;unfold M.A0;rw[wrap_i64 (by omega) (by omega)];refine pj (f:=bk.sz) (F:=M.uS  a) a left h0 h1 (fun g k l h2 h3 hk=>?_) (fun g l=>?_)
 ·have hn:k<2^62:=by omega
  rw[M.uS];have e:=axL a[k] l (ok.2 _ (bK hk)) h2 (by omega);by_cases d:((bk.sz a[k]:Nat):Int)<=l
  ·have n:¬(l-((bk.sz a[k]:Nat):Int)<0):=by omega
   rw[aF d]at e⊢;simp[hk,getD_lt hk,e,n,bE hk (show a.length<2^62 by omega),aa.ai,al.ai,av.ai,aD.ai]
  ·rw[ax d]at e⊢;simp[hk,getD_lt hk,e,aa.ai,al.ai,av.ai,aD.ai]
 ·rw[M.uS];simp
theorem axP(a:List bk)(ha:aB bk.sz a<=1048576):M.A8 a=some a:=by
 have hl:=bW bk.sz a;have hn:a.length<=1048576:=by omega
 have hi:(a.length:Int)<=1073741824:=by omega
 have q:∀z,z.length=a.length->M.rH  a Go.V.ae 0 z=some a:=nc (F:=M.rH  a) a (by omega) (fun f k out h1 h2 hk=>by
  rw[M.rH];have e:=axM a[k] (by have:=da bk.sz a a[k] (bK hk);omega);simp[hk,h2,getD_lt hk,e,bE hk (cu hn),aa.ai,al.ai,av.ai,aD.ai]) (fun f out=>by rw[M.rH];simp)
 unfold M.A8;rw[q _ (by simp)];simp[hi]
theorem axQ(a:List bk)(ha:aB bk.sz a<=1048576):M.BE a a=some true:=by
 have hl:=bW bk.sz a;have hn:a.length<=1048576:=by omega
 unfold M.BE;refine nf (F:=M.u4  a a) a hn (fun f k hk=>?_) (fun f=>?_)
 ·rw[M.u4];have e:=axN a[k] (by have:=da bk.sz a a[k] (bK hk);omega);simp[hk,getD_lt hk,e,bE hk (cu hn),aa.ai,al.ai,av.ai,aD.ai]
 ·rw[M.u4];simp
theorem axR(a:bh)(left:Int)(ok:a.Ok)(h0:0<=left)(h1:left<=1048576):M.A1 a left=some (if(a.sz:Int)<=left then left-a.sz else -1):=by
 unfold M.A1;have hs:=bh.bL a;have ok1:=(bh.ok_eq a).1 ok
 try simp only[aa.ai,al.ai,av.ai,aD.ai]
 have e0:Go.IntKind.wrap .i64 (left-((a.aQ).length:Int))=left-((a.aQ).length:Int):=wrap_i64 (by have:=ok1.1;unfold cT at this;omega) (by omega);by_cases c0:(((a.aQ).length:Nat):Int)<=left
 ·skip
  have n0:¬(left-(((a.aQ).length:Nat):Int)<0):=by omega
  have e1:Go.IntKind.wrap .i64 (left-(((a.aQ).length:Nat):Int)-((a.Func).length:Int))=left-(((a.aQ).length:Nat):Int)-((a.Func).length:Int):=wrap_i64 (by have:=ok1.2.1;unfold cT at this;omega) (by omega);by_cases c1:(((a.Func).length:Nat):Int)<=left-(((a.aQ).length:Nat):Int)
  ·skip
   have n1:¬(left-(((a.aQ).length:Nat):Int)-(((a.Func).length:Nat):Int)<0):=by omega
   have e2:Go.IntKind.wrap .i64 (left-(((a.aQ).length:Nat):Int)-(((a.Func).length:Nat):Int)-((a.Import).length:Int))=left-(((a.aQ).length:Nat):Int)-(((a.Func).length:Nat):Int)-((a.Import).length:Int):=wrap_i64 (by have:=ok1.2.2.1;unfold cT at this;omega) (by omega);by_cases c2:(((a.Import).length:Nat):Int)<=left-(((a.aQ).length:Nat):Int)-(((a.Func).length:Nat):Int)
   ·skip
    have n2:¬(left-(((a.aQ).length:Nat):Int)-(((a.Func).length:Nat):Int)-(((a.Import).length:Nat):Int)<0):=by omega
    have q:(a.sz:Int)<=left:=by rw[hs]<;>push_cast<;>omega
    have q2:left-(a.sz:Int)=left-(((a.aQ).length:Nat):Int)-(((a.Func).length:Nat):Int)-(((a.Import).length:Nat):Int):=by rw[hs]<;>push_cast<;>omega
    rw[aF q,q2];simp[e0,n0,e1,n1,e2,n2]
   ·have n2:left-(((a.aQ).length:Nat):Int)-(((a.Func).length:Nat):Int)-(((a.Import).length:Nat):Int)<0:=by omega
    have q:¬((a.sz:Int)<=left):=by rw[hs]<;>push_cast<;>omega
    rw[ax q];simp[e0,n0,e1,n1,e2,n2]
  ·have n1:left-(((a.aQ).length:Nat):Int)-(((a.Func).length:Nat):Int)<0:=by omega
   have q:¬((a.sz:Int)<=left):=by rw[hs]<;>push_cast<;>omega
   rw[ax q];simp[e0,n0,e1,n1]
 ·have n0:left-(((a.aQ).length:Nat):Int)<0:=by omega
  have q:¬((a.sz:Int)<=left):=by rw[hs]<;>push_cast<;>omega
  rw[ax q];simp[e0,n0]
theorem axS(a:bh)(h:a.sz<=1048576):M.Gu a=some a:=by
 unfold M.Gu;have hs:=bh.bL a
 try simp only[aa.ai,al.ai,av.ai,aD.ai]
 try simp[]
theorem axT(a:bh)(h:a.sz<=1048576):M.BF a a=some true:=by
 unfold M.BF;have hs:=bh.bL a
 try simp only[aa.ai,al.ai,av.ai,aD.ai]
 try simp[]
theorem axU(a:List bh)(left:Int)(ok:eB bh.Ok a)(h0:0<=left)(h1:left<=1048576):M.A2 a left=some (if(aB bh.sz a:Int)<=left then left-aB bh.sz a else -1):=by
 have hl:=ok.1;unfold M.A2;rw[wrap_i64 (by omega) (by omega)];refine pj (f:=bh.sz) (F:=M.uT  a) a left h0 h1 (fun g k l h2 h3 hk=>?_) (fun g l=>?_)
 ·have hn:k<2^62:=by omega
  rw[M.uT];have e:=axR a[k] l (ok.2 _ (bK hk)) h2 (by omega);by_cases d:((bh.sz a[k]:Nat):Int)<=l
  ·have n:¬(l-((bh.sz a[k]:Nat):Int)<0):=by omega
   rw[aF d]at e⊢;simp[hk,getD_lt hk,e,n,bE hk (show a.length<2^62 by omega),aa.ai,al.ai,av.ai,aD.ai]
  ·rw[ax d]at e⊢;simp[hk,getD_lt hk,e,aa.ai,al.ai,av.ai,aD.ai]
 ·rw[M.uT];simp
theorem axV(a:List bh)(ha:aB bh.sz a<=1048576):M.A9 a=some a:=by
 have hl:=bW bh.sz a;have hn:a.length<=1048576:=by omega
 have hi:(a.length:Int)<=1073741824:=by omega
 have q:∀z,z.length=a.length->M.rI  a Go.V.ae 0 z=some a:=nc (F:=M.rI  a) a (by omega) (fun f k out h1 h2 hk=>by
  rw[M.rI];have e:=axS a[k] (by have:=da bh.sz a a[k] (bK hk);omega);simp[hk,h2,getD_lt hk,e,bE hk (cu hn),aa.ai,al.ai,av.ai,aD.ai]) (fun f out=>by rw[M.rI];simp)
 unfold M.A9;rw[q _ (by simp)];simp[hi]
theorem axW(a:List bh)(ha:aB bh.sz a<=1048576):M.BG a a=some true:=by
 have hl:=bW bh.sz a;have hn:a.length<=1048576:=by omega
 unfold M.BG;refine nf (F:=M.u5  a a) a hn (fun f k hk=>?_) (fun f=>?_)
 ·rw[M.u5];have e:=axT a[k] (by have:=da bh.sz a a[k] (bK hk);omega);simp[hk,getD_lt hk,e,bE hk (cu hn),aa.ai,al.ai,av.ai,aD.ai]
 ·rw[M.u5];simp
theorem axX(a:aJ)(h:a.sz<=1048576):M.IQ a=some a:=by
 unfold M.IQ;have hs:=aJ.bL a
 try simp only[aa.ai,al.ai,av.ai,aD.ai]
 try simp[]
theorem axY(a:aJ)(h:a.sz<=1048576):M.Dw a a=some true:=by
 unfold M.Dw;have hs:=aJ.bL a
 try simp only[aa.ai,al.ai,av.ai,aD.ai]
 try simp[]
theorem axZ(a:List aJ)(left:Int)(ok:eB aJ.Ok a)(h0:0<=left)(h1:left<=1048576):M.C0 a left=some (if(aB aJ.sz a:Int)<=left then left-aB aJ.sz a else -1):=by
 have hl:=ok.1;unfold M.C0;rw[wrap_i64 (by omega) (by omega)];exact ax0 (f:=aJ.sz) (fun _=>rfl) a left h0
theorem ax1(a:List aJ)(ha:aB aJ.sz a<=1048576):M.C5 a=some a:=by
 have hl:=bW aJ.sz a;have hn:a.length<=1048576:=by omega
 have hi:(a.length:Int)<=1073741824:=by omega
 have q:∀z,z.length=a.length->M.sM  a Go.V.ae 0 z=some a:=nc (F:=M.sM  a) a (by omega) (fun f k out h1 h2 hk=>by
  rw[M.sM];have e:=axX a[k] (by have:=da aJ.sz a a[k] (bK hk);omega);simp[hk,h2,getD_lt hk,e,bE hk (cu hn),aa.ai,al.ai,av.ai,aD.ai]) (fun f out=>by rw[M.sM];simp)
 unfold M.C5;rw[q _ (by simp)];simp[hi]
theorem ax2(a:List aJ)(ha:aB aJ.sz a<=1048576):M.Dx a a=some true:=by
 have hl:=bW aJ.sz a;have hn:a.length<=1048576:=by omega
 unfold M.Dx;refine nf (F:=M.vM  a a) a hn (fun f k hk=>?_) (fun f=>?_)
 ·rw[M.vM];have e:=axY a[k] (by have:=da aJ.sz a a[k] (bK hk);omega);simp[hk,getD_lt hk,e,bE hk (cu hn),aa.ai,al.ai,av.ai,aD.ai]
 ·rw[M.vM];simp
theorem ax3(a:aw)(left:Int)(ok:a.Ok)(h0:0<=left)(h1:left<=1048576):M.C2 a left=some (if(a.sz:Int)<=left then left-a.sz else -1):=by
 unfold M.C2;have hs:=aw.bL a;have ok1:=(aw.ok_eq a).1 ok
 try simp only[aa.ai,al.ai,av.ai,aD.ai]
 have e0:Go.IntKind.wrap .i64 (left-((a.Name).length:Int))=left-((a.Name).length:Int):=wrap_i64 (by have:=ok1.1;unfold cT at this;omega) (by omega);by_cases c0:(((a.Name).length:Nat):Int)<=left
 ·skip
  have n0:¬(left-(((a.Name).length:Nat):Int)<0):=by omega
  have e1:=axZ (a.Code) (left-(((a.Name).length:Nat):Int)) ok1.2.2.2.2.1 (by omega) (by omega);by_cases c1:((aB aJ.sz (a.Code):Nat):Int)<=left-(((a.Name).length:Nat):Int)
  ·rw[aF c1]at e1;have n1:¬(left-(((a.Name).length:Nat):Int)-((aB aJ.sz (a.Code):Nat):Int)<0):=by omega
   have q:(a.sz:Int)<=left:=by rw[hs]<;>push_cast<;>omega
   have q2:left-(a.sz:Int)=left-(((a.Name).length:Nat):Int)-((aB aJ.sz (a.Code):Nat):Int):=by rw[hs]<;>push_cast<;>omega
   rw[aF q,q2];simp[e0,n0,e1,n1]
  ·rw[ax c1]at e1;have q:¬((a.sz:Int)<=left):=by rw[hs]<;>push_cast<;>omega
   rw[ax q];simp[e0,n0,e1]
 ·have n0:left-(((a.Name).length:Nat):Int)<0:=by omega
  have q:¬((a.sz:Int)<=left):=by rw[hs]<;>push_cast<;>omega
  rw[ax q];simp[e0,n0]
theorem ax4(a:aw)(h:a.sz<=1048576):M.C6 a=some (a.Name,a.Params,a.dr,a.Result,a.Code):=by
 unfold M.C6;have hs:=aw.bL a
 try simp only[aa.ai,al.ai,av.ai,aD.ai]
 have e4:=ax1 (a.Code) (by omega)
 try simp[e4]
theorem ax5(a:aw)(h:a.sz<=1048576):M.Dy a a=some true:=by
 unfold M.Dy;have hs:=aw.bL a
 try simp only[aa.ai,al.ai,av.ai,aD.ai]
 have e4:=ax2 (a.Code) (by omega)
 try simp[e4]
theorem ax6(a:List aw)(left:Int)(ok:eB aw.Ok a)(h0:0<=left)(h1:left<=1048576):M.C3 a left=some (if(aB aw.sz a:Int)<=left then left-aB aw.sz a else -1):=by
 have hl:=ok.1;unfold M.C3;rw[wrap_i64 (by omega) (by omega)];refine pj (f:=aw.sz) (F:=M.vF  a) a left h0 h1 (fun g k l h2 h3 hk=>?_) (fun g l=>?_)
 ·have hn:k<2^62:=by omega
  rw[M.vF];have e:=ax3 a[k] l (ok.2 _ (bK hk)) h2 (by omega);by_cases d:((aw.sz a[k]:Nat):Int)<=l
  ·have n:¬(l-((aw.sz a[k]:Nat):Int)<0):=by omega
   rw[aF d]at e⊢;simp[hk,getD_lt hk,e,n,bE hk (show a.length<2^62 by omega),aa.ai,al.ai,av.ai,aD.ai]
  ·rw[ax d]at e⊢;simp[hk,getD_lt hk,e,aa.ai,al.ai,av.ai,aD.ai]
 ·rw[M.vF];simp
theorem ax7(a:List aw)(ha:aB aw.sz a<=1048576):M.C7 a=some a:=by
 have hl:=bW aw.sz a;have hn:a.length<=1048576:=by omega
 have hi:(a.length:Int)<=1073741824:=by omega
 have q:∀z,z.length=a.length->M.sN  a Go.V.ae 0 z=some a:=nc (F:=M.sN  a) a (by omega) (fun f k out h1 h2 hk=>by
  rw[M.sN];have e:=ax4 a[k] (by have:=da aw.sz a a[k] (bK hk);omega);simp[hk,h2,getD_lt hk,e,bE hk (cu hn),aa.ai,al.ai,av.ai,aD.ai]) (fun f out=>by rw[M.sN];simp)
 unfold M.C7;rw[q _ (by simp)];simp[hi]
theorem ax8(a:List aw)(ha:aB aw.sz a<=1048576):M.Dz a a=some true:=by
 have hl:=bW aw.sz a;have hn:a.length<=1048576:=by omega
 unfold M.Dz;refine nf (F:=M.vN  a a) a hn (fun f k hk=>?_) (fun f=>?_)
 ·rw[M.vN];have e:=ax5 a[k] (by have:=da aw.sz a a[k] (bK hk);omega);simp[hk,getD_lt hk,e,bE hk (cu hn),aa.ai,al.ai,av.ai,aD.ai]
 ·rw[M.vN];simp
theorem ax9(a:aM)(left:Int)(ok:a.Ok)(h0:0<=left)(h1:left<=1048576):M.CY a left=some (if(a.sz:Int)<=left then left-a.sz else -1):=by
 unfold M.CY;have hs:=aM.bL a;have ok1:=(aM.ok_eq a).1 ok
 try simp only[aa.ai,al.ai,av.ai,aD.ai]
 have e0:Go.IntKind.wrap .i64 (left-((a.Name).length:Int))=left-((a.Name).length:Int):=wrap_i64 (by have:=ok1.1;unfold cT at this;omega) (by omega);by_cases c0:(((a.Name).length:Nat):Int)<=left
 ·skip
  have n0:¬(left-(((a.Name).length:Nat):Int)<0):=by omega
  have q:(a.sz:Int)<=left:=by rw[hs]<;>push_cast<;>omega
  have q2:left-(a.sz:Int)=left-(((a.Name).length:Nat):Int):=by rw[hs]<;>push_cast<;>omega
  rw[aF q,q2];simp[e0,n0]
 ·have n0:left-(((a.Name).length:Nat):Int)<0:=by omega
  have q:¬((a.sz:Int)<=left):=by rw[hs]<;>push_cast<;>omega
  rw[ax q];simp[e0,n0]
theorem aya(a:aM)(h:a.sz<=1048576):M.IN a=some a:=by
 unfold M.IN;have hs:=aM.bL a
 try simp only[aa.ai,al.ai,av.ai,aD.ai]
 try simp[]
theorem ayb(a:aM)(h:a.sz<=1048576):M.Du a a=some true:=by
 unfold M.Du;have hs:=aM.bL a
 try simp only[aa.ai,al.ai,av.ai,aD.ai]
 try simp[]
theorem ayc(a:List aM)(left:Int)(ok:eB aM.Ok a)(h0:0<=left)(h1:left<=1048576):M.CZ a left=some (if(aB aM.sz a:Int)<=left then left-aB aM.sz a else -1):=by
 have hl:=ok.1;unfold M.CZ;rw[wrap_i64 (by omega) (by omega)];refine pj (f:=aM.sz) (F:=M.vE  a) a left h0 h1 (fun g k l h2 h3 hk=>?_) (fun g l=>?_)
 ·have hn:k<2^62:=by omega
  rw[M.vE];have e:=ax9 a[k] l (ok.2 _ (bK hk)) h2 (by omega);by_cases d:((aM.sz a[k]:Nat):Int)<=l
  ·have n:¬(l-((aM.sz a[k]:Nat):Int)<0):=by omega
   rw[aF d]at e⊢;simp[hk,getD_lt hk,e,n,bE hk (show a.length<2^62 by omega),aa.ai,al.ai,av.ai,aD.ai]
  ·rw[ax d]at e⊢;simp[hk,getD_lt hk,e,aa.ai,al.ai,av.ai,aD.ai]
 ·rw[M.vE];simp
theorem ayd(a:List aM)(ha:aB aM.sz a<=1048576):M.C4 a=some a:=by
 have hl:=bW aM.sz a;have hn:a.length<=1048576:=by omega
 have hi:(a.length:Int)<=1073741824:=by omega
 have q:∀z,z.length=a.length->M.sL  a Go.V.ae 0 z=some a:=nc (F:=M.sL  a) a (by omega) (fun f k out h1 h2 hk=>by
  rw[M.sL];have e:=aya a[k] (by have:=da aM.sz a a[k] (bK hk);omega);simp[hk,h2,getD_lt hk,e,bE hk (cu hn),aa.ai,al.ai,av.ai,aD.ai]) (fun f out=>by rw[M.sL];simp)
 unfold M.C4;rw[q _ (by simp)];simp[hi]
theorem aye(a:List aM)(ha:aB aM.sz a<=1048576):M.Dv a a=some true:=by
 have hl:=bW aM.sz a;have hn:a.length<=1048576:=by omega
 unfold M.Dv;refine nf (F:=M.vL  a a) a hn (fun f k hk=>?_) (fun f=>?_)
 ·rw[M.vL];have e:=ayb a[k] (by have:=da aM.sz a a[k] (bK hk);omega);simp[hk,getD_lt hk,e,bE hk (cu hn),aa.ai,al.ai,av.ai,aD.ai]
 ·rw[M.vL];simp
theorem ayf(a:aR)(left:Int)(ok:a.Ok)(h0:0<=left)(h1:left<=1048576):M.A5 a left=some (if(a.sz:Int)<=left then left-a.sz else -1):=by
 unfold M.A5;have hs:=aR.bL a;have ok1:=(aR.ok_eq a).1 ok
 try simp only[aa.ai,al.ai,av.ai,aD.ai]
 have e0:=ayc (a.ay) (left) ok1.2.1 (by omega) (by omega);by_cases c0:((aB aM.sz (a.ay):Nat):Int)<=left
 ·rw[aF c0]at e0;have n0:¬(left-((aB aM.sz (a.ay):Nat):Int)<0):=by omega
  have e1:=ax6 (a.aP) (left-((aB aM.sz (a.ay):Nat):Int)) ok1.2.2.1 (by omega) (by omega);by_cases c1:((aB aw.sz (a.aP):Nat):Int)<=left-((aB aM.sz (a.ay):Nat):Int)
  ·rw[aF c1]at e1;have n1:¬(left-((aB aM.sz (a.ay):Nat):Int)-((aB aw.sz (a.aP):Nat):Int)<0):=by omega
   have q:(a.sz:Int)<=left:=by rw[hs]<;>push_cast<;>omega
   have q2:left-(a.sz:Int)=left-((aB aM.sz (a.ay):Nat):Int)-((aB aw.sz (a.aP):Nat):Int):=by rw[hs]<;>push_cast<;>omega
   rw[aF q,q2];simp[e0,n0,e1,n1]
  ·rw[ax c1]at e1;have q:¬((a.sz:Int)<=left):=by rw[hs]<;>push_cast<;>omega
   rw[ax q];simp[e0,n0,e1]
 ·rw[ax c0]at e0;have q:¬((a.sz:Int)<=left):=by rw[hs]<;>push_cast<;>omega
  rw[ax q];simp[e0]
theorem ayg(a:aR)(h:a.sz<=1048576):M.B2 a=some (a.dm,a.ay,a.aP):=by
 unfold M.B2;have hs:=aR.bL a
 try simp only[aa.ai,al.ai,av.ai,aD.ai]
 have e1:=ayd (a.ay) (by omega);have e2:=ax7 (a.aP) (by omega)
 try simp[e1,e2]
theorem ayh(a:aR)(h:a.sz<=1048576):M.BJ a a=some true:=by
 unfold M.BJ;have hs:=aR.bL a
 try simp only[aa.ai,al.ai,av.ai,aD.ai]
 have e1:=aye (a.ay) (by omega);have e2:=ax8 (a.aP) (by omega)
 try simp[e1,e2]
theorem ayi(a:aX)(left:Int)(ok:a.Ok)(h0:0<=left)(h1:left<=1048576):M.A6 a left=some (if(a.sz:Int)<=left then left-a.sz else -1):=by
 unfold M.A6;have hs:=aX.bL a;have ok1:=(aX.ok_eq a).1 ok
 try simp only[aa.ai,al.ai,av.ai,aD.ai]
 have e0:Go.IntKind.wrap .i64 (left-((a.Name).length:Int))=left-((a.Name).length:Int):=wrap_i64 (by have:=ok1.1;unfold cT at this;omega) (by omega);by_cases c0:(((a.Name).length:Nat):Int)<=left
 ·skip
  have n0:¬(left-(((a.Name).length:Nat):Int)<0):=by omega
  have e1:Go.IntKind.wrap .i64 (left-(((a.Name).length:Nat):Int)-((a.Version).length:Int))=left-(((a.Name).length:Nat):Int)-((a.Version).length:Int):=wrap_i64 (by have:=ok1.2.1;unfold cT at this;omega) (by omega);by_cases c1:(((a.Version).length:Nat):Int)<=left-(((a.Name).length:Nat):Int)
  ·skip
   have n1:¬(left-(((a.Name).length:Nat):Int)-(((a.Version).length:Nat):Int)<0):=by omega
   have e2:=ahb (a.ay) (left-(((a.Name).length:Nat):Int)-(((a.Version).length:Nat):Int)) ok1.2.2.1 (by omega) (by omega);by_cases c2:((aB ar.sz (a.ay):Nat):Int)<=left-(((a.Name).length:Nat):Int)-(((a.Version).length:Nat):Int)
   ·rw[aF c2]at e2;have n2:¬(left-(((a.Name).length:Nat):Int)-(((a.Version).length:Nat):Int)-((aB ar.sz (a.ay):Nat):Int)<0):=by omega
    have e3:=ahb (a.bP) (left-(((a.Name).length:Nat):Int)-(((a.Version).length:Nat):Int)-((aB ar.sz (a.ay):Nat):Int)) ok1.2.2.2.1 (by omega) (by omega);by_cases c3:((aB ar.sz (a.bP):Nat):Int)<=left-(((a.Name).length:Nat):Int)-(((a.Version).length:Nat):Int)-((aB ar.sz (a.ay):Nat):Int)
    ·rw[aF c3]at e3;have n3:¬(left-(((a.Name).length:Nat):Int)-(((a.Version).length:Nat):Int)-((aB ar.sz (a.ay):Nat):Int)-((aB ar.sz (a.bP):Nat):Int)<0):=by omega
     have e4:=ayf (a.Module) (left-(((a.Name).length:Nat):Int)-(((a.Version).length:Nat):Int)-((aB ar.sz (a.ay):Nat):Int)-((aB ar.sz (a.bP):Nat):Int)) ok1.2.2.2.2.2.2.1 (by omega) (by omega);by_cases c4:(((a.Module).sz:Nat):Int)<=left-(((a.Name).length:Nat):Int)-(((a.Version).length:Nat):Int)-((aB ar.sz (a.ay):Nat):Int)-((aB ar.sz (a.bP):Nat):Int)
     ·rw[aF c4]at e4;have n4:¬(left-(((a.Name).length:Nat):Int)-(((a.Version).length:Nat):Int)-((aB ar.sz (a.ay):Nat):Int)-((aB ar.sz (a.bP):Nat):Int)-(((a.Module).sz:Nat):Int)<0):=by omega
      have e5:=axO (a.bV) (left-(((a.Name).length:Nat):Int)-(((a.Version).length:Nat):Int)-((aB ar.sz (a.ay):Nat):Int)-((aB ar.sz (a.bP):Nat):Int)-(((a.Module).sz:Nat):Int)) ok1.2.2.2.2.2.2.2.1 (by omega) (by omega);by_cases c5:((aB bk.sz (a.bV):Nat):Int)<=left-(((a.Name).length:Nat):Int)-(((a.Version).length:Nat):Int)-((aB ar.sz (a.ay):Nat):Int)-((aB ar.sz (a.bP):Nat):Int)-(((a.Module).sz:Nat):Int)
      ·rw[aF c5]at e5;have n5:¬(left-(((a.Name).length:Nat):Int)-(((a.Version).length:Nat):Int)-((aB ar.sz (a.ay):Nat):Int)-((aB ar.sz (a.bP):Nat):Int)-(((a.Module).sz:Nat):Int)-((aB bk.sz (a.bV):Nat):Int)<0):=by omega
       have e6:=axU (a.cg) (left-(((a.Name).length:Nat):Int)-(((a.Version).length:Nat):Int)-((aB ar.sz (a.ay):Nat):Int)-((aB ar.sz (a.bP):Nat):Int)-(((a.Module).sz:Nat):Int)-((aB bk.sz (a.bV):Nat):Int)) ok1.2.2.2.2.2.2.2.2.1 (by omega) (by omega);by_cases c6:((aB bh.sz (a.cg):Nat):Int)<=left-(((a.Name).length:Nat):Int)-(((a.Version).length:Nat):Int)-((aB ar.sz (a.ay):Nat):Int)-((aB ar.sz (a.bP):Nat):Int)-(((a.Module).sz:Nat):Int)-((aB bk.sz (a.bV):Nat):Int)
       ·rw[aF c6]at e6;have n6:¬(left-(((a.Name).length:Nat):Int)-(((a.Version).length:Nat):Int)-((aB ar.sz (a.ay):Nat):Int)-((aB ar.sz (a.bP):Nat):Int)-(((a.Module).sz:Nat):Int)-((aB bk.sz (a.bV):Nat):Int)-((aB bh.sz (a.cg):Nat):Int)<0):=by omega
        have e7:=axo (a.Builtins) (left-(((a.Name).length:Nat):Int)-(((a.Version).length:Nat):Int)-((aB ar.sz (a.ay):Nat):Int)-((aB ar.sz (a.bP):Nat):Int)-(((a.Module).sz:Nat):Int)-((aB bk.sz (a.bV):Nat):Int)-((aB bh.sz (a.cg):Nat):Int)) ok1.2.2.2.2.2.2.2.2.2.1 (by omega) (by omega);by_cases c7:((aB bg.sz (a.Builtins):Nat):Int)<=left-(((a.Name).length:Nat):Int)-(((a.Version).length:Nat):Int)-((aB ar.sz (a.ay):Nat):Int)-((aB ar.sz (a.bP):Nat):Int)-(((a.Module).sz:Nat):Int)-((aB bk.sz (a.bV):Nat):Int)-((aB bh.sz (a.cg):Nat):Int)
        ·rw[aF c7]at e7;have n7:¬(left-(((a.Name).length:Nat):Int)-(((a.Version).length:Nat):Int)-((aB ar.sz (a.ay):Nat):Int)-((aB ar.sz (a.bP):Nat):Int)-(((a.Module).sz:Nat):Int)-((aB bk.sz (a.bV):Nat):Int)-((aB bh.sz (a.cg):Nat):Int)-((aB bg.sz (a.Builtins):Nat):Int)<0):=by omega
         have q:(a.sz:Int)<=left:=by rw[hs]<;>push_cast<;>omega
         have q2:left-(a.sz:Int)=left-(((a.Name).length:Nat):Int)-(((a.Version).length:Nat):Int)-((aB ar.sz (a.ay):Nat):Int)-((aB ar.sz (a.bP):Nat):Int)-(((a.Module).sz:Nat):Int)-((aB bk.sz (a.bV):Nat):Int)-((aB bh.sz (a.cg):Nat):Int)-((aB bg.sz (a.Builtins):Nat):Int):=by rw[hs]<;>push_cast<;>omega
         rw[aF q,q2];simp[e0,n0,e1,n1,e2,n2,e3,n3,e4,n4,e5,n5,e6,n6,e7,n7]
        ·rw[ax c7]at e7;have q:¬((a.sz:Int)<=left):=by rw[hs]<;>push_cast<;>omega
         rw[ax q];simp[e0,n0,e1,n1,e2,n2,e3,n3,e4,n4,e5,n5,e6,n6,e7]
       ·rw[ax c6]at e6;have q:¬((a.sz:Int)<=left):=by rw[hs]<;>push_cast<;>omega
        rw[ax q];simp[e0,n0,e1,n1,e2,n2,e3,n3,e4,n4,e5,n5,e6]
      ·rw[ax c5]at e5;have q:¬((a.sz:Int)<=left):=by rw[hs]<;>push_cast<;>omega
       rw[ax q];simp[e0,n0,e1,n1,e2,n2,e3,n3,e4,n4,e5]
     ·rw[ax c4]at e4;have q:¬((a.sz:Int)<=left):=by rw[hs]<;>push_cast<;>omega
      rw[ax q];simp[e0,n0,e1,n1,e2,n2,e3,n3,e4]
    ·rw[ax c3]at e3;have q:¬((a.sz:Int)<=left):=by rw[hs]<;>push_cast<;>omega
     rw[ax q];simp[e0,n0,e1,n1,e2,n2,e3]
   ·rw[ax c2]at e2;have q:¬((a.sz:Int)<=left):=by rw[hs]<;>push_cast<;>omega
    rw[ax q];simp[e0,n0,e1,n1,e2]
  ·have n1:left-(((a.Name).length:Nat):Int)-(((a.Version).length:Nat):Int)<0:=by omega
   have q:¬((a.sz:Int)<=left):=by rw[hs]<;>push_cast<;>omega
   rw[ax q];simp[e0,n0,e1,n1]
 ·have n0:left-(((a.Name).length:Nat):Int)<0:=by omega
  have q:¬((a.sz:Int)<=left):=by rw[hs]<;>push_cast<;>omega
  rw[ax q];simp[e0,n0]
theorem ayj(a:aX)(h:a.sz<=1048576):M.B5 a=some (a.Name,a.Version,a.Encoding,a.fu,a.Module.dm,a.ay,a.bP,a.Module.ay,a.Module.aP,a.bV,a.cg,a.Builtins):=by
 unfold M.B5;have hs:=aX.bL a
 try simp only[aa.ai,al.ai,av.ai,aD.ai]
 have e2:=ahc (a.ay) (by omega);have e3:=ahc (a.bP) (by omega);have e6:=ayg (a.Module) (by omega);have e7:=axP (a.bV) (by omega);have e8:=axV (a.cg) (by omega);have e9:=axp (a.Builtins) (by omega)
 try simp[e2,e3,e6,e7,e8,e9]
theorem ayk(a:aX)(h:a.sz<=1048576):M.BK a a=some true:=by
 unfold M.BK;have hs:=aX.bL a
 try simp only[aa.ai,al.ai,av.ai,aD.ai]
 have e2:=ahd (a.ay) (by omega);have e3:=ahd (a.bP) (by omega);have e6:=ayh (a.Module) (by omega);have e7:=axQ (a.bV) (by omega);have e8:=axW (a.cg) (by omega);have e9:=axq (a.Builtins) (by omega)
 try simp[e2,e3,e6,e7,e8,e9]
end M
