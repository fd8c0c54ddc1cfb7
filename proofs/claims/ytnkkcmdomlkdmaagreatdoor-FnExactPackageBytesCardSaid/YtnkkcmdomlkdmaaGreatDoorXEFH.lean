/-
  Part of the proof of the claim.
-/
import Derived.Test.YtnkkcmdomlkdmaaGreatDoorXEFM
import Derived.Test.YtnkkcmdomlkdmaaGreatDoorXElaw
import Derived.Test.YtnkkcmdomlkdmaaGreatDoorXEpl
set_option linter.unusedVariables false
set_option linter.unusedSimpArgs false
namespace M
def cP(s:List UInt8):Prop:=s.length<=9223372036854775807
def eu{α:Type}(p:α->Prop)(l:List α):Prop:=l.length<=9223372036854775807/\∀x∈l,p x
def bu.sz(a:bu):Nat:=(a.aS).length+(a.dG).length+(a.Import).length
theorem bu.bI(a:bu):a.sz=(a.aS).length+(a.dG).length+(a.Import).length:=rfl
def bu.Ok(a:bu):Prop:=I64 (a.Kind)/\cP (a.aS)/\cP (a.dG)/\cP (a.Import)/\True
theorem bu.ok_eq(a:bu):a.Ok↔(I64 (a.Kind)/\cP (a.aS)/\cP (a.dG)/\cP (a.Import)/\True):=yG
mutual
def aa.sz:aa->Nat
 |.mk v0 v1 v2 v3=>(v1).length+aK List.length (v2)+aa.LK v3
def aa.LK:List aa->Nat
 |[]=>0
 |t::r=>aa.sz t+1+aa.LK r
end
theorem aa.ajJ:∀l:List aa,aa.LK l=aK aa.sz l
 |[]=>rfl
 |t::r=>by simp only[aa.LK,aK,aa.ajJ r]
theorem aa.bI(a:aa):a.sz=(a.Name).length+aK List.length (a.cn)+aK aa.sz (a.Kids):=by cases a;simp only[aa.sz,aa.ajJ];rfl
mutual
def aa.Ok:aa->Prop
 |.mk v0 v1 v2 v3=>I64 (v0)/\cP (v1)/\eu cP (v2)/\(v3.length<=9223372036854775807/\aa.uu v3)/\True
def aa.uu:List aa->Prop
 |[]=>True
 |t::r=>aa.Ok t/\aa.uu r
end
theorem aa.ajK:∀l:List aa,aa.uu l↔∀x∈l,aa.Ok x
 |[]=>by simp[aa.uu]
 |t::r=>by simp[aa.uu,aa.ajK r]
theorem aa.ok_eq(a:aa):a.Ok↔(I64 (a.Kind)/\cP (a.Name)/\eu cP (a.cn)/\eu aa.Ok (a.Kids)/\True):=by
 cases a;simp only[aa.Ok,aa.ajK,eu];exact yG
def ar.sz(a:ar):Nat:=(a.Name).length+(a.aF).sz
theorem ar.bI(a:ar):a.sz=(a.Name).length+(a.aF).sz:=rfl
def ar.Ok(a:ar):Prop:=cP (a.Name)/\aa.Ok (a.aF)/\True
theorem ar.ok_eq(a:ar):a.Ok↔(cP (a.Name)/\aa.Ok (a.aF)/\True):=yG
def aJ.sz(a:aJ):Nat:=aK ar.sz (a.Params)+(a.Result).sz
theorem aJ.bI(a:aJ):a.sz=aK ar.sz (a.Params)+(a.Result).sz:=rfl
def aJ.Ok(a:aJ):Prop:=eu ar.Ok (a.Params)/\aa.Ok (a.Result)/\True/\True
theorem aJ.ok_eq(a:aJ):a.Ok↔(eu ar.Ok (a.Params)/\aa.Ok (a.Result)/\True/\True):=yG
def aA.sz(a:aA):Nat:=(a.Name).length+(a.aF).sz
theorem aA.bI(a:aA):a.sz=(a.Name).length+(a.aF).sz:=rfl
def aA.Ok(a:aA):Prop:=cP (a.Name)/\aJ.Ok (a.aF)/\True
theorem aA.ok_eq(a:aA):a.Ok↔(cP (a.Name)/\aJ.Ok (a.aF)/\True):=yG
def ax.sz(a:ax):Nat:=(a.cV).length+(a.Name).length+(a.Version).length+aK List.length (a.bK)+aK aA.sz (a.Funcs)
theorem ax.bI(a:ax):a.sz=(a.cV).length+(a.Name).length+(a.Version).length+aK List.length (a.bK)+aK aA.sz (a.Funcs):=rfl
def ax.Ok(a:ax):Prop:=cP (a.cV)/\cP (a.Name)/\cP (a.Version)/\eu cP (a.bK)/\eu aA.Ok (a.Funcs)/\True
theorem ax.ok_eq(a:ax):a.Ok↔(cP (a.cV)/\cP (a.Name)/\cP (a.Version)/\eu cP (a.bK)/\eu aA.Ok (a.Funcs)/\True):=yG
def bF.sz(a:bF):Nat:=(a.aS).length+(a.Func).length+(a.Core).length
theorem bF.bI(a:bF):a.sz=(a.aS).length+(a.Func).length+(a.Core).length:=rfl
def bF.Ok(a:bF):Prop:=cP (a.aS)/\cP (a.Func)/\cP (a.Core)/\True
theorem bF.ok_eq(a:bF):a.Ok↔(cP (a.aS)/\cP (a.Func)/\cP (a.Core)/\True):=yG
def bC.sz(a:bC):Nat:=(a.aS).length+(a.Func).length+(a.Import).length
theorem bC.bI(a:bC):a.sz=(a.aS).length+(a.Func).length+(a.Import).length:=rfl
def bC.Ok(a:bC):Prop:=cP (a.aS)/\cP (a.Func)/\cP (a.Import)/\True
theorem bC.ok_eq(a:bC):a.Ok↔(cP (a.aS)/\cP (a.Func)/\cP (a.Import)/\True):=yG
def aE.sz(a:aE):Nat:=0
theorem aE.bI(a:aE):a.sz=0:=rfl
def aE.Ok(a:aE):Prop:=I64 (a.Op)/\I64 (a.A)/\True
theorem aE.ok_eq(a:aE):a.Ok↔(I64 (a.Op)/\I64 (a.A)/\True):=yG
def av.sz(a:av):Nat:=(a.Name).length+aK aE.sz (a.Code)
theorem av.bI(a:av):a.sz=(a.Name).length+aK aE.sz (a.Code):=rfl
def av.Ok(a:av):Prop:=cP (a.Name)/\I64 (a.Params)/\I64 (a.cO)/\True/\eu aE.Ok (a.Code)/\True
theorem av.ok_eq(a:av):a.Ok↔(cP (a.Name)/\I64 (a.Params)/\I64 (a.cO)/\True/\eu aE.Ok (a.Code)/\True):=yG
def aO.sz(a:aO):Nat:=(a.Name).length
theorem aO.bI(a:aO):a.sz=(a.Name).length:=rfl
def aO.Ok(a:aO):Prop:=cP (a.Name)/\I64 (a.Params)/\True/\True
theorem aO.ok_eq(a:aO):a.Ok↔(cP (a.Name)/\I64 (a.Params)/\True/\True):=yG
def aN.sz(a:aN):Nat:=aK aO.sz (a.al)+aK av.sz (a.aB)
theorem aN.bI(a:aN):a.sz=aK aO.sz (a.al)+aK av.sz (a.aB):=rfl
def aN.Ok(a:aN):Prop:=I64 (a.cU)/\eu aO.Ok (a.al)/\eu av.Ok (a.aB)/\True
theorem aN.ok_eq(a:aN):a.Ok↔(I64 (a.cU)/\eu aO.Ok (a.al)/\eu av.Ok (a.aB)/\True):=yG
def aV.sz(a:aV):Nat:=(a.Name).length+(a.Version).length+aK ax.sz (a.al)+aK ax.sz (a.bR)+(a.Module).sz+aK bF.sz (a.bZ)+aK bC.sz (a.bP)+aK bu.sz (a.Builtins)
theorem aV.bI(a:aV):a.sz=(a.Name).length+(a.Version).length+aK ax.sz (a.al)+aK ax.sz (a.bR)+(a.Module).sz+aK bF.sz (a.bZ)+aK bC.sz (a.bP)+aK bu.sz (a.Builtins):=rfl
def aV.Ok(a:aV):Prop:=cP (a.Name)/\cP (a.Version)/\eu ax.Ok (a.al)/\eu ax.Ok (a.bR)/\I64 (a.Encoding)/\I64 (a.fk)/\aN.Ok (a.Module)/\eu bF.Ok (a.bZ)/\eu bC.Ok (a.bP)/\eu bu.Ok (a.Builtins)/\True
theorem aV.ok_eq(a:aV):a.Ok↔(cP (a.Name)/\cP (a.Version)/\eu ax.Ok (a.al)/\eu ax.Ok (a.bR)/\I64 (a.Encoding)/\I64 (a.fk)/\aN.Ok (a.Module)/\eu bF.Ok (a.bZ)/\eu bC.Ok (a.bP)/\eu bu.Ok (a.Builtins)/\True):=yG
theorem bu.fN(a:bu)(h:∀m,Go.V.jg m .Builtin a):a.Ok:=⟨(h 0).1,(h 0).2.1,(h 0).2.2.1,(h 0).2.2.2.1,trivial⟩
mutual
theorem aa.fN:∀(a:aa),(∀m,Go.V.jg m .Type a)->a.Ok
 |.mk v0 v1 v2 v3,h=>by
   simp only[aa.Ok];exact⟨(h 0).1,(h 0).2.1,⟨((h 0).2.2.1).1,fun y hy=>((fun m=>((h (m+1)).2.2.1).2 y hy) 0).1⟩,⟨((h 0).2.2.2.1).1,(aa.ajL _ fun y hy m=>((h (m+1)).2.2.2.1).2 y hy)⟩,trivial⟩
theorem aa.ajL:∀(l:List aa),(∀y∈l,∀m,Go.V.jg m .Type y)->aa.uu l
 |[],_=>by simp only[aa.uu]
 |t::r,h=>by
  simp only[aa.uu];exact⟨aa.fN t (h t (by simp)),aa.ajL r fun y hy=>h y (by simp[hy])⟩
end
theorem ar.fN(a:ar)(h:∀m,Go.V.jg m .Param a):a.Ok:=⟨(h 0).1,(aa.fN (a.aF) (fun m=>by cases m with|zero=>exact⟨(h 0).2.1,(h 0).2.2.1,(h 0).2.2.2.1,(h 0).2.2.2.2.1,trivial⟩|succ m=>exact⟨(h (m+1)).2.1,(h (m+1)).2.2.1,(h (m+1)).2.2.2.1,(h (m+1)).2.2.2.2.1,trivial⟩)),trivial⟩
theorem aJ.fN(a:aJ)(h:∀m,Go.V.jg m .iS a):a.Ok:=⟨⟨((h 0).1).1,fun y hy=>ar.fN y (fun m=>((h (m+1)).1).2 y hy)⟩,(aa.fN (a.Result) (fun m=>by cases m with|zero=>exact⟨(h 0).2.1,(h 0).2.2.1,(h 0).2.2.2.1,(h 0).2.2.2.2.1,trivial⟩|succ m=>exact⟨(h (m+1)).2.1,(h (m+1)).2.2.1,(h (m+1)).2.2.2.1,(h (m+1)).2.2.2.2.1,trivial⟩)),trivial,trivial⟩
theorem aA.fN(a:aA)(h:∀m,Go.V.jg m .Func a):a.Ok:=⟨(h 0).1,(aJ.fN (a.aF) (fun m=>by cases m with|zero=>exact⟨(h 0).2.1,(h 0).2.2.1,(h 0).2.2.2.1,(h 0).2.2.2.2.1,(h 0).2.2.2.2.2.1,(h 0).2.2.2.2.2.2.1,trivial⟩|succ m=>exact⟨(h (m+1)).2.1,(h (m+1)).2.2.1,(h (m+1)).2.2.2.1,(h (m+1)).2.2.2.2.1,(h (m+1)).2.2.2.2.2.1,(h (m+1)).2.2.2.2.2.2.1,trivial⟩)),trivial⟩
theorem ax.fN(a:ax)(h:∀m,Go.V.jg m .aS a):a.Ok:=⟨(h 0).1,(h 0).2.1,(h 0).2.2.1,⟨((h 0).2.2.2.1).1,fun y hy=>((fun m=>((h (m+1)).2.2.2.1).2 y hy) 0).1⟩,⟨((h 0).2.2.2.2.1).1,fun y hy=>aA.fN y (fun m=>((h (m+1)).2.2.2.2.1).2 y hy)⟩,trivial⟩
theorem bF.fN(a:bF)(h:∀m,Go.V.jg m .dK a):a.Ok:=⟨(h 0).1,(h 0).2.1,(h 0).2.2.1,trivial⟩
theorem bC.fN(a:bC)(h:∀m,Go.V.jg m .Lower a):a.Ok:=⟨(h 0).1,(h 0).2.1,(h 0).2.2.1,trivial⟩
theorem aE.fN(a:aE)(h:∀m,Go.V.jg m .Ins a):a.Ok:=⟨(h 0).1,(h 0).2.1,trivial⟩
theorem av.fN(a:av)(h:∀m,Go.V.jg m .Core a):a.Ok:=⟨(h 0).1,(h 0).2.1,(h 0).2.2.1,trivial,⟨((h 0).2.2.2.2.1).1,fun y hy=>aE.fN y (fun m=>((h (m+1)).2.2.2.2.1).2 y hy)⟩,trivial⟩
theorem aO.fN(a:aO)(h:∀m,Go.V.jg m .Import a):a.Ok:=⟨(h 0).1,(h 0).2.1,trivial,trivial⟩
theorem aN.fN(a:aN)(h:∀m,Go.V.jg m .Module a):a.Ok:=⟨(h 0).1,⟨((h 0).2.1).1,fun y hy=>aO.fN y (fun m=>((h (m+1)).2.1).2 y hy)⟩,⟨((h 0).2.2.1).1,fun y hy=>av.fN y (fun m=>((h (m+1)).2.2.1).2 y hy)⟩,trivial⟩
theorem aV.fN(a:aV)(h:∀m,Go.V.jg m .eM a):a.Ok:=⟨(h 0).1,(h 0).2.1,⟨((h 0).2.2.1).1,fun y hy=>ax.fN y (fun m=>((h (m+1)).2.2.1).2 y hy)⟩,⟨((h 0).2.2.2.1).1,fun y hy=>ax.fN y (fun m=>((h (m+1)).2.2.2.1).2 y hy)⟩,(h 0).2.2.2.2.1,(h 0).2.2.2.2.2.1,(aN.fN (a.Module) (fun m=>by cases m with|zero=>exact⟨(h 0).2.2.2.2.2.2.1,(h 0).2.2.2.2.2.2.2.1,(h 0).2.2.2.2.2.2.2.2.1,trivial⟩|succ m=>exact⟨(h (m+1)).2.2.2.2.2.2.1,(h (m+1)).2.2.2.2.2.2.2.1,(h (m+1)).2.2.2.2.2.2.2.2.1,trivial⟩)),⟨((h 0).2.2.2.2.2.2.2.2.2.1).1,fun y hy=>bF.fN y (fun m=>((h (m+1)).2.2.2.2.2.2.2.2.2.1).2 y hy)⟩,⟨((h 0).2.2.2.2.2.2.2.2.2.2.1).1,fun y hy=>bC.fN y (fun m=>((h (m+1)).2.2.2.2.2.2.2.2.2.2.1).2 y hy)⟩,⟨((h 0).2.2.2.2.2.2.2.2.2.2.2.1).1,fun y hy=>bu.fN y (fun m=>((h (m+1)).2.2.2.2.2.2.2.2.2.2.2.1).2 y hy)⟩,trivial⟩
theorem ajM(a:List (List UInt8))(left:Int)(ok:eu cP a)(h0:0<=left)(h1:left<=1048576):M.wI a left=some (if(aK List.length a:Int)<=left then left-aK List.length a else -1):=by
 have hl:=ok.1;unfold M.wI;rw[wrap_i64 (by omega) (by omega)];refine qg (f:=List.length) (F:=M.wH  a) a left h0 h1 (fun g k l h2 h3 hk=>?_) (fun g l=>?_)
 ·have hn:k<2^62:=by omega
  rw[M.wH];have w:Go.IntKind.wrap .i64 (l-((a[k]).length:Int))=l-(a[k]).length:=wrap_i64 (by have:=ok.2 a[k] (bA hk);unfold cP at this;omega) (by omega);by_cases d:((a[k]).length:Int)<=l
  ·have n:¬(l-((a[k]).length:Int)<0):=by omega
   rw[cz d];simp[hk,getD_lt hk,w,n,bo hk (show a.length<2^62 by omega)]
  ·have n:l-((a[k]).length:Int)<0:=by omega
   rw[aw d];simp[hk,getD_lt hk,w,n]
 ·rw[M.wH];simp
theorem ajN(a:List (List UInt8))(ha:aK List.length a<=1048576):M.wa a=some a:=by
 have hl:=bW List.length a;have hn:a.length<=1048576:=by omega
 have hi:(a.length:Int)<=1073741824:=by omega
 have q:∀z,z.length=a.length->M.s8  a Go.V.af 0 z=some a:=nF (F:=M.s8  a) a (by omega) (fun f k out h1 h2 hk=>by
  rw[M.s8];simp[hk,h2,getD_lt hk,bo hk (cu hn)]) (fun f out=>by rw[M.s8];simp)
 unfold M.wa;rw[q _ (by simp)];simp[hi]
theorem ajO(a:List (List UInt8))(ha:aK List.length a<=1048576):M.wM a a=some true:=by
 have hl:=bW List.length a;have hn:a.length<=1048576:=by omega
 unfold M.wM;refine nG (F:=M.wL  a a) a hn (fun f k hk=>?_) (fun f=>?_)
 ·rw[M.wL];simp[hk,getD_lt hk,bo hk (cu hn)]
 ·rw[M.wL];simp
theorem aAH(a:bu)(left:Int)(ok:a.Ok)(h0:0<=left)(h1:left<=1048576):M.Fo a left=some (if(a.sz:Int)<=left then left-a.sz else -1):=by
 unfold M.Fo;have hs:=bu.bI a;have ok1:=(bu.ok_eq a).1 ok
 try simp only[aa.aj,ar.aj,aJ.aj,aA.aj]
 have e0:Go.IntKind.wrap .i64 (left-((a.aS).length:Int))=left-((a.aS).length:Int):=wrap_i64 (by have:=ok1.2.1;unfold cP at this;omega) (by omega);by_cases c0:(((a.aS).length:Nat):Int)<=left
 ·skip
  have n0:¬(left-(((a.aS).length:Nat):Int)<0):=by omega
  have e1:Go.IntKind.wrap .i64 (left-(((a.aS).length:Nat):Int)-((a.dG).length:Int))=left-(((a.aS).length:Nat):Int)-((a.dG).length:Int):=wrap_i64 (by have:=ok1.2.2.1;unfold cP at this;omega) (by omega);by_cases c1:(((a.dG).length:Nat):Int)<=left-(((a.aS).length:Nat):Int)
  ·skip
   have n1:¬(left-(((a.aS).length:Nat):Int)-(((a.dG).length:Nat):Int)<0):=by omega
   have e2:Go.IntKind.wrap .i64 (left-(((a.aS).length:Nat):Int)-(((a.dG).length:Nat):Int)-((a.Import).length:Int))=left-(((a.aS).length:Nat):Int)-(((a.dG).length:Nat):Int)-((a.Import).length:Int):=wrap_i64 (by have:=ok1.2.2.2.1;unfold cP at this;omega) (by omega);by_cases c2:(((a.Import).length:Nat):Int)<=left-(((a.aS).length:Nat):Int)-(((a.dG).length:Nat):Int)
   ·skip
    have n2:¬(left-(((a.aS).length:Nat):Int)-(((a.dG).length:Nat):Int)-(((a.Import).length:Nat):Int)<0):=by omega
    have q:(a.sz:Int)<=left:=by rw[hs]<;>push_cast<;>omega
    have q2:left-(a.sz:Int)=left-(((a.aS).length:Nat):Int)-(((a.dG).length:Nat):Int)-(((a.Import).length:Nat):Int):=by rw[hs]<;>push_cast<;>omega
    rw[cz q,q2];simp[e0,n0,e1,n1,e2,n2]
   ·have n2:left-(((a.aS).length:Nat):Int)-(((a.dG).length:Nat):Int)-(((a.Import).length:Nat):Int)<0:=by omega
    have q:¬((a.sz:Int)<=left):=by rw[hs]<;>push_cast<;>omega
    rw[aw q];simp[e0,n0,e1,n1,e2,n2]
  ·have n1:left-(((a.aS).length:Nat):Int)-(((a.dG).length:Nat):Int)<0:=by omega
   have q:¬((a.sz:Int)<=left):=by rw[hs]<;>push_cast<;>omega
   rw[aw q];simp[e0,n0,e1,n1]
 ·have n0:left-(((a.aS).length:Nat):Int)<0:=by omega
  have q:¬((a.sz:Int)<=left):=by rw[hs]<;>push_cast<;>omega
  rw[aw q];simp[e0,n0]
theorem aAI(a:bu)(h:a.sz<=1048576):M.Hr a=some a:=by
 unfold M.Hr;have hs:=bu.bI a
 try simp only[aa.aj,ar.aj,aJ.aj,aA.aj]
 try simp[]
theorem aAJ(a:bu)(h:a.sz<=1048576):M.Di a a=some true:=by
 unfold M.Di;have hs:=bu.bI a
 try simp only[aa.aj,ar.aj,aJ.aj,aA.aj]
 try simp[]
theorem aAK(a:List bu)(left:Int)(ok:eu bu.Ok a)(h0:0<=left)(h1:left<=1048576):M.Cm a left=some (if(aK bu.sz a:Int)<=left then left-aK bu.sz a else -1):=by
 have hl:=ok.1;unfold M.Cm;rw[wrap_i64 (by omega) (by omega)];refine qg (f:=bu.sz) (F:=M.xo  a) a left h0 h1 (fun g k l h2 h3 hk=>?_) (fun g l=>?_)
 ·have hn:k<2^62:=by omega
  rw[M.xo];have e:=aAH a[k] l (ok.2 _ (bA hk)) h2 (by omega);by_cases d:((bu.sz a[k]:Nat):Int)<=l
  ·have n:¬(l-((bu.sz a[k]:Nat):Int)<0):=by omega
   rw[cz d]at e⊢;simp[hk,getD_lt hk,e,n,bo hk (show a.length<2^62 by omega),aa.aj,ar.aj,aJ.aj,aA.aj]
  ·rw[aw d]at e⊢;simp[hk,getD_lt hk,e,aa.aj,ar.aj,aJ.aj,aA.aj]
 ·rw[M.xo];simp
theorem aAL(a:List bu)(ha:aK bu.sz a<=1048576):M.CN a=some a:=by
 have hl:=bW bu.sz a;have hn:a.length<=1048576:=by omega
 have hi:(a.length:Int)<=1073741824:=by omega
 have q:∀z,z.length=a.length->M.sA  a Go.V.af 0 z=some a:=nF (F:=M.sA  a) a (by omega) (fun f k out h1 h2 hk=>by
  rw[M.sA];have e:=aAI a[k] (by have:=aC bu.sz a a[k] (bA hk);omega);simp[hk,h2,getD_lt hk,e,bo hk (cu hn),aa.aj,ar.aj,aJ.aj,aA.aj]) (fun f out=>by rw[M.sA];simp)
 unfold M.CN;rw[q _ (by simp)];simp[hi]
theorem aAM(a:List bu)(ha:aK bu.sz a<=1048576):M.Dj a a=some true:=by
 have hl:=bW bu.sz a;have hn:a.length<=1048576:=by omega
 unfold M.Dj;refine nG (F:=M.vY  a a) a hn (fun f k hk=>?_) (fun f=>?_)
 ·rw[M.vY];have e:=aAJ a[k] (by have:=aC bu.sz a a[k] (bA hk);omega);simp[hk,getD_lt hk,e,bo hk (cu hn),aa.aj,ar.aj,aJ.aj,aA.aj]
 ·rw[M.vY];simp
theorem aAN(r:aa->Int->Option Int)(a:List aa)(left:Int)(ok:eu aa.Ok a)(h0:0<=left)(h1:left<=1048576)(hr:∀x l,x∈a->0<=l->l<left->r x l=some (if(x.sz:Int)<=l then l-x.sz else -1)):M.Es r a left=some (if(aK aa.sz a:Int)<=left then left-aK aa.sz a else -1):=by
 have hl:=ok.1;unfold M.Es;rw[wrap_i64 (by omega) (by omega)];refine qg (f:=aa.sz) (F:=M.wJ r  a) a left h0 h1 (fun g k l h2 h3 hk=>?_) (fun g l=>?_)
 ·have hn:k<2^62:=by omega
  rw[M.wJ];have e:=hr a[k] l (bA hk) h2 (by omega);by_cases d:((aa.sz a[k]:Nat):Int)<=l
  ·have n:¬(l-((aa.sz a[k]:Nat):Int)<0):=by omega
   rw[cz d]at e⊢;simp[hk,getD_lt hk,e,n,bo hk (show a.length<2^62 by omega),aa.aj,ar.aj,aJ.aj,aA.aj]
  ·rw[aw d]at e⊢;simp[hk,getD_lt hk,e,aa.aj,ar.aj,aJ.aj,aA.aj]
 ·rw[M.wJ];simp
theorem aAO(r:aa->Option (aa))(a:List aa)(ha:a.length<=1048576)(hr:∀x∈a,r x=some x):M.Dy r a=some a:=by
 have hn:a.length<=1048576:=by omega
 have hi:(a.length:Int)<=1073741824:=by omega
 have q:∀z,z.length=a.length->M.s9 r  a Go.V.af 0 z=some a:=nF (F:=M.s9 r  a) a (by omega) (fun f k out h1 h2 hk=>by
  rw[M.s9];have e:=hr a[k] (bA hk);simp[hk,h2,getD_lt hk,e,bo hk (cu hn),aa.aj,ar.aj,aJ.aj,aA.aj]) (fun f out=>by rw[M.s9];simp)
 unfold M.Dy;rw[q _ (by simp)];simp[hi]
theorem aAP(r:aa->aa->Option Bool)(a:List aa)(ha:a.length<=1048576)(hr:∀x∈a,r x x=some true):M.Et r a a=some true:=by
 have hn:a.length<=1048576:=by omega
 unfold M.Et;refine nG (F:=M.wN r  a a) a hn (fun f k hk=>?_) (fun f=>?_)
 ·rw[M.wN];have e:=hr a[k] (bA hk);simp[hk,getD_lt hk,e,bo hk (cu hn),aa.aj,ar.aj,aJ.aj,aA.aj]
 ·rw[M.wN];simp
theorem ajP:∀(n:Nat)(a:aa)(left:Int),a.Ok->0<=left->left<n->left<=1048576->M.wK n a left=some (if(a.sz:Int)<=left then left-a.sz else -1)
 |0,a,left,ok,h0,h2,h1=>by omega
 |n+1,a,left,ok,h0,h2,h1=>by
  show M.Kq (M.wK n) a left=_
  unfold M.Kq;have hs:=aa.bI a;have ok1:=(aa.ok_eq a).1 ok
  try simp only[aa.aj,ar.aj,aJ.aj,aA.aj]
  have e0:Go.IntKind.wrap .i64 (left-((a.Name).length:Int))=left-((a.Name).length:Int):=wrap_i64 (by have:=ok1.2.1;unfold cP at this;omega) (by omega);by_cases c0:(((a.Name).length:Nat):Int)<=left
  ·skip
   have n0:¬(left-(((a.Name).length:Nat):Int)<0):=by omega
   have e1:=ajM (a.cn) (left-(((a.Name).length:Nat):Int)) ok1.2.2.1 (by omega) (by omega);by_cases c1:((aK List.length (a.cn):Nat):Int)<=left-(((a.Name).length:Nat):Int)
   ·rw[cz c1]at e1;have n1:¬(left-(((a.Name).length:Nat):Int)-((aK List.length (a.cn):Nat):Int)<0):=by omega
    have e2:=aAN (M.wK n) (a.Kids) (left-(((a.Name).length:Nat):Int)-((aK List.length (a.cn):Nat):Int)) ok1.2.2.2.1 (by omega) (by omega) (fun x l hx q0 q1=>ajP n x l ((ok1.2.2.2.1).2 x hx) q0 (by omega) (by omega));by_cases c2:((aK aa.sz (a.Kids):Nat):Int)<=left-(((a.Name).length:Nat):Int)-((aK List.length (a.cn):Nat):Int)
    ·rw[cz c2]at e2;have n2:¬(left-(((a.Name).length:Nat):Int)-((aK List.length (a.cn):Nat):Int)-((aK aa.sz (a.Kids):Nat):Int)<0):=by omega
     have q:(a.sz:Int)<=left:=by rw[hs]<;>push_cast<;>omega
     have q2:left-(a.sz:Int)=left-(((a.Name).length:Nat):Int)-((aK List.length (a.cn):Nat):Int)-((aK aa.sz (a.Kids):Nat):Int):=by rw[hs]<;>push_cast<;>omega
     rw[cz q,q2];simp[e0,n0,e1,n1,e2,n2]
    ·rw[aw c2]at e2;have q:¬((a.sz:Int)<=left):=by rw[hs]<;>push_cast<;>omega
     rw[aw q];simp[e0,n0,e1,n1,e2]
   ·rw[aw c1]at e1;have q:¬((a.sz:Int)<=left):=by rw[hs]<;>push_cast<;>omega
    rw[aw q];simp[e0,n0,e1]
  ·have n0:left-(((a.Name).length:Nat):Int)<0:=by omega
   have q:¬((a.sz:Int)<=left):=by rw[hs]<;>push_cast<;>omega
   rw[aw q];simp[e0,n0]
theorem ajQ(a:aa)(left:Int)(ok:a.Ok)(h0:0<=left)(h1:left<=1048576):M.zt a left=some (if(a.sz:Int)<=left then left-a.sz else -1):=
 ajP _ a left ok h0 (by have:=Go.V.bU;omega) h1
theorem ajR:∀(n:Nat)(a:aa),a.sz<n->a.sz<=1048576->M.wb n a=some a
 |0,a,h2,h=>by omega
 |n+1,a,h2,h=>by
  show M.IS (M.wb n) a=_
  unfold M.IS;have hs:=aa.bI a
  try simp only[aa.aj,ar.aj,aJ.aj,aA.aj]
  have e2:=ajN (a.cn) (by omega);have hk3:=bW aa.sz (a.Kids);have e3:=aAO (M.wb n) (a.Kids) (by omega) (fun x hx=>ajR n x (by have:=aC aa.sz (a.Kids) x hx;have:=zP aa.sz (a.Kids) x hx;omega) (by have:=aC aa.sz (a.Kids) x hx;omega))
  try simp[e2,e3,aa.eta]
theorem ajS(a:aa)(h:a.sz<=1048576):M.zi a=some a:=
 ajR _ a (by have:=Go.V.bU;omega) h
theorem ajT:∀(n:Nat)(a:aa),a.sz<n->a.sz<=1048576->M.wO n a a=some true
 |0,a,h2,h=>by omega
 |n+1,a,h2,h=>by
  show M.Kt (M.wO n) a a=_
  unfold M.Kt;have hs:=aa.bI a
  try simp only[aa.aj,ar.aj,aJ.aj,aA.aj]
  have e2:=ajO (a.cn) (by omega);have hk3:=bW aa.sz (a.Kids);have e3:=aAP (M.wO n) (a.Kids) (by omega) (fun x hx=>ajT n x (by have:=aC aa.sz (a.Kids) x hx;have:=zP aa.sz (a.Kids) x hx;omega) (by have:=aC aa.sz (a.Kids) x hx;omega))
  try simp[e2,e3,aa.eta]
theorem ajU(a:aa)(h:a.sz<=1048576):M.zu a a=some true:=
 ajT _ a (by have:=Go.V.bU;omega) h
theorem aAQ(a:ar)(left:Int)(ok:a.Ok)(h0:0<=left)(h1:left<=1048576):M.EH a left=some (if(a.sz:Int)<=left then left-a.sz else -1):=by
 unfold M.EH;have hs:=ar.bI a;have ok1:=(ar.ok_eq a).1 ok
 try simp only[aa.aj,ar.aj,aJ.aj,aA.aj]
 have e0:Go.IntKind.wrap .i64 (left-((a.Name).length:Int))=left-((a.Name).length:Int):=wrap_i64 (by have:=ok1.1;unfold cP at this;omega) (by omega);by_cases c0:(((a.Name).length:Nat):Int)<=left
 ·skip
  have n0:¬(left-(((a.Name).length:Nat):Int)<0):=by omega
  have e1:=ajQ (a.aF) (left-(((a.Name).length:Nat):Int)) ok1.2.1 (by omega) (by omega);by_cases c1:(((a.aF).sz:Nat):Int)<=left-(((a.Name).length:Nat):Int)
  ·rw[cz c1]at e1;have n1:¬(left-(((a.Name).length:Nat):Int)-(((a.aF).sz:Nat):Int)<0):=by omega
   have q:(a.sz:Int)<=left:=by rw[hs]<;>push_cast<;>omega
   have q2:left-(a.sz:Int)=left-(((a.Name).length:Nat):Int)-(((a.aF).sz:Nat):Int):=by rw[hs]<;>push_cast<;>omega
   rw[cz q,q2];simp[e0,n0,e1,n1]
  ·rw[aw c1]at e1;have q:¬((a.sz:Int)<=left):=by rw[hs]<;>push_cast<;>omega
   rw[aw q];simp[e0,n0,e1]
 ·have n0:left-(((a.Name).length:Nat):Int)<0:=by omega
  have q:¬((a.sz:Int)<=left):=by rw[hs]<;>push_cast<;>omega
  rw[aw q];simp[e0,n0]
theorem aAR(a:ar)(h:a.sz<=1048576):M.Dz a=some a:=by
 unfold M.Dz;have hs:=ar.bI a
 try simp only[aa.aj,ar.aj,aJ.aj,aA.aj]
 have e1:=ajS (a.aF) (by omega)
 try simp[e1]
theorem aAS(a:ar)(h:a.sz<=1048576):M.E9 a a=some true:=by
 unfold M.E9;have hs:=ar.bI a
 try simp only[aa.aj,ar.aj,aJ.aj,aA.aj]
 have e1:=ajU (a.aF) (by omega)
 try simp[e1]
theorem aAT(a:List ar)(left:Int)(ok:eu ar.Ok a)(h0:0<=left)(h1:left<=1048576):M.EI a left=some (if(aK ar.sz a:Int)<=left then left-aK ar.sz a else -1):=by
 have hl:=ok.1;unfold M.EI;rw[wrap_i64 (by omega) (by omega)];refine qg (f:=ar.sz) (F:=M.wW  a) a left h0 h1 (fun g k l h2 h3 hk=>?_) (fun g l=>?_)
 ·have hn:k<2^62:=by omega
  rw[M.wW];have e:=aAQ a[k] l (ok.2 _ (bA hk)) h2 (by omega);by_cases d:((ar.sz a[k]:Nat):Int)<=l
  ·have n:¬(l-((ar.sz a[k]:Nat):Int)<0):=by omega
   rw[cz d]at e⊢;simp[hk,getD_lt hk,e,n,bo hk (show a.length<2^62 by omega),aa.aj,ar.aj,aJ.aj,aA.aj]
  ·rw[aw d]at e⊢;simp[hk,getD_lt hk,e,aa.aj,ar.aj,aJ.aj,aA.aj]
 ·rw[M.wW];simp
theorem aAU(a:List ar)(ha:aK ar.sz a<=1048576):M.DC a=some a:=by
 have hl:=bW ar.sz a;have hn:a.length<=1048576:=by omega
 have hi:(a.length:Int)<=1073741824:=by omega
 have q:∀z,z.length=a.length->M.ta  a Go.V.af 0 z=some a:=nF (F:=M.ta  a) a (by omega) (fun f k out h1 h2 hk=>by
  rw[M.ta];have e:=aAR a[k] (by have:=aC ar.sz a a[k] (bA hk);omega);simp[hk,h2,getD_lt hk,e,bo hk (cu hn),aa.aj,ar.aj,aJ.aj,aA.aj]) (fun f out=>by rw[M.ta];simp)
 unfold M.DC;rw[q _ (by simp)];simp[hi]
theorem aAV(a:List ar)(ha:aK ar.sz a<=1048576):M.Fa a a=some true:=by
 have hl:=bW ar.sz a;have hn:a.length<=1048576:=by omega
 unfold M.Fa;refine nG (F:=M.xj  a a) a hn (fun f k hk=>?_) (fun f=>?_)
 ·rw[M.xj];have e:=aAS a[k] (by have:=aC ar.sz a a[k] (bA hk);omega);simp[hk,getD_lt hk,e,bo hk (cu hn),aa.aj,ar.aj,aJ.aj,aA.aj]
 ·rw[M.xj];simp
theorem aAW(a:aJ)(left:Int)(ok:a.Ok)(h0:0<=left)(h1:left<=1048576):M.EJ a left=some (if(a.sz:Int)<=left then left-a.sz else -1):=by
 unfold M.EJ;have hs:=aJ.bI a;have ok1:=(aJ.ok_eq a).1 ok
 try simp only[aa.aj,ar.aj,aJ.aj,aA.aj]
 have e0:=aAT (a.Params) (left) ok1.1 (by omega) (by omega);by_cases c0:((aK ar.sz (a.Params):Nat):Int)<=left
 ·rw[cz c0]at e0;have n0:¬(left-((aK ar.sz (a.Params):Nat):Int)<0):=by omega
  have e1:=ajQ (a.Result) (left-((aK ar.sz (a.Params):Nat):Int)) ok1.2.1 (by omega) (by omega);by_cases c1:(((a.Result).sz:Nat):Int)<=left-((aK ar.sz (a.Params):Nat):Int)
  ·rw[cz c1]at e1;have n1:¬(left-((aK ar.sz (a.Params):Nat):Int)-(((a.Result).sz:Nat):Int)<0):=by omega
   have q:(a.sz:Int)<=left:=by rw[hs]<;>push_cast<;>omega
   have q2:left-(a.sz:Int)=left-((aK ar.sz (a.Params):Nat):Int)-(((a.Result).sz:Nat):Int):=by rw[hs]<;>push_cast<;>omega
   rw[cz q,q2];simp[e0,n0,e1,n1]
  ·rw[aw c1]at e1;have q:¬((a.sz:Int)<=left):=by rw[hs]<;>push_cast<;>omega
   rw[aw q];simp[e0,n0,e1]
 ·rw[aw c0]at e0;have q:¬((a.sz:Int)<=left):=by rw[hs]<;>push_cast<;>omega
  rw[aw q];simp[e0]
theorem aAX(a:aJ)(h:a.sz<=1048576):M.DD a=some a:=by
 unfold M.DD;have hs:=aJ.bI a
 try simp only[aa.aj,ar.aj,aJ.aj,aA.aj]
 have e0:=aAU (a.Params) (by omega);have e1:=ajS (a.Result) (by omega)
 try simp[e0,e1]
theorem aAY(a:aJ)(h:a.sz<=1048576):M.Fb a a=some true:=by
 unfold M.Fb;have hs:=aJ.bI a
 try simp only[aa.aj,ar.aj,aJ.aj,aA.aj]
 have e0:=aAV (a.Params) (by omega);have e1:=ajU (a.Result) (by omega)
 try simp[e0,e1]
theorem aAZ(a:aA)(left:Int)(ok:a.Ok)(h0:0<=left)(h1:left<=1048576):M.EK a left=some (if(a.sz:Int)<=left then left-a.sz else -1):=by
 unfold M.EK;have hs:=aA.bI a;have ok1:=(aA.ok_eq a).1 ok
 try simp only[aa.aj,ar.aj,aJ.aj,aA.aj]
 have e0:Go.IntKind.wrap .i64 (left-((a.Name).length:Int))=left-((a.Name).length:Int):=wrap_i64 (by have:=ok1.1;unfold cP at this;omega) (by omega);by_cases c0:(((a.Name).length:Nat):Int)<=left
 ·skip
  have n0:¬(left-(((a.Name).length:Nat):Int)<0):=by omega
  have e1:=aAW (a.aF) (left-(((a.Name).length:Nat):Int)) ok1.2.1 (by omega) (by omega);by_cases c1:(((a.aF).sz:Nat):Int)<=left-(((a.Name).length:Nat):Int)
  ·rw[cz c1]at e1;have n1:¬(left-(((a.Name).length:Nat):Int)-(((a.aF).sz:Nat):Int)<0):=by omega
   have q:(a.sz:Int)<=left:=by rw[hs]<;>push_cast<;>omega
   have q2:left-(a.sz:Int)=left-(((a.Name).length:Nat):Int)-(((a.aF).sz:Nat):Int):=by rw[hs]<;>push_cast<;>omega
   rw[cz q,q2];simp[e0,n0,e1,n1]
  ·rw[aw c1]at e1;have q:¬((a.sz:Int)<=left):=by rw[hs]<;>push_cast<;>omega
   rw[aw q];simp[e0,n0,e1]
 ·have n0:left-(((a.Name).length:Nat):Int)<0:=by omega
  have q:¬((a.sz:Int)<=left):=by rw[hs]<;>push_cast<;>omega
  rw[aw q];simp[e0,n0]
theorem aA0(a:aA)(h:a.sz<=1048576):M.DF a=some a:=by
 unfold M.DF;have hs:=aA.bI a
 try simp only[aa.aj,ar.aj,aJ.aj,aA.aj]
 have e1:=aAX (a.aF) (by omega)
 try simp[e1]
theorem aA1(a:aA)(h:a.sz<=1048576):M.Fe a a=some true:=by
 unfold M.Fe;have hs:=aA.bI a
 try simp only[aa.aj,ar.aj,aJ.aj,aA.aj]
 have e1:=aAY (a.aF) (by omega)
 try simp[e1]
theorem aA2(a:List aA)(left:Int)(ok:eu aA.Ok a)(h0:0<=left)(h1:left<=1048576):M.EL a left=some (if(aK aA.sz a:Int)<=left then left-aK aA.sz a else -1):=by
 have hl:=ok.1;unfold M.EL;rw[wrap_i64 (by omega) (by omega)];refine qg (f:=aA.sz) (F:=M.wX  a) a left h0 h1 (fun g k l h2 h3 hk=>?_) (fun g l=>?_)
 ·have hn:k<2^62:=by omega
  rw[M.wX];have e:=aAZ a[k] l (ok.2 _ (bA hk)) h2 (by omega);by_cases d:((aA.sz a[k]:Nat):Int)<=l
  ·have n:¬(l-((aA.sz a[k]:Nat):Int)<0):=by omega
   rw[cz d]at e⊢;simp[hk,getD_lt hk,e,n,bo hk (show a.length<2^62 by omega),aa.aj,ar.aj,aJ.aj,aA.aj]
  ·rw[aw d]at e⊢;simp[hk,getD_lt hk,e,aa.aj,ar.aj,aJ.aj,aA.aj]
 ·rw[M.wX];simp
theorem aA3(a:List aA)(ha:aK aA.sz a<=1048576):M.DG a=some a:=by
 have hl:=bW aA.sz a;have hn:a.length<=1048576:=by omega
 have hi:(a.length:Int)<=1073741824:=by omega
 have q:∀z,z.length=a.length->M.tc  a Go.V.af 0 z=some a:=nF (F:=M.tc  a) a (by omega) (fun f k out h1 h2 hk=>by
  rw[M.tc];have e:=aA0 a[k] (by have:=aC aA.sz a a[k] (bA hk);omega);simp[hk,h2,getD_lt hk,e,bo hk (cu hn),aa.aj,ar.aj,aJ.aj,aA.aj]) (fun f out=>by rw[M.tc];simp)
 unfold M.DG;rw[q _ (by simp)];simp[hi]
theorem aA4(a:List aA)(ha:aK aA.sz a<=1048576):M.Ff a a=some true:=by
 have hl:=bW aA.sz a;have hn:a.length<=1048576:=by omega
 unfold M.Ff;refine nG (F:=M.xk  a a) a hn (fun f k hk=>?_) (fun f=>?_)
 ·rw[M.xk];have e:=aA1 a[k] (by have:=aC aA.sz a a[k] (bA hk);omega);simp[hk,getD_lt hk,e,bo hk (cu hn),aa.aj,ar.aj,aJ.aj,aA.aj]
 ·rw[M.xk];simp
theorem aA5(a:ax)(left:Int)(ok:a.Ok)(h0:0<=left)(h1:left<=1048576):M.EM a left=some (if(a.sz:Int)<=left then left-a.sz else -1):=by
 unfold M.EM;have hs:=ax.bI a;have ok1:=(ax.ok_eq a).1 ok
 try simp only[aa.aj,ar.aj,aJ.aj,aA.aj]
 have e0:Go.IntKind.wrap .i64 (left-((a.cV).length:Int))=left-((a.cV).length:Int):=wrap_i64 (by have:=ok1.1;unfold cP at this;omega) (by omega);by_cases c0:(((a.cV).length:Nat):Int)<=left
 ·skip
  have n0:¬(left-(((a.cV).length:Nat):Int)<0):=by omega
  have e1:Go.IntKind.wrap .i64 (left-(((a.cV).length:Nat):Int)-((a.Name).length:Int))=left-(((a.cV).length:Nat):Int)-((a.Name).length:Int):=wrap_i64 (by have:=ok1.2.1;unfold cP at this;omega) (by omega);by_cases c1:(((a.Name).length:Nat):Int)<=left-(((a.cV).length:Nat):Int)
  ·skip
   have n1:¬(left-(((a.cV).length:Nat):Int)-(((a.Name).length:Nat):Int)<0):=by omega
   have e2:Go.IntKind.wrap .i64 (left-(((a.cV).length:Nat):Int)-(((a.Name).length:Nat):Int)-((a.Version).length:Int))=left-(((a.cV).length:Nat):Int)-(((a.Name).length:Nat):Int)-((a.Version).length:Int):=wrap_i64 (by have:=ok1.2.2.1;unfold cP at this;omega) (by omega);by_cases c2:(((a.Version).length:Nat):Int)<=left-(((a.cV).length:Nat):Int)-(((a.Name).length:Nat):Int)
   ·skip
    have n2:¬(left-(((a.cV).length:Nat):Int)-(((a.Name).length:Nat):Int)-(((a.Version).length:Nat):Int)<0):=by omega
    have e3:=ajM (a.bK) (left-(((a.cV).length:Nat):Int)-(((a.Name).length:Nat):Int)-(((a.Version).length:Nat):Int)) ok1.2.2.2.1 (by omega) (by omega);by_cases c3:((aK List.length (a.bK):Nat):Int)<=left-(((a.cV).length:Nat):Int)-(((a.Name).length:Nat):Int)-(((a.Version).length:Nat):Int)
    ·rw[cz c3]at e3;have n3:¬(left-(((a.cV).length:Nat):Int)-(((a.Name).length:Nat):Int)-(((a.Version).length:Nat):Int)-((aK List.length (a.bK):Nat):Int)<0):=by omega
     have e4:=aA2 (a.Funcs) (left-(((a.cV).length:Nat):Int)-(((a.Name).length:Nat):Int)-(((a.Version).length:Nat):Int)-((aK List.length (a.bK):Nat):Int)) ok1.2.2.2.2.1 (by omega) (by omega);by_cases c4:((aK aA.sz (a.Funcs):Nat):Int)<=left-(((a.cV).length:Nat):Int)-(((a.Name).length:Nat):Int)-(((a.Version).length:Nat):Int)-((aK List.length (a.bK):Nat):Int)
     ·rw[cz c4]at e4;have n4:¬(left-(((a.cV).length:Nat):Int)-(((a.Name).length:Nat):Int)-(((a.Version).length:Nat):Int)-((aK List.length (a.bK):Nat):Int)-((aK aA.sz (a.Funcs):Nat):Int)<0):=by omega
      have q:(a.sz:Int)<=left:=by rw[hs]<;>push_cast<;>omega
      have q2:left-(a.sz:Int)=left-(((a.cV).length:Nat):Int)-(((a.Name).length:Nat):Int)-(((a.Version).length:Nat):Int)-((aK List.length (a.bK):Nat):Int)-((aK aA.sz (a.Funcs):Nat):Int):=by rw[hs]<;>push_cast<;>omega
      rw[cz q,q2];simp[e0,n0,e1,n1,e2,n2,e3,n3,e4,n4]
     ·rw[aw c4]at e4;have q:¬((a.sz:Int)<=left):=by rw[hs]<;>push_cast<;>omega
      rw[aw q];simp[e0,n0,e1,n1,e2,n2,e3,n3,e4]
    ·rw[aw c3]at e3;have q:¬((a.sz:Int)<=left):=by rw[hs]<;>push_cast<;>omega
     rw[aw q];simp[e0,n0,e1,n1,e2,n2,e3]
   ·have n2:left-(((a.cV).length:Nat):Int)-(((a.Name).length:Nat):Int)-(((a.Version).length:Nat):Int)<0:=by omega
    have q:¬((a.sz:Int)<=left):=by rw[hs]<;>push_cast<;>omega
    rw[aw q];simp[e0,n0,e1,n1,e2,n2]
  ·have n1:left-(((a.cV).length:Nat):Int)-(((a.Name).length:Nat):Int)<0:=by omega
   have q:¬((a.sz:Int)<=left):=by rw[hs]<;>push_cast<;>omega
   rw[aw q];simp[e0,n0,e1,n1]
 ·have n0:left-(((a.cV).length:Nat):Int)<0:=by omega
  have q:¬((a.sz:Int)<=left):=by rw[hs]<;>push_cast<;>omega
  rw[aw q];simp[e0,n0]
theorem aA6(a:ax)(h:a.sz<=1048576):M.DI a=some a:=by
 unfold M.DI;have hs:=ax.bI a
 try simp only[aa.aj,ar.aj,aJ.aj,aA.aj]
 have e3:=ajN (a.bK) (by omega);have e4:=aA3 (a.Funcs) (by omega)
 try simp[e3,e4]
theorem aA7(a:ax)(h:a.sz<=1048576):M.Fg a a=some true:=by
 unfold M.Fg;have hs:=ax.bI a
 try simp only[aa.aj,ar.aj,aJ.aj,aA.aj]
 have e3:=ajO (a.bK) (by omega);have e4:=aA4 (a.Funcs) (by omega)
 try simp[e3,e4]
theorem ajV(a:List ax)(left:Int)(ok:eu ax.Ok a)(h0:0<=left)(h1:left<=1048576):M.yJ a left=some (if(aK ax.sz a:Int)<=left then left-aK ax.sz a else -1):=by
 have hl:=ok.1;unfold M.yJ;rw[wrap_i64 (by omega) (by omega)];refine qg (f:=ax.sz) (F:=M.wY  a) a left h0 h1 (fun g k l h2 h3 hk=>?_) (fun g l=>?_)
 ·have hn:k<2^62:=by omega
  rw[M.wY];have e:=aA5 a[k] l (ok.2 _ (bA hk)) h2 (by omega);by_cases d:((ax.sz a[k]:Nat):Int)<=l
  ·have n:¬(l-((ax.sz a[k]:Nat):Int)<0):=by omega
   rw[cz d]at e⊢;simp[hk,getD_lt hk,e,n,bo hk (show a.length<2^62 by omega),aa.aj,ar.aj,aJ.aj,aA.aj]
  ·rw[aw d]at e⊢;simp[hk,getD_lt hk,e,aa.aj,ar.aj,aJ.aj,aA.aj]
 ·rw[M.wY];simp
theorem ajW(a:List ax)(ha:aK ax.sz a<=1048576):M.zj a=some a:=by
 have hl:=bW ax.sz a;have hn:a.length<=1048576:=by omega
 have hi:(a.length:Int)<=1073741824:=by omega
 have q:∀z,z.length=a.length->M.td  a Go.V.af 0 z=some a:=nF (F:=M.td  a) a (by omega) (fun f k out h1 h2 hk=>by
  rw[M.td];have e:=aA6 a[k] (by have:=aC ax.sz a a[k] (bA hk);omega);simp[hk,h2,getD_lt hk,e,bo hk (cu hn),aa.aj,ar.aj,aJ.aj,aA.aj]) (fun f out=>by rw[M.td];simp)
 unfold M.zj;rw[q _ (by simp)];simp[hi]
theorem ajX(a:List ax)(ha:aK ax.sz a<=1048576):M.yY a a=some true:=by
 have hl:=bW ax.sz a;have hn:a.length<=1048576:=by omega
 unfold M.yY;refine nG (F:=M.xl  a a) a hn (fun f k hk=>?_) (fun f=>?_)
 ·rw[M.xl];have e:=aA7 a[k] (by have:=aC ax.sz a a[k] (bA hk);omega);simp[hk,getD_lt hk,e,bo hk (cu hn),aa.aj,ar.aj,aJ.aj,aA.aj]
 ·rw[M.xl];simp
theorem aA8(a:bF)(left:Int)(ok:a.Ok)(h0:0<=left)(h1:left<=1048576):M.Fh a left=some (if(a.sz:Int)<=left then left-a.sz else -1):=by
 unfold M.Fh;have hs:=bF.bI a;have ok1:=(bF.ok_eq a).1 ok
 try simp only[aa.aj,ar.aj,aJ.aj,aA.aj]
 have e0:Go.IntKind.wrap .i64 (left-((a.aS).length:Int))=left-((a.aS).length:Int):=wrap_i64 (by have:=ok1.1;unfold cP at this;omega) (by omega);by_cases c0:(((a.aS).length:Nat):Int)<=left
 ·skip
  have n0:¬(left-(((a.aS).length:Nat):Int)<0):=by omega
  have e1:Go.IntKind.wrap .i64 (left-(((a.aS).length:Nat):Int)-((a.Func).length:Int))=left-(((a.aS).length:Nat):Int)-((a.Func).length:Int):=wrap_i64 (by have:=ok1.2.1;unfold cP at this;omega) (by omega);by_cases c1:(((a.Func).length:Nat):Int)<=left-(((a.aS).length:Nat):Int)
  ·skip
   have n1:¬(left-(((a.aS).length:Nat):Int)-(((a.Func).length:Nat):Int)<0):=by omega
   have e2:Go.IntKind.wrap .i64 (left-(((a.aS).length:Nat):Int)-(((a.Func).length:Nat):Int)-((a.Core).length:Int))=left-(((a.aS).length:Nat):Int)-(((a.Func).length:Nat):Int)-((a.Core).length:Int):=wrap_i64 (by have:=ok1.2.2.1;unfold cP at this;omega) (by omega);by_cases c2:(((a.Core).length:Nat):Int)<=left-(((a.aS).length:Nat):Int)-(((a.Func).length:Nat):Int)
   ·skip
    have n2:¬(left-(((a.aS).length:Nat):Int)-(((a.Func).length:Nat):Int)-(((a.Core).length:Nat):Int)<0):=by omega
    have q:(a.sz:Int)<=left:=by rw[hs]<;>push_cast<;>omega
    have q2:left-(a.sz:Int)=left-(((a.aS).length:Nat):Int)-(((a.Func).length:Nat):Int)-(((a.Core).length:Nat):Int):=by rw[hs]<;>push_cast<;>omega
    rw[cz q,q2];simp[e0,n0,e1,n1,e2,n2]
   ·have n2:left-(((a.aS).length:Nat):Int)-(((a.Func).length:Nat):Int)-(((a.Core).length:Nat):Int)<0:=by omega
    have q:¬((a.sz:Int)<=left):=by rw[hs]<;>push_cast<;>omega
    rw[aw q];simp[e0,n0,e1,n1,e2,n2]
  ·have n1:left-(((a.aS).length:Nat):Int)-(((a.Func).length:Nat):Int)<0:=by omega
   have q:¬((a.sz:Int)<=left):=by rw[hs]<;>push_cast<;>omega
   rw[aw q];simp[e0,n0,e1,n1]
 ·have n0:left-(((a.aS).length:Nat):Int)<0:=by omega
  have q:¬((a.sz:Int)<=left):=by rw[hs]<;>push_cast<;>omega
  rw[aw q];simp[e0,n0]
theorem aA9(a:bF)(h:a.sz<=1048576):M.Hk a=some a:=by
 unfold M.Hk;have hs:=bF.bI a
 try simp only[aa.aj,ar.aj,aJ.aj,aA.aj]
 try simp[]
theorem aBa(a:bF)(h:a.sz<=1048576):M.Db a a=some true:=by
 unfold M.Db;have hs:=bF.bI a
 try simp only[aa.aj,ar.aj,aJ.aj,aA.aj]
 try simp[]
theorem aBb(a:List bF)(left:Int)(ok:eu bF.Ok a)(h0:0<=left)(h1:left<=1048576):M.CE a left=some (if(aK bF.sz a:Int)<=left then left-aK bF.sz a else -1):=by
 have hl:=ok.1;unfold M.CE;rw[wrap_i64 (by omega) (by omega)];refine qg (f:=bF.sz) (F:=M.xm  a) a left h0 h1 (fun g k l h2 h3 hk=>?_) (fun g l=>?_)
 ·have hn:k<2^62:=by omega
  rw[M.xm];have e:=aA8 a[k] l (ok.2 _ (bA hk)) h2 (by omega);by_cases d:((bF.sz a[k]:Nat):Int)<=l
  ·have n:¬(l-((bF.sz a[k]:Nat):Int)<0):=by omega
   rw[cz d]at e⊢;simp[hk,getD_lt hk,e,n,bo hk (show a.length<2^62 by omega),aa.aj,ar.aj,aJ.aj,aA.aj]
  ·rw[aw d]at e⊢;simp[hk,getD_lt hk,e,aa.aj,ar.aj,aJ.aj,aA.aj]
 ·rw[M.xm];simp
theorem aBc(a:List bF)(ha:aK bF.sz a<=1048576):M.CL a=some a:=by
 have hl:=bW bF.sz a;have hn:a.length<=1048576:=by omega
 have hi:(a.length:Int)<=1073741824:=by omega
 have q:∀z,z.length=a.length->M.sx  a Go.V.af 0 z=some a:=nF (F:=M.sx  a) a (by omega) (fun f k out h1 h2 hk=>by
  rw[M.sx];have e:=aA9 a[k] (by have:=aC bF.sz a a[k] (bA hk);omega);simp[hk,h2,getD_lt hk,e,bo hk (cu hn),aa.aj,ar.aj,aJ.aj,aA.aj]) (fun f out=>by rw[M.sx];simp)
 unfold M.CL;rw[q _ (by simp)];simp[hi]
theorem aBd(a:List bF)(ha:aK bF.sz a<=1048576):M.Dc a a=some true:=by
 have hl:=bW bF.sz a;have hn:a.length<=1048576:=by omega
 unfold M.Dc;refine nG (F:=M.vW  a a) a hn (fun f k hk=>?_) (fun f=>?_)
 ·rw[M.vW];have e:=aBa a[k] (by have:=aC bF.sz a a[k] (bA hk);omega);simp[hk,getD_lt hk,e,bo hk (cu hn),aa.aj,ar.aj,aJ.aj,aA.aj]
 ·rw[M.vW];simp
theorem aBe(a:bC)(left:Int)(ok:a.Ok)(h0:0<=left)(h1:left<=1048576):M.Fj a left=some (if(a.sz:Int)<=left then left-a.sz else -1):=by
 unfold M.Fj;have hs:=bC.bI a;have ok1:=(bC.ok_eq a).1 ok
 try simp only[aa.aj,ar.aj,aJ.aj,aA.aj]
 have e0:Go.IntKind.wrap .i64 (left-((a.aS).length:Int))=left-((a.aS).length:Int):=wrap_i64 (by have:=ok1.1;unfold cP at this;omega) (by omega);by_cases c0:(((a.aS).length:Nat):Int)<=left
 ·skip
  have n0:¬(left-(((a.aS).length:Nat):Int)<0):=by omega
  have e1:Go.IntKind.wrap .i64 (left-(((a.aS).length:Nat):Int)-((a.Func).length:Int))=left-(((a.aS).length:Nat):Int)-((a.Func).length:Int):=wrap_i64 (by have:=ok1.2.1;unfold cP at this;omega) (by omega);by_cases c1:(((a.Func).length:Nat):Int)<=left-(((a.aS).length:Nat):Int)
  ·skip
   have n1:¬(left-(((a.aS).length:Nat):Int)-(((a.Func).length:Nat):Int)<0):=by omega
   have e2:Go.IntKind.wrap .i64 (left-(((a.aS).length:Nat):Int)-(((a.Func).length:Nat):Int)-((a.Import).length:Int))=left-(((a.aS).length:Nat):Int)-(((a.Func).length:Nat):Int)-((a.Import).length:Int):=wrap_i64 (by have:=ok1.2.2.1;unfold cP at this;omega) (by omega);by_cases c2:(((a.Import).length:Nat):Int)<=left-(((a.aS).length:Nat):Int)-(((a.Func).length:Nat):Int)
   ·skip
    have n2:¬(left-(((a.aS).length:Nat):Int)-(((a.Func).length:Nat):Int)-(((a.Import).length:Nat):Int)<0):=by omega
    have q:(a.sz:Int)<=left:=by rw[hs]<;>push_cast<;>omega
    have q2:left-(a.sz:Int)=left-(((a.aS).length:Nat):Int)-(((a.Func).length:Nat):Int)-(((a.Import).length:Nat):Int):=by rw[hs]<;>push_cast<;>omega
    rw[cz q,q2];simp[e0,n0,e1,n1,e2,n2]
   ·have n2:left-(((a.aS).length:Nat):Int)-(((a.Func).length:Nat):Int)-(((a.Import).length:Nat):Int)<0:=by omega
    have q:¬((a.sz:Int)<=left):=by rw[hs]<;>push_cast<;>omega
    rw[aw q];simp[e0,n0,e1,n1,e2,n2]
  ·have n1:left-(((a.aS).length:Nat):Int)-(((a.Func).length:Nat):Int)<0:=by omega
   have q:¬((a.sz:Int)<=left):=by rw[hs]<;>push_cast<;>omega
   rw[aw q];simp[e0,n0,e1,n1]
 ·have n0:left-(((a.aS).length:Nat):Int)<0:=by omega
  have q:¬((a.sz:Int)<=left):=by rw[hs]<;>push_cast<;>omega
  rw[aw q];simp[e0,n0]
theorem aBf(a:bC)(h:a.sz<=1048576):M.Hm a=some a:=by
 unfold M.Hm;have hs:=bC.bI a
 try simp only[aa.aj,ar.aj,aJ.aj,aA.aj]
 try simp[]
theorem aBg(a:bC)(h:a.sz<=1048576):M.Df a a=some true:=by
 unfold M.Df;have hs:=bC.bI a
 try simp only[aa.aj,ar.aj,aJ.aj,aA.aj]
 try simp[]
theorem aBh(a:List bC)(left:Int)(ok:eu bC.Ok a)(h0:0<=left)(h1:left<=1048576):M.CG a left=some (if(aK bC.sz a:Int)<=left then left-aK bC.sz a else -1):=by
 have hl:=ok.1;unfold M.CG;rw[wrap_i64 (by omega) (by omega)];refine qg (f:=bC.sz) (F:=M.xn  a) a left h0 h1 (fun g k l h2 h3 hk=>?_) (fun g l=>?_)
 ·have hn:k<2^62:=by omega
  rw[M.xn];have e:=aBe a[k] l (ok.2 _ (bA hk)) h2 (by omega);by_cases d:((bC.sz a[k]:Nat):Int)<=l
  ·have n:¬(l-((bC.sz a[k]:Nat):Int)<0):=by omega
   rw[cz d]at e⊢;simp[hk,getD_lt hk,e,n,bo hk (show a.length<2^62 by omega),aa.aj,ar.aj,aJ.aj,aA.aj]
  ·rw[aw d]at e⊢;simp[hk,getD_lt hk,e,aa.aj,ar.aj,aJ.aj,aA.aj]
 ·rw[M.xn];simp
theorem aBi(a:List bC)(ha:aK bC.sz a<=1048576):M.CM a=some a:=by
 have hl:=bW bC.sz a;have hn:a.length<=1048576:=by omega
 have hi:(a.length:Int)<=1073741824:=by omega
 have q:∀z,z.length=a.length->M.sy  a Go.V.af 0 z=some a:=nF (F:=M.sy  a) a (by omega) (fun f k out h1 h2 hk=>by
  rw[M.sy];have e:=aBf a[k] (by have:=aC bC.sz a a[k] (bA hk);omega);simp[hk,h2,getD_lt hk,e,bo hk (cu hn),aa.aj,ar.aj,aJ.aj,aA.aj]) (fun f out=>by rw[M.sy];simp)
 unfold M.CM;rw[q _ (by simp)];simp[hi]
theorem aBj(a:List bC)(ha:aK bC.sz a<=1048576):M.Dh a a=some true:=by
 have hl:=bW bC.sz a;have hn:a.length<=1048576:=by omega
 unfold M.Dh;refine nG (F:=M.vX  a a) a hn (fun f k hk=>?_) (fun f=>?_)
 ·rw[M.vX];have e:=aBg a[k] (by have:=aC bC.sz a a[k] (bA hk);omega);simp[hk,getD_lt hk,e,bo hk (cu hn),aa.aj,ar.aj,aJ.aj,aA.aj]
 ·rw[M.vX];simp
theorem aBk(a:aE)(h:a.sz<=1048576):M.JU a=some a:=by
 unfold M.JU;have hs:=aE.bI a
 try simp only[aa.aj,ar.aj,aJ.aj,aA.aj]
 try simp[]
theorem aBl(a:aE)(h:a.sz<=1048576):M.Em a a=some true:=by
 unfold M.Em;have hs:=aE.bI a
 try simp only[aa.aj,ar.aj,aJ.aj,aA.aj]
 try simp[]
theorem aBm(a:List aE)(left:Int)(ok:eu aE.Ok a)(h0:0<=left)(h1:left<=1048576):M.DW a left=some (if(aK aE.sz a:Int)<=left then left-aK aE.sz a else -1):=by
 have hl:=ok.1;unfold M.DW;rw[wrap_i64 (by omega) (by omega)];exact aBn (f:=aE.sz) (fun _=>rfl) a left h0
theorem aBo(a:List aE)(ha:aK aE.sz a<=1048576):M.D1 a=some a:=by
 have hl:=bW aE.sz a;have hn:a.length<=1048576:=by omega
 have hi:(a.length:Int)<=1073741824:=by omega
 have q:∀z,z.length=a.length->M.tG  a Go.V.af 0 z=some a:=nF (F:=M.tG  a) a (by omega) (fun f k out h1 h2 hk=>by
  rw[M.tG];have e:=aBk a[k] (by have:=aC aE.sz a a[k] (bA hk);omega);simp[hk,h2,getD_lt hk,e,bo hk (cu hn),aa.aj,ar.aj,aJ.aj,aA.aj]) (fun f out=>by rw[M.tG];simp)
 unfold M.D1;rw[q _ (by simp)];simp[hi]
theorem aBp(a:List aE)(ha:aK aE.sz a<=1048576):M.En a a=some true:=by
 have hl:=bW aE.sz a;have hn:a.length<=1048576:=by omega
 unfold M.En;refine nG (F:=M.wF  a a) a hn (fun f k hk=>?_) (fun f=>?_)
 ·rw[M.wF];have e:=aBl a[k] (by have:=aC aE.sz a a[k] (bA hk);omega);simp[hk,getD_lt hk,e,bo hk (cu hn),aa.aj,ar.aj,aJ.aj,aA.aj]
 ·rw[M.wF];simp
theorem aBq(a:av)(left:Int)(ok:a.Ok)(h0:0<=left)(h1:left<=1048576):M.DX a left=some (if(a.sz:Int)<=left then left-a.sz else -1):=by
 unfold M.DX;have hs:=av.bI a;have ok1:=(av.ok_eq a).1 ok
 try simp only[aa.aj,ar.aj,aJ.aj,aA.aj]
 have e0:Go.IntKind.wrap .i64 (left-((a.Name).length:Int))=left-((a.Name).length:Int):=wrap_i64 (by have:=ok1.1;unfold cP at this;omega) (by omega);by_cases c0:(((a.Name).length:Nat):Int)<=left
 ·skip
  have n0:¬(left-(((a.Name).length:Nat):Int)<0):=by omega
  have e1:=aBm (a.Code) (left-(((a.Name).length:Nat):Int)) ok1.2.2.2.2.1 (by omega) (by omega);by_cases c1:((aK aE.sz (a.Code):Nat):Int)<=left-(((a.Name).length:Nat):Int)
  ·rw[cz c1]at e1;have n1:¬(left-(((a.Name).length:Nat):Int)-((aK aE.sz (a.Code):Nat):Int)<0):=by omega
   have q:(a.sz:Int)<=left:=by rw[hs]<;>push_cast<;>omega
   have q2:left-(a.sz:Int)=left-(((a.Name).length:Nat):Int)-((aK aE.sz (a.Code):Nat):Int):=by rw[hs]<;>push_cast<;>omega
   rw[cz q,q2];simp[e0,n0,e1,n1]
  ·rw[aw c1]at e1;have q:¬((a.sz:Int)<=left):=by rw[hs]<;>push_cast<;>omega
   rw[aw q];simp[e0,n0,e1]
 ·have n0:left-(((a.Name).length:Nat):Int)<0:=by omega
  have q:¬((a.sz:Int)<=left):=by rw[hs]<;>push_cast<;>omega
  rw[aw q];simp[e0,n0]
theorem aBr(a:av)(h:a.sz<=1048576):M.D2 a=some a:=by
 unfold M.D2;have hs:=av.bI a
 try simp only[aa.aj,ar.aj,aJ.aj,aA.aj]
 have e4:=aBo (a.Code) (by omega)
 try simp[e4]
theorem aBs(a:av)(h:a.sz<=1048576):M.Eo a a=some true:=by
 unfold M.Eo;have hs:=av.bI a
 try simp only[aa.aj,ar.aj,aJ.aj,aA.aj]
 have e4:=aBp (a.Code) (by omega)
 try simp[e4]
theorem aBt(a:List av)(left:Int)(ok:eu av.Ok a)(h0:0<=left)(h1:left<=1048576):M.DY a left=some (if(aK av.sz a:Int)<=left then left-aK av.sz a else -1):=by
 have hl:=ok.1;unfold M.DY;rw[wrap_i64 (by omega) (by omega)];refine qg (f:=av.sz) (F:=M.wv  a) a left h0 h1 (fun g k l h2 h3 hk=>?_) (fun g l=>?_)
 ·have hn:k<2^62:=by omega
  rw[M.wv];have e:=aBq a[k] l (ok.2 _ (bA hk)) h2 (by omega);by_cases d:((av.sz a[k]:Nat):Int)<=l
  ·have n:¬(l-((av.sz a[k]:Nat):Int)<0):=by omega
   rw[cz d]at e⊢;simp[hk,getD_lt hk,e,n,bo hk (show a.length<2^62 by omega),aa.aj,ar.aj,aJ.aj,aA.aj]
  ·rw[aw d]at e⊢;simp[hk,getD_lt hk,e,aa.aj,ar.aj,aJ.aj,aA.aj]
 ·rw[M.wv];simp
theorem aBu(a:List av)(ha:aK av.sz a<=1048576):M.D3 a=some a:=by
 have hl:=bW av.sz a;have hn:a.length<=1048576:=by omega
 have hi:(a.length:Int)<=1073741824:=by omega
 have q:∀z,z.length=a.length->M.tH  a Go.V.af 0 z=some a:=nF (F:=M.tH  a) a (by omega) (fun f k out h1 h2 hk=>by
  rw[M.tH];have e:=aBr a[k] (by have:=aC av.sz a a[k] (bA hk);omega);simp[hk,h2,getD_lt hk,e,bo hk (cu hn),aa.aj,ar.aj,aJ.aj,aA.aj]) (fun f out=>by rw[M.tH];simp)
 unfold M.D3;rw[q _ (by simp)];simp[hi]
theorem aBv(a:List av)(ha:aK av.sz a<=1048576):M.Ep a a=some true:=by
 have hl:=bW av.sz a;have hn:a.length<=1048576:=by omega
 unfold M.Ep;refine nG (F:=M.wG  a a) a hn (fun f k hk=>?_) (fun f=>?_)
 ·rw[M.wG];have e:=aBs a[k] (by have:=aC av.sz a a[k] (bA hk);omega);simp[hk,getD_lt hk,e,bo hk (cu hn),aa.aj,ar.aj,aJ.aj,aA.aj]
 ·rw[M.wG];simp
theorem aBw(a:aO)(left:Int)(ok:a.Ok)(h0:0<=left)(h1:left<=1048576):M.DU a left=some (if(a.sz:Int)<=left then left-a.sz else -1):=by
 unfold M.DU;have hs:=aO.bI a;have ok1:=(aO.ok_eq a).1 ok
 try simp only[aa.aj,ar.aj,aJ.aj,aA.aj]
 have e0:Go.IntKind.wrap .i64 (left-((a.Name).length:Int))=left-((a.Name).length:Int):=wrap_i64 (by have:=ok1.1;unfold cP at this;omega) (by omega);by_cases c0:(((a.Name).length:Nat):Int)<=left
 ·skip
  have n0:¬(left-(((a.Name).length:Nat):Int)<0):=by omega
  have q:(a.sz:Int)<=left:=by rw[hs]<;>push_cast<;>omega
  have q2:left-(a.sz:Int)=left-(((a.Name).length:Nat):Int):=by rw[hs]<;>push_cast<;>omega
  rw[cz q,q2];simp[e0,n0]
 ·have n0:left-(((a.Name).length:Nat):Int)<0:=by omega
  have q:¬((a.sz:Int)<=left):=by rw[hs]<;>push_cast<;>omega
  rw[aw q];simp[e0,n0]
theorem aBx(a:aO)(h:a.sz<=1048576):M.JR a=some a:=by
 unfold M.JR;have hs:=aO.bI a
 try simp only[aa.aj,ar.aj,aJ.aj,aA.aj]
 try simp[]
theorem aBy(a:aO)(h:a.sz<=1048576):M.Ej a a=some true:=by
 unfold M.Ej;have hs:=aO.bI a
 try simp only[aa.aj,ar.aj,aJ.aj,aA.aj]
 try simp[]
theorem aBz(a:List aO)(left:Int)(ok:eu aO.Ok a)(h0:0<=left)(h1:left<=1048576):M.DV a left=some (if(aK aO.sz a:Int)<=left then left-aK aO.sz a else -1):=by
 have hl:=ok.1;unfold M.DV;rw[wrap_i64 (by omega) (by omega)];refine qg (f:=aO.sz) (F:=M.wu  a) a left h0 h1 (fun g k l h2 h3 hk=>?_) (fun g l=>?_)
 ·have hn:k<2^62:=by omega
  rw[M.wu];have e:=aBw a[k] l (ok.2 _ (bA hk)) h2 (by omega);by_cases d:((aO.sz a[k]:Nat):Int)<=l
  ·have n:¬(l-((aO.sz a[k]:Nat):Int)<0):=by omega
   rw[cz d]at e⊢;simp[hk,getD_lt hk,e,n,bo hk (show a.length<2^62 by omega),aa.aj,ar.aj,aJ.aj,aA.aj]
  ·rw[aw d]at e⊢;simp[hk,getD_lt hk,e,aa.aj,ar.aj,aJ.aj,aA.aj]
 ·rw[M.wu];simp
theorem aBA(a:List aO)(ha:aK aO.sz a<=1048576):M.DZ a=some a:=by
 have hl:=bW aO.sz a;have hn:a.length<=1048576:=by omega
 have hi:(a.length:Int)<=1073741824:=by omega
 have q:∀z,z.length=a.length->M.tD  a Go.V.af 0 z=some a:=nF (F:=M.tD  a) a (by omega) (fun f k out h1 h2 hk=>by
  rw[M.tD];have e:=aBx a[k] (by have:=aC aO.sz a a[k] (bA hk);omega);simp[hk,h2,getD_lt hk,e,bo hk (cu hn),aa.aj,ar.aj,aJ.aj,aA.aj]) (fun f out=>by rw[M.tD];simp)
 unfold M.DZ;rw[q _ (by simp)];simp[hi]
theorem aBB(a:List aO)(ha:aK aO.sz a<=1048576):M.Ek a a=some true:=by
 have hl:=bW aO.sz a;have hn:a.length<=1048576:=by omega
 unfold M.Ek;refine nG (F:=M.wE  a a) a hn (fun f k hk=>?_) (fun f=>?_)
 ·rw[M.wE];have e:=aBy a[k] (by have:=aC aO.sz a a[k] (bA hk);omega);simp[hk,getD_lt hk,e,bo hk (cu hn),aa.aj,ar.aj,aJ.aj,aA.aj]
 ·rw[M.wE];simp
theorem aBC(a:aN)(left:Int)(ok:a.Ok)(h0:0<=left)(h1:left<=1048576):M.CC a left=some (if(a.sz:Int)<=left then left-a.sz else -1):=by
 unfold M.CC;have hs:=aN.bI a;have ok1:=(aN.ok_eq a).1 ok
 try simp only[aa.aj,ar.aj,aJ.aj,aA.aj]
 have e0:=aBz (a.al) (left) ok1.2.1 (by omega) (by omega);by_cases c0:((aK aO.sz (a.al):Nat):Int)<=left
 ·rw[cz c0]at e0;have n0:¬(left-((aK aO.sz (a.al):Nat):Int)<0):=by omega
  have e1:=aBt (a.aB) (left-((aK aO.sz (a.al):Nat):Int)) ok1.2.2.1 (by omega) (by omega);by_cases c1:((aK av.sz (a.aB):Nat):Int)<=left-((aK aO.sz (a.al):Nat):Int)
  ·rw[cz c1]at e1;have n1:¬(left-((aK aO.sz (a.al):Nat):Int)-((aK av.sz (a.aB):Nat):Int)<0):=by omega
   have q:(a.sz:Int)<=left:=by rw[hs]<;>push_cast<;>omega
   have q2:left-(a.sz:Int)=left-((aK aO.sz (a.al):Nat):Int)-((aK av.sz (a.aB):Nat):Int):=by rw[hs]<;>push_cast<;>omega
   rw[cz q,q2];simp[e0,n0,e1,n1]
  ·rw[aw c1]at e1;have q:¬((a.sz:Int)<=left):=by rw[hs]<;>push_cast<;>omega
   rw[aw q];simp[e0,n0,e1]
 ·rw[aw c0]at e0;have q:¬((a.sz:Int)<=left):=by rw[hs]<;>push_cast<;>omega
  rw[aw q];simp[e0]
theorem aBD(a:aN)(h:a.sz<=1048576):M.DJ a=some a:=by
 unfold M.DJ;have hs:=aN.bI a
 try simp only[aa.aj,ar.aj,aJ.aj,aA.aj]
 have e1:=aBA (a.al) (by omega);have e2:=aBu (a.aB) (by omega)
 try simp[e1,e2]
theorem aBE(a:aN)(h:a.sz<=1048576):M.Dk a a=some true:=by
 unfold M.Dk;have hs:=aN.bI a
 try simp only[aa.aj,ar.aj,aJ.aj,aA.aj]
 have e1:=aBB (a.al) (by omega);have e2:=aBv (a.aB) (by omega)
 try simp[e1,e2]
theorem aoV(a:aV)(left:Int)(ok:a.Ok)(h0:0<=left)(h1:left<=1048576):M.CH a left=some (if(a.sz:Int)<=left then left-a.sz else -1):=by
 unfold M.CH;have hs:=aV.bI a;have ok1:=(aV.ok_eq a).1 ok
 try simp only[aa.aj,ar.aj,aJ.aj,aA.aj]
 have e0:Go.IntKind.wrap .i64 (left-((a.Name).length:Int))=left-((a.Name).length:Int):=wrap_i64 (by have:=ok1.1;unfold cP at this;omega) (by omega);by_cases c0:(((a.Name).length:Nat):Int)<=left
 ·skip
  have n0:¬(left-(((a.Name).length:Nat):Int)<0):=by omega
  have e1:Go.IntKind.wrap .i64 (left-(((a.Name).length:Nat):Int)-((a.Version).length:Int))=left-(((a.Name).length:Nat):Int)-((a.Version).length:Int):=wrap_i64 (by have:=ok1.2.1;unfold cP at this;omega) (by omega);by_cases c1:(((a.Version).length:Nat):Int)<=left-(((a.Name).length:Nat):Int)
  ·skip
   have n1:¬(left-(((a.Name).length:Nat):Int)-(((a.Version).length:Nat):Int)<0):=by omega
   have e2:=ajV (a.al) (left-(((a.Name).length:Nat):Int)-(((a.Version).length:Nat):Int)) ok1.2.2.1 (by omega) (by omega);by_cases c2:((aK ax.sz (a.al):Nat):Int)<=left-(((a.Name).length:Nat):Int)-(((a.Version).length:Nat):Int)
   ·rw[cz c2]at e2;have n2:¬(left-(((a.Name).length:Nat):Int)-(((a.Version).length:Nat):Int)-((aK ax.sz (a.al):Nat):Int)<0):=by omega
    have e3:=ajV (a.bR) (left-(((a.Name).length:Nat):Int)-(((a.Version).length:Nat):Int)-((aK ax.sz (a.al):Nat):Int)) ok1.2.2.2.1 (by omega) (by omega);by_cases c3:((aK ax.sz (a.bR):Nat):Int)<=left-(((a.Name).length:Nat):Int)-(((a.Version).length:Nat):Int)-((aK ax.sz (a.al):Nat):Int)
    ·rw[cz c3]at e3;have n3:¬(left-(((a.Name).length:Nat):Int)-(((a.Version).length:Nat):Int)-((aK ax.sz (a.al):Nat):Int)-((aK ax.sz (a.bR):Nat):Int)<0):=by omega
     have e4:=aBC (a.Module) (left-(((a.Name).length:Nat):Int)-(((a.Version).length:Nat):Int)-((aK ax.sz (a.al):Nat):Int)-((aK ax.sz (a.bR):Nat):Int)) ok1.2.2.2.2.2.2.1 (by omega) (by omega);by_cases c4:(((a.Module).sz:Nat):Int)<=left-(((a.Name).length:Nat):Int)-(((a.Version).length:Nat):Int)-((aK ax.sz (a.al):Nat):Int)-((aK ax.sz (a.bR):Nat):Int)
     ·rw[cz c4]at e4;have n4:¬(left-(((a.Name).length:Nat):Int)-(((a.Version).length:Nat):Int)-((aK ax.sz (a.al):Nat):Int)-((aK ax.sz (a.bR):Nat):Int)-(((a.Module).sz:Nat):Int)<0):=by omega
      have e5:=aBb (a.bZ) (left-(((a.Name).length:Nat):Int)-(((a.Version).length:Nat):Int)-((aK ax.sz (a.al):Nat):Int)-((aK ax.sz (a.bR):Nat):Int)-(((a.Module).sz:Nat):Int)) ok1.2.2.2.2.2.2.2.1 (by omega) (by omega);by_cases c5:((aK bF.sz (a.bZ):Nat):Int)<=left-(((a.Name).length:Nat):Int)-(((a.Version).length:Nat):Int)-((aK ax.sz (a.al):Nat):Int)-((aK ax.sz (a.bR):Nat):Int)-(((a.Module).sz:Nat):Int)
      ·rw[cz c5]at e5;have n5:¬(left-(((a.Name).length:Nat):Int)-(((a.Version).length:Nat):Int)-((aK ax.sz (a.al):Nat):Int)-((aK ax.sz (a.bR):Nat):Int)-(((a.Module).sz:Nat):Int)-((aK bF.sz (a.bZ):Nat):Int)<0):=by omega
       have e6:=aBh (a.bP) (left-(((a.Name).length:Nat):Int)-(((a.Version).length:Nat):Int)-((aK ax.sz (a.al):Nat):Int)-((aK ax.sz (a.bR):Nat):Int)-(((a.Module).sz:Nat):Int)-((aK bF.sz (a.bZ):Nat):Int)) ok1.2.2.2.2.2.2.2.2.1 (by omega) (by omega);by_cases c6:((aK bC.sz (a.bP):Nat):Int)<=left-(((a.Name).length:Nat):Int)-(((a.Version).length:Nat):Int)-((aK ax.sz (a.al):Nat):Int)-((aK ax.sz (a.bR):Nat):Int)-(((a.Module).sz:Nat):Int)-((aK bF.sz (a.bZ):Nat):Int)
       ·rw[cz c6]at e6;have n6:¬(left-(((a.Name).length:Nat):Int)-(((a.Version).length:Nat):Int)-((aK ax.sz (a.al):Nat):Int)-((aK ax.sz (a.bR):Nat):Int)-(((a.Module).sz:Nat):Int)-((aK bF.sz (a.bZ):Nat):Int)-((aK bC.sz (a.bP):Nat):Int)<0):=by omega
        have e7:=aAK (a.Builtins) (left-(((a.Name).length:Nat):Int)-(((a.Version).length:Nat):Int)-((aK ax.sz (a.al):Nat):Int)-((aK ax.sz (a.bR):Nat):Int)-(((a.Module).sz:Nat):Int)-((aK bF.sz (a.bZ):Nat):Int)-((aK bC.sz (a.bP):Nat):Int)) ok1.2.2.2.2.2.2.2.2.2.1 (by omega) (by omega);by_cases c7:((aK bu.sz (a.Builtins):Nat):Int)<=left-(((a.Name).length:Nat):Int)-(((a.Version).length:Nat):Int)-((aK ax.sz (a.al):Nat):Int)-((aK ax.sz (a.bR):Nat):Int)-(((a.Module).sz:Nat):Int)-((aK bF.sz (a.bZ):Nat):Int)-((aK bC.sz (a.bP):Nat):Int)
        ·rw[cz c7]at e7;have n7:¬(left-(((a.Name).length:Nat):Int)-(((a.Version).length:Nat):Int)-((aK ax.sz (a.al):Nat):Int)-((aK ax.sz (a.bR):Nat):Int)-(((a.Module).sz:Nat):Int)-((aK bF.sz (a.bZ):Nat):Int)-((aK bC.sz (a.bP):Nat):Int)-((aK bu.sz (a.Builtins):Nat):Int)<0):=by omega
         have q:(a.sz:Int)<=left:=by rw[hs]<;>push_cast<;>omega
         have q2:left-(a.sz:Int)=left-(((a.Name).length:Nat):Int)-(((a.Version).length:Nat):Int)-((aK ax.sz (a.al):Nat):Int)-((aK ax.sz (a.bR):Nat):Int)-(((a.Module).sz:Nat):Int)-((aK bF.sz (a.bZ):Nat):Int)-((aK bC.sz (a.bP):Nat):Int)-((aK bu.sz (a.Builtins):Nat):Int):=by rw[hs]<;>push_cast<;>omega
         rw[cz q,q2];simp[e0,n0,e1,n1,e2,n2,e3,n3,e4,n4,e5,n5,e6,n6,e7,n7]
        ·rw[aw c7]at e7;have q:¬((a.sz:Int)<=left):=by rw[hs]<;>push_cast<;>omega
         rw[aw q];simp[e0,n0,e1,n1,e2,n2,e3,n3,e4,n4,e5,n5,e6,n6,e7]
       ·rw[aw c6]at e6;have q:¬((a.sz:Int)<=left):=by rw[hs]<;>push_cast<;>omega
        rw[aw q];simp[e0,n0,e1,n1,e2,n2,e3,n3,e4,n4,e5,n5,e6]
      ·rw[aw c5]at e5;have q:¬((a.sz:Int)<=left):=by rw[hs]<;>push_cast<;>omega
       rw[aw q];simp[e0,n0,e1,n1,e2,n2,e3,n3,e4,n4,e5]
     ·rw[aw c4]at e4;have q:¬((a.sz:Int)<=left):=by rw[hs]<;>push_cast<;>omega
      rw[aw q];simp[e0,n0,e1,n1,e2,n2,e3,n3,e4]
    ·rw[aw c3]at e3;have q:¬((a.sz:Int)<=left):=by rw[hs]<;>push_cast<;>omega
     rw[aw q];simp[e0,n0,e1,n1,e2,n2,e3]
   ·rw[aw c2]at e2;have q:¬((a.sz:Int)<=left):=by rw[hs]<;>push_cast<;>omega
    rw[aw q];simp[e0,n0,e1,n1,e2]
  ·have n1:left-(((a.Name).length:Nat):Int)-(((a.Version).length:Nat):Int)<0:=by omega
   have q:¬((a.sz:Int)<=left):=by rw[hs]<;>push_cast<;>omega
   rw[aw q];simp[e0,n0,e1,n1]
 ·have n0:left-(((a.Name).length:Nat):Int)<0:=by omega
  have q:¬((a.sz:Int)<=left):=by rw[hs]<;>push_cast<;>omega
  rw[aw q];simp[e0,n0]
theorem aoW(a:aV)(h:a.sz<=1048576):M.DK a=some a:=by
 unfold M.DK;have hs:=aV.bI a
 try simp only[aa.aj,ar.aj,aJ.aj,aA.aj]
 have e2:=ajW (a.al) (by omega);have e3:=ajW (a.bR) (by omega);have e6:=aBD (a.Module) (by omega);have e7:=aBc (a.bZ) (by omega);have e8:=aBi (a.bP) (by omega);have e9:=aAL (a.Builtins) (by omega)
 try simp[e2,e3,e6,e7,e8,e9]
theorem aoX(a:aV)(h:a.sz<=1048576):M.Dl a a=some true:=by
 unfold M.Dl;have hs:=aV.bI a
 try simp only[aa.aj,ar.aj,aJ.aj,aA.aj]
 have e2:=ajX (a.al) (by omega);have e3:=ajX (a.bR) (by omega);have e6:=aBE (a.Module) (by omega);have e7:=aBd (a.bZ) (by omega);have e8:=aBj (a.bP) (by omega);have e9:=aAM (a.Builtins) (by omega)
 try simp[e2,e3,e6,e7,e8,e9]
theorem aHP(a:List aV)(left:Int)(ok:eu aV.Ok a)(h0:0<=left)(h1:left<=1048576):M.aBK a left=some (if(aK aV.sz a:Int)<=left then left-aK aV.sz a else -1):=by
 have hl:=ok.1;unfold M.aBK;rw[wrap_i64 (by omega) (by omega)];refine qg (f:=aV.sz) (F:=M.amI  a) a left h0 h1 (fun g k l h2 h3 hk=>?_) (fun g l=>?_)
 ·have hn:k<2^62:=by omega
  rw[M.amI];have e:=aoV a[k] l (ok.2 _ (bA hk)) h2 (by omega);by_cases d:((aV.sz a[k]:Nat):Int)<=l
  ·have n:¬(l-((aV.sz a[k]:Nat):Int)<0):=by omega
   rw[cz d]at e⊢;simp[hk,getD_lt hk,e,n,bo hk (show a.length<2^62 by omega),aa.aj,ar.aj,aJ.aj,aA.aj]
  ·rw[aw d]at e⊢;simp[hk,getD_lt hk,e,aa.aj,ar.aj,aJ.aj,aA.aj]
 ·rw[M.amI];simp
theorem aHQ(a:List aV)(ha:aK aV.sz a<=1048576):M.aCW a=some a:=by
 have hl:=bW aV.sz a;have hn:a.length<=1048576:=by omega
 have hi:(a.length:Int)<=1073741824:=by omega
 have q:∀z,z.length=a.length->M.amH  a Go.V.af 0 z=some a:=nF (F:=M.amH  a) a (by omega) (fun f k out h1 h2 hk=>by
  rw[M.amH];have e:=aoW a[k] (by have:=aC aV.sz a a[k] (bA hk);omega);simp[hk,h2,getD_lt hk,e,bo hk (cu hn),aa.aj,ar.aj,aJ.aj,aA.aj]) (fun f out=>by rw[M.amH];simp)
 unfold M.aCW;rw[q _ (by simp)];simp[hi]
theorem aHR(a:List aV)(ha:aK aV.sz a<=1048576):M.aCX a a=some true:=by
 have hl:=bW aV.sz a;have hn:a.length<=1048576:=by omega
 unfold M.aCX;refine nG (F:=M.amX  a a) a hn (fun f k hk=>?_) (fun f=>?_)
 ·rw[M.amX];have e:=aoX a[k] (by have:=aC aV.sz a a[k] (bA hk);omega);simp[hk,getD_lt hk,e,bo hk (cu hn),aa.aj,ar.aj,aJ.aj,aA.aj]
 ·rw[M.amX];simp
end M
