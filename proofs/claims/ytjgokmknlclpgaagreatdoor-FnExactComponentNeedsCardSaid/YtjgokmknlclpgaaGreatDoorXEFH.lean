/-
  Part of the proof of the claim.
-/
import Derived.Test.YtjgokmknlclpgaaGreatDoorXEFM
import Derived.Test.YtjgokmknlclpgaaGreatDoorXElaw
import Derived.Test.YtjgokmknlclpgaaGreatDoorXEpl
set_option linter.unusedVariables false
set_option linter.unusedSimpArgs false
namespace M
def iH(s:List UInt8):Prop:=s.length<=9223372036854775807
def YS{α:Type}(p:α->Prop)(l:List α):Prop:=l.length<=9223372036854775807/\∀x∈l,p x
def aN.sz(a:aN):Nat:=(a.dE).length+(a.fQ).length+(a.Import).length
theorem aN.dN(a:aN):a.sz=(a.dE).length+(a.fQ).length+(a.Import).length:=rfl
def aN.Ok(a:aN):Prop:=I64 (a.Kind)/\iH (a.dE)/\iH (a.fQ)/\iH (a.Import)/\True
theorem aN.ok_eq(a:aN):a.Ok↔(I64 (a.Kind)/\iH (a.dE)/\iH (a.fQ)/\iH (a.Import)/\True):=atc
mutual
def ae.sz:ae->Nat
 |.mk v0 v1 v2 v3=>(v1).length+eF List.length (v2)+ae.szs v3
def ae.szs:List ae->Nat
 |[]=>0
 |t::r=>ae.sz t+1+ae.szs r
end
theorem ae.aCl:∀l:List ae,ae.szs l=eF ae.sz l
 |[]=>rfl
 |t::r=>by simp only[ae.szs,eF,ae.aCl r]
theorem ae.dN(a:ae):a.sz=(a.Name).length+eF List.length (a.dP)+eF ae.sz (a.Kids):=by cases a;simp only[ae.sz,ae.aCl];rfl
mutual
def ae.Ok:ae->Prop
 |.mk v0 v1 v2 v3=>I64 (v0)/\iH (v1)/\YS iH (v2)/\(v3.length<=9223372036854775807/\ae.Oks v3)/\True
def ae.Oks:List ae->Prop
 |[]=>True
 |t::r=>ae.Ok t/\ae.Oks r
end
theorem ae.azU:∀l:List ae,ae.Oks l↔∀x∈l,ae.Ok x
 |[]=>by simp[ae.Oks]
 |t::r=>by simp[ae.Oks,ae.azU r]
theorem ae.ok_eq(a:ae):a.Ok↔(I64 (a.Kind)/\iH (a.Name)/\YS iH (a.dP)/\YS ae.Ok (a.Kids)/\True):=by
 cases a;simp only[ae.Ok,ae.azU,YS];exact atc
def ay.sz(a:ay):Nat:=(a.Name).length+(a.aZ).sz
theorem ay.dN(a:ay):a.sz=(a.Name).length+(a.aZ).sz:=rfl
def ay.Ok(a:ay):Prop:=iH (a.Name)/\ae.Ok (a.aZ)/\True
theorem ay.ok_eq(a:ay):a.Ok↔(iH (a.Name)/\ae.Ok (a.aZ)/\True):=atc
def ah.sz(a:ah):Nat:=eF ay.sz (a.Params)+(a.Result).sz
theorem ah.dN(a:ah):a.sz=eF ay.sz (a.Params)+(a.Result).sz:=rfl
def ah.Ok(a:ah):Prop:=YS ay.Ok (a.Params)/\ae.Ok (a.Result)/\True/\True
theorem ah.ok_eq(a:ah):a.Ok↔(YS ay.Ok (a.Params)/\ae.Ok (a.Result)/\True/\True):=atc
def aQ.sz(a:aQ):Nat:=(a.Name).length+(a.aZ).sz
theorem aQ.dN(a:aQ):a.sz=(a.Name).length+(a.aZ).sz:=rfl
def aQ.Ok(a:aQ):Prop:=iH (a.Name)/\ah.Ok (a.aZ)/\True
theorem aQ.ok_eq(a:aQ):a.Ok↔(iH (a.Name)/\ah.Ok (a.aZ)/\True):=atc
def aI.sz(a:aI):Nat:=(a.eQ).length+(a.Name).length+(a.Version).length+eF List.length (a.aT)+eF aQ.sz (a.Funcs)
theorem aI.dN(a:aI):a.sz=(a.eQ).length+(a.Name).length+(a.Version).length+eF List.length (a.aT)+eF aQ.sz (a.Funcs):=rfl
def aI.Ok(a:aI):Prop:=iH (a.eQ)/\iH (a.Name)/\iH (a.Version)/\YS iH (a.aT)/\YS aQ.Ok (a.Funcs)/\True
theorem aI.ok_eq(a:aI):a.Ok↔(iH (a.eQ)/\iH (a.Name)/\iH (a.Version)/\YS iH (a.aT)/\YS aQ.Ok (a.Funcs)/\True):=atc
def dn.sz(a:dn):Nat:=(a.dE).length+(a.Func).length+(a.Core).length
theorem dn.dN(a:dn):a.sz=(a.dE).length+(a.Func).length+(a.Core).length:=rfl
def dn.Ok(a:dn):Prop:=iH (a.dE)/\iH (a.Func)/\iH (a.Core)/\True
theorem dn.ok_eq(a:dn):a.Ok↔(iH (a.dE)/\iH (a.Func)/\iH (a.Core)/\True):=atc
def bF.sz(a:bF):Nat:=(a.dE).length+(a.Func).length+(a.Import).length
theorem bF.dN(a:bF):a.sz=(a.dE).length+(a.Func).length+(a.Import).length:=rfl
def bF.Ok(a:bF):Prop:=iH (a.dE)/\iH (a.Func)/\iH (a.Import)/\True
theorem bF.ok_eq(a:bF):a.Ok↔(iH (a.dE)/\iH (a.Func)/\iH (a.Import)/\True):=atc
def bK.sz(a:bK):Nat:=0
theorem bK.dN(a:bK):a.sz=0:=rfl
def bK.Ok(a:bK):Prop:=I64 (a.Op)/\I64 (a.A)/\True
theorem bK.ok_eq(a:bK):a.Ok↔(I64 (a.Op)/\I64 (a.A)/\True):=atc
def aH.sz(a:aH):Nat:=(a.Name).length+eF bK.sz (a.Code)
theorem aH.dN(a:aH):a.sz=(a.Name).length+eF bK.sz (a.Code):=rfl
def aH.Ok(a:aH):Prop:=iH (a.Name)/\I64 (a.Params)/\I64 (a.gu)/\True/\YS bK.Ok (a.Code)/\True
theorem aH.ok_eq(a:aH):a.Ok↔(iH (a.Name)/\I64 (a.Params)/\I64 (a.gu)/\True/\YS bK.Ok (a.Code)/\True):=atc
def aB.sz(a:aB):Nat:=(a.Name).length
theorem aB.dN(a:aB):a.sz=(a.Name).length:=rfl
def aB.Ok(a:aB):Prop:=iH (a.Name)/\I64 (a.Params)/\True/\True
theorem aB.ok_eq(a:aB):a.Ok↔(iH (a.Name)/\I64 (a.Params)/\True/\True):=atc
def aK.sz(a:aK):Nat:=eF aB.sz (a.aj)+eF aH.sz (a.bz)
theorem aK.dN(a:aK):a.sz=eF aB.sz (a.aj)+eF aH.sz (a.bz):=rfl
def aK.Ok(a:aK):Prop:=I64 (a.jI)/\YS aB.Ok (a.aj)/\YS aH.Ok (a.bz)/\True
theorem aK.ok_eq(a:aK):a.Ok↔(I64 (a.jI)/\YS aB.Ok (a.aj)/\YS aH.Ok (a.bz)/\True):=atc
def aA.sz(a:aA):Nat:=(a.Name).length+(a.Version).length+eF aI.sz (a.aj)+eF aI.sz (a.bT)+(a.Module).sz+eF dn.sz (a.gW)+eF bF.sz (a.dI)+eF aN.sz (a.Builtins)
theorem aA.dN(a:aA):a.sz=(a.Name).length+(a.Version).length+eF aI.sz (a.aj)+eF aI.sz (a.bT)+(a.Module).sz+eF dn.sz (a.gW)+eF bF.sz (a.dI)+eF aN.sz (a.Builtins):=rfl
def aA.Ok(a:aA):Prop:=iH (a.Name)/\iH (a.Version)/\YS aI.Ok (a.aj)/\YS aI.Ok (a.bT)/\I64 (a.Encoding)/\I64 (a.kY)/\aK.Ok (a.Module)/\YS dn.Ok (a.gW)/\YS bF.Ok (a.dI)/\YS aN.Ok (a.Builtins)/\True
theorem aA.ok_eq(a:aA):a.Ok↔(iH (a.Name)/\iH (a.Version)/\YS aI.Ok (a.aj)/\YS aI.Ok (a.bT)/\I64 (a.Encoding)/\I64 (a.kY)/\aK.Ok (a.Module)/\YS dn.Ok (a.gW)/\YS bF.Ok (a.dI)/\YS aN.Ok (a.Builtins)/\True):=atc
theorem aN.xx(a:aN)(h:∀m,Go.V.WE m .Builtin a):a.Ok:=⟨(h 0).1,(h 0).2.1,(h 0).2.2.1,(h 0).2.2.2.1,trivial⟩
mutual
theorem ae.xx:∀(a:ae),(∀m,Go.V.WE m .Type a)->a.Ok
 |.mk v0 v1 v2 v3,h=>by
   simp only[ae.Ok];exact⟨(h 0).1,(h 0).2.1,⟨((h 0).2.2.1).1,fun y hy=>((fun m=>((h (m+1)).2.2.1).2 y hy) 0).1⟩,⟨((h 0).2.2.2.1).1,(ae.aCm _ fun y hy m=>((h (m+1)).2.2.2.1).2 y hy)⟩,trivial⟩
theorem ae.aCm:∀(l:List ae),(∀y∈l,∀m,Go.V.WE m .Type y)->ae.Oks l
 |[],_=>by simp only[ae.Oks]
 |t::r,h=>by
  simp only[ae.Oks];exact⟨ae.xx t (h t (by simp)),ae.aCm r fun y hy=>h y (by simp[hy])⟩
end
theorem ay.xx(a:ay)(h:∀m,Go.V.WE m .Param a):a.Ok:=⟨(h 0).1,(ae.xx (a.aZ) (fun m=>by cases m with|zero=>exact⟨(h 0).2.1,(h 0).2.2.1,(h 0).2.2.2.1,(h 0).2.2.2.2.1,trivial⟩|succ m=>exact⟨(h (m+1)).2.1,(h (m+1)).2.2.1,(h (m+1)).2.2.2.1,(h (m+1)).2.2.2.2.1,trivial⟩)),trivial⟩
theorem ah.xx(a:ah)(h:∀m,Go.V.WE m .lJ a):a.Ok:=⟨⟨((h 0).1).1,fun y hy=>ay.xx y (fun m=>((h (m+1)).1).2 y hy)⟩,(ae.xx (a.Result) (fun m=>by cases m with|zero=>exact⟨(h 0).2.1,(h 0).2.2.1,(h 0).2.2.2.1,(h 0).2.2.2.2.1,trivial⟩|succ m=>exact⟨(h (m+1)).2.1,(h (m+1)).2.2.1,(h (m+1)).2.2.2.1,(h (m+1)).2.2.2.2.1,trivial⟩)),trivial,trivial⟩
theorem aQ.xx(a:aQ)(h:∀m,Go.V.WE m .Func a):a.Ok:=⟨(h 0).1,(ah.xx (a.aZ) (fun m=>by cases m with|zero=>exact⟨(h 0).2.1,(h 0).2.2.1,(h 0).2.2.2.1,(h 0).2.2.2.2.1,(h 0).2.2.2.2.2.1,(h 0).2.2.2.2.2.2.1,trivial⟩|succ m=>exact⟨(h (m+1)).2.1,(h (m+1)).2.2.1,(h (m+1)).2.2.2.1,(h (m+1)).2.2.2.2.1,(h (m+1)).2.2.2.2.2.1,(h (m+1)).2.2.2.2.2.2.1,trivial⟩)),trivial⟩
theorem aI.xx(a:aI)(h:∀m,Go.V.WE m .dE a):a.Ok:=⟨(h 0).1,(h 0).2.1,(h 0).2.2.1,⟨((h 0).2.2.2.1).1,fun y hy=>((fun m=>((h (m+1)).2.2.2.1).2 y hy) 0).1⟩,⟨((h 0).2.2.2.2.1).1,fun y hy=>aQ.xx y (fun m=>((h (m+1)).2.2.2.2.1).2 y hy)⟩,trivial⟩
theorem dn.xx(a:dn)(h:∀m,Go.V.WE m .sW a):a.Ok:=⟨(h 0).1,(h 0).2.1,(h 0).2.2.1,trivial⟩
theorem bF.xx(a:bF)(h:∀m,Go.V.WE m .Lower a):a.Ok:=⟨(h 0).1,(h 0).2.1,(h 0).2.2.1,trivial⟩
theorem bK.xx(a:bK)(h:∀m,Go.V.WE m .Ins a):a.Ok:=⟨(h 0).1,(h 0).2.1,trivial⟩
theorem aH.xx(a:aH)(h:∀m,Go.V.WE m .Core a):a.Ok:=⟨(h 0).1,(h 0).2.1,(h 0).2.2.1,trivial,⟨((h 0).2.2.2.2.1).1,fun y hy=>bK.xx y (fun m=>((h (m+1)).2.2.2.2.1).2 y hy)⟩,trivial⟩
theorem aB.xx(a:aB)(h:∀m,Go.V.WE m .Import a):a.Ok:=⟨(h 0).1,(h 0).2.1,trivial,trivial⟩
theorem aK.xx(a:aK)(h:∀m,Go.V.WE m .Module a):a.Ok:=⟨(h 0).1,⟨((h 0).2.1).1,fun y hy=>aB.xx y (fun m=>((h (m+1)).2.1).2 y hy)⟩,⟨((h 0).2.2.1).1,fun y hy=>aH.xx y (fun m=>((h (m+1)).2.2.1).2 y hy)⟩,trivial⟩
theorem aA.xx(a:aA)(h:∀m,Go.V.WE m .gX a):a.Ok:=⟨(h 0).1,(h 0).2.1,⟨((h 0).2.2.1).1,fun y hy=>aI.xx y (fun m=>((h (m+1)).2.2.1).2 y hy)⟩,⟨((h 0).2.2.2.1).1,fun y hy=>aI.xx y (fun m=>((h (m+1)).2.2.2.1).2 y hy)⟩,(h 0).2.2.2.2.1,(h 0).2.2.2.2.2.1,(aK.xx (a.Module) (fun m=>by cases m with|zero=>exact⟨(h 0).2.2.2.2.2.2.1,(h 0).2.2.2.2.2.2.2.1,(h 0).2.2.2.2.2.2.2.2.1,trivial⟩|succ m=>exact⟨(h (m+1)).2.2.2.2.2.2.1,(h (m+1)).2.2.2.2.2.2.2.1,(h (m+1)).2.2.2.2.2.2.2.2.1,trivial⟩)),⟨((h 0).2.2.2.2.2.2.2.2.2.1).1,fun y hy=>dn.xx y (fun m=>((h (m+1)).2.2.2.2.2.2.2.2.2.1).2 y hy)⟩,⟨((h 0).2.2.2.2.2.2.2.2.2.2.1).1,fun y hy=>bF.xx y (fun m=>((h (m+1)).2.2.2.2.2.2.2.2.2.2.1).2 y hy)⟩,⟨((h 0).2.2.2.2.2.2.2.2.2.2.2.1).1,fun y hy=>aN.xx y (fun m=>((h (m+1)).2.2.2.2.2.2.2.2.2.2.2.1).2 y hy)⟩,trivial⟩
theorem apY(a:List (List UInt8))(left:Int)(ok:YS iH a)(h0:0<=left)(h1:left<=1048576):M.BG a left=some (if(eF List.length a:Int)<=left then left-eF List.length a else -1):=by
 have hl:=ok.1;unfold M.BG;rw[wrap_i64 (by omega) (by omega)];refine SB (f:=List.length) (F:=M.tZ  a) a left h0 h1 (fun g k l h2 h3 hk=>?_) (fun g l=>?_)
 ·have hn:k<2^62:=by omega
  rw[M.tZ];have w:Go.IntKind.wrap .i64 (l-((a[k]).length:Int))=l-(a[k]).length:=wrap_i64 (by have:=ok.2 a[k] (gp hk);unfold iH at this;omega) (by omega);by_cases d:((a[k]).length:Int)<=l
  ·have n:¬(l-((a[k]).length:Int)<0):=by omega
   rw[bI d];simp[hk,getD_lt hk,w,n,dB hk (show a.length<2^62 by omega)]
  ·have n:l-((a[k]).length:Int)<0:=by omega
   rw[bu d];simp[hk,getD_lt hk,w,n]
 ·rw[M.tZ];simp
theorem apZ(a:List (List UInt8))(ha:eF List.length a<=1048576):M.Bq a=some a:=by
 have hl:=dh List.length a;have hn:a.length<=1048576:=by omega
 have hi:(a.length:Int)<=1073741824:=by omega
 have q:∀z,z.length=a.length->M.pR  a Go.V.az 0 z=some a:=yh (F:=M.pR  a) a (by omega) (fun f k out h1 h2 hk=>by
  rw[M.pR];simp[hk,h2,getD_lt hk,dB hk (dO hn)]) (fun f out=>by rw[M.pR];simp)
 unfold M.Bq;rw[q _ (by simp)];simp[hi]
theorem ap0(a:List (List UInt8))(ha:eF List.length a<=1048576):M.pI a a=some true:=by
 have hl:=dh List.length a;have hn:a.length<=1048576:=by omega
 unfold M.pI;refine KY (F:=M.kW  a a) a hn (fun f k hk=>?_) (fun f=>?_)
 ·rw[M.kW];simp[hk,getD_lt hk,dB hk (dO hn)]
 ·rw[M.kW];simp
theorem ayo(a:aN)(left:Int)(ok:a.Ok)(h0:0<=left)(h1:left<=1048576):M.JA a left=some (if(a.sz:Int)<=left then left-a.sz else -1):=by
 unfold M.JA;have hs:=aN.dN a;have ok1:=(aN.ok_eq a).1 ok
 try simp only[ae.aF,ay.aF,ah.aF,aQ.aF]
 have e0:Go.IntKind.wrap .i64 (left-((a.dE).length:Int))=left-((a.dE).length:Int):=wrap_i64 (by have:=ok1.2.1;unfold iH at this;omega) (by omega);by_cases c0:(((a.dE).length:Nat):Int)<=left
 ·skip
  have n0:¬(left-(((a.dE).length:Nat):Int)<0):=by omega
  have e1:Go.IntKind.wrap .i64 (left-(((a.dE).length:Nat):Int)-((a.fQ).length:Int))=left-(((a.dE).length:Nat):Int)-((a.fQ).length:Int):=wrap_i64 (by have:=ok1.2.2.1;unfold iH at this;omega) (by omega);by_cases c1:(((a.fQ).length:Nat):Int)<=left-(((a.dE).length:Nat):Int)
  ·skip
   have n1:¬(left-(((a.dE).length:Nat):Int)-(((a.fQ).length:Nat):Int)<0):=by omega
   have e2:Go.IntKind.wrap .i64 (left-(((a.dE).length:Nat):Int)-(((a.fQ).length:Nat):Int)-((a.Import).length:Int))=left-(((a.dE).length:Nat):Int)-(((a.fQ).length:Nat):Int)-((a.Import).length:Int):=wrap_i64 (by have:=ok1.2.2.2.1;unfold iH at this;omega) (by omega);by_cases c2:(((a.Import).length:Nat):Int)<=left-(((a.dE).length:Nat):Int)-(((a.fQ).length:Nat):Int)
   ·skip
    have n2:¬(left-(((a.dE).length:Nat):Int)-(((a.fQ).length:Nat):Int)-(((a.Import).length:Nat):Int)<0):=by omega
    have q:(a.sz:Int)<=left:=by rw[hs]<;>push_cast<;>omega
    have q2:left-(a.sz:Int)=left-(((a.dE).length:Nat):Int)-(((a.fQ).length:Nat):Int)-(((a.Import).length:Nat):Int):=by rw[hs]<;>push_cast<;>omega
    rw[bI q,q2];simp[e0,n0,e1,n1,e2,n2]
   ·have n2:left-(((a.dE).length:Nat):Int)-(((a.fQ).length:Nat):Int)-(((a.Import).length:Nat):Int)<0:=by omega
    have q:¬((a.sz:Int)<=left):=by rw[hs]<;>push_cast<;>omega
    rw[bu q];simp[e0,n0,e1,n1,e2,n2]
  ·have n1:left-(((a.dE).length:Nat):Int)-(((a.fQ).length:Nat):Int)<0:=by omega
   have q:¬((a.sz:Int)<=left):=by rw[hs]<;>push_cast<;>omega
   rw[bu q];simp[e0,n0,e1,n1]
 ·have n0:left-(((a.dE).length:Nat):Int)<0:=by omega
  have q:¬((a.sz:Int)<=left):=by rw[hs]<;>push_cast<;>omega
  rw[bu q];simp[e0,n0]
theorem ayp(a:aN)(h:a.sz<=1048576):M.Qk a=some a:=by
 unfold M.Qk;have hs:=aN.dN a
 try simp only[ae.aF,ay.aF,ah.aF,aQ.aF]
 try simp[]
theorem ayq(a:aN)(h:a.sz<=1048576):M.JG a a=some true:=by
 unfold M.JG;have hs:=aN.dN a
 try simp only[ae.aF,ay.aF,ah.aF,aQ.aF]
 try simp[]
theorem awH(a:List aN)(left:Int)(ok:YS aN.Ok a)(h0:0<=left)(h1:left<=1048576):M.FM a left=some (if(eF aN.sz a:Int)<=left then left-eF aN.sz a else -1):=by
 have hl:=ok.1;unfold M.FM;rw[wrap_i64 (by omega) (by omega)];refine SB (f:=aN.sz) (F:=M.qF  a) a left h0 h1 (fun g k l h2 h3 hk=>?_) (fun g l=>?_)
 ·have hn:k<2^62:=by omega
  rw[M.qF];have e:=ayo a[k] l (ok.2 _ (gp hk)) h2 (by omega);by_cases d:((aN.sz a[k]:Nat):Int)<=l
  ·have n:¬(l-((aN.sz a[k]:Nat):Int)<0):=by omega
   rw[bI d]at e⊢;simp[hk,getD_lt hk,e,n,dB hk (show a.length<2^62 by omega),ae.aF,ay.aF,ah.aF,aQ.aF]
  ·rw[bu d]at e⊢;simp[hk,getD_lt hk,e,ae.aF,ay.aF,ah.aF,aQ.aF]
 ·rw[M.qF];simp
theorem awI(a:List aN)(ha:eF aN.sz a<=1048576):M.FN a=some a:=by
 have hl:=dh aN.sz a;have hn:a.length<=1048576:=by omega
 have hi:(a.length:Int)<=1073741824:=by omega
 have q:∀z,z.length=a.length->M.nO  a Go.V.az 0 z=some a:=yh (F:=M.nO  a) a (by omega) (fun f k out h1 h2 hk=>by
  rw[M.nO];have e:=ayp a[k] (by have:=eY aN.sz a a[k] (gp hk);omega);simp[hk,h2,getD_lt hk,e,dB hk (dO hn),ae.aF,ay.aF,ah.aF,aQ.aF]) (fun f out=>by rw[M.nO];simp)
 unfold M.FN;rw[q _ (by simp)];simp[hi]
theorem awJ(a:List aN)(ha:eF aN.sz a<=1048576):M.FV a a=some true:=by
 have hl:=dh aN.sz a;have hn:a.length<=1048576:=by omega
 unfold M.FV;refine KY (F:=M.qG  a a) a hn (fun f k hk=>?_) (fun f=>?_)
 ·rw[M.qG];have e:=ayq a[k] (by have:=eY aN.sz a a[k] (gp hk);omega);simp[hk,getD_lt hk,e,dB hk (dO hn),ae.aF,ay.aF,ah.aF,aQ.aF]
 ·rw[M.qG];simp
theorem ayr(r:ae->Int->Option Int)(a:List ae)(left:Int)(ok:YS ae.Ok a)(h0:0<=left)(h1:left<=1048576)(hr:∀x l,x∈a->0<=l->l<left->r x l=some (if(x.sz:Int)<=l then l-x.sz else -1)):M.Vj r a left=some (if(eF ae.sz a:Int)<=left then left-eF ae.sz a else -1):=by
 have hl:=ok.1;unfold M.Vj;rw[wrap_i64 (by omega) (by omega)];refine SB (f:=ae.sz) (F:=M.zo r  a) a left h0 h1 (fun g k l h2 h3 hk=>?_) (fun g l=>?_)
 ·have hn:k<2^62:=by omega
  rw[M.zo];have e:=hr a[k] l (gp hk) h2 (by omega);by_cases d:((ae.sz a[k]:Nat):Int)<=l
  ·have n:¬(l-((ae.sz a[k]:Nat):Int)<0):=by omega
   rw[bI d]at e⊢;simp[hk,getD_lt hk,e,n,dB hk (show a.length<2^62 by omega),ae.aF,ay.aF,ah.aF,aQ.aF]
  ·rw[bu d]at e⊢;simp[hk,getD_lt hk,e,ae.aF,ay.aF,ah.aF,aQ.aF]
 ·rw[M.zo];simp
theorem ays(r:ae->Option (Int×(List UInt8)×(List (List UInt8))×(List ae)))(a:List ae)(ha:a.length<=1048576)(hr:∀x∈a,r x=some (x.Kind,x.Name,x.dP,x.Kids)):M.Uy r a=some a:=by
 have hn:a.length<=1048576:=by omega
 have hi:(a.length:Int)<=1073741824:=by omega
 have q:∀z,z.length=a.length->M.vM r  a Go.V.az 0 z=some a:=yh (F:=M.vM r  a) a (by omega) (fun f k out h1 h2 hk=>by
  rw[M.vM];have e:=hr a[k] (gp hk);simp[hk,h2,getD_lt hk,e,dB hk (dO hn),ae.aF,ay.aF,ah.aF,aQ.aF,ae.eta]) (fun f out=>by rw[M.vM];simp)
 unfold M.Uy;rw[q _ (by simp)];simp[hi]
theorem ayt(r:ae->ae->Option Bool)(a:List ae)(ha:a.length<=1048576)(hr:∀x∈a,r x x=some true):M.Vo r a a=some true:=by
 have hn:a.length<=1048576:=by omega
 unfold M.Vo;refine KY (F:=M.zq r  a a) a hn (fun f k hk=>?_) (fun f=>?_)
 ·rw[M.zq];have e:=hr a[k] (gp hk);simp[hk,getD_lt hk,e,dB hk (dO hn),ae.aF,ay.aF,ah.aF,aQ.aF]
 ·rw[M.zq];simp
theorem atl:∀(n:Nat)(a:ae)(left:Int),a.Ok->0<=left->left<n->left<=1048576->M.Em n a left=some (if(a.sz:Int)<=left then left-a.sz else -1)
 |0,a,left,ok,h0,h2,h1=>by omega
 |n+1,a,left,ok,h0,h2,h1=>by
  show M.Ws (M.Em n) a left=_
  unfold M.Ws;have hs:=ae.dN a;have ok1:=(ae.ok_eq a).1 ok
  try simp only[ae.aF,ay.aF,ah.aF,aQ.aF]
  have e0:Go.IntKind.wrap .i64 (left-((a.Name).length:Int))=left-((a.Name).length:Int):=wrap_i64 (by have:=ok1.2.1;unfold iH at this;omega) (by omega);by_cases c0:(((a.Name).length:Nat):Int)<=left
  ·skip
   have n0:¬(left-(((a.Name).length:Nat):Int)<0):=by omega
   have e1:=apY (a.dP) (left-(((a.Name).length:Nat):Int)) ok1.2.2.1 (by omega) (by omega);by_cases c1:((eF List.length (a.dP):Nat):Int)<=left-(((a.Name).length:Nat):Int)
   ·rw[bI c1]at e1;have n1:¬(left-(((a.Name).length:Nat):Int)-((eF List.length (a.dP):Nat):Int)<0):=by omega
    have e2:=ayr (M.Em n) (a.Kids) (left-(((a.Name).length:Nat):Int)-((eF List.length (a.dP):Nat):Int)) ok1.2.2.2.1 (by omega) (by omega) (fun x l hx q0 q1=>atl n x l ((ok1.2.2.2.1).2 x hx) q0 (by omega) (by omega));by_cases c2:((eF ae.sz (a.Kids):Nat):Int)<=left-(((a.Name).length:Nat):Int)-((eF List.length (a.dP):Nat):Int)
    ·rw[bI c2]at e2;have n2:¬(left-(((a.Name).length:Nat):Int)-((eF List.length (a.dP):Nat):Int)-((eF ae.sz (a.Kids):Nat):Int)<0):=by omega
     have q:(a.sz:Int)<=left:=by rw[hs]<;>push_cast<;>omega
     have q2:left-(a.sz:Int)=left-(((a.Name).length:Nat):Int)-((eF List.length (a.dP):Nat):Int)-((eF ae.sz (a.Kids):Nat):Int):=by rw[hs]<;>push_cast<;>omega
     rw[bI q,q2];simp[e0,n0,e1,n1,e2,n2]
    ·rw[bu c2]at e2;have q:¬((a.sz:Int)<=left):=by rw[hs]<;>push_cast<;>omega
     rw[bu q];simp[e0,n0,e1,n1,e2]
   ·rw[bu c1]at e1;have q:¬((a.sz:Int)<=left):=by rw[hs]<;>push_cast<;>omega
    rw[bu q];simp[e0,n0,e1]
  ·have n0:left-(((a.Name).length:Nat):Int)<0:=by omega
   have q:¬((a.sz:Int)<=left):=by rw[hs]<;>push_cast<;>omega
   rw[bu q];simp[e0,n0]
theorem azV(a:ae)(left:Int)(ok:a.Ok)(h0:0<=left)(h1:left<=1048576):M.Vk a left=some (if(a.sz:Int)<=left then left-a.sz else -1):=
 atl _ a left ok h0 (by have:=Go.V.bU;omega) h1
theorem atm:∀(n:Nat)(a:ae),a.sz<n->a.sz<=1048576->M.Ei n a=some (a.Kind,a.Name,a.dP,a.Kids)
 |0,a,h2,h=>by omega
 |n+1,a,h2,h=>by
  show M.Wi (M.Ei n) a=_
  unfold M.Wi;have hs:=ae.dN a
  try simp only[ae.aF,ay.aF,ah.aF,aQ.aF]
  have e2:=apZ (a.dP) (by omega);have hk3:=dh ae.sz (a.Kids);have e3:=ays (M.Ei n) (a.Kids) (by omega) (fun x hx=>atm n x (by have:=eY ae.sz (a.Kids) x hx;have:=WG ae.sz (a.Kids) x hx;omega) (by have:=eY ae.sz (a.Kids) x hx;omega))
  try simp[e2,e3,ae.eta]
theorem azW(a:ae)(h:a.sz<=1048576):M.Uz a=some (a.Kind,a.Name,a.dP,a.Kids):=
 atm _ a (by have:=Go.V.bU;omega) h
theorem atn:∀(n:Nat)(a:ae),a.sz<n->a.sz<=1048576->M.En n a a=some true
 |0,a,h2,h=>by omega
 |n+1,a,h2,h=>by
  show M.Wu (M.En n) a a=_
  unfold M.Wu;have hs:=ae.dN a
  try simp only[ae.aF,ay.aF,ah.aF,aQ.aF]
  have e2:=ap0 (a.dP) (by omega);have hk3:=dh ae.sz (a.Kids);have e3:=ayt (M.En n) (a.Kids) (by omega) (fun x hx=>atn n x (by have:=eY ae.sz (a.Kids) x hx;have:=WG ae.sz (a.Kids) x hx;omega) (by have:=eY ae.sz (a.Kids) x hx;omega))
  try simp[e2,e3,ae.eta]
theorem azX(a:ae)(h:a.sz<=1048576):M.Tv a a=some true:=
 atn _ a (by have:=Go.V.bU;omega) h
theorem aCn(a:ay)(left:Int)(ok:a.Ok)(h0:0<=left)(h1:left<=1048576):M.Vt a left=some (if(a.sz:Int)<=left then left-a.sz else -1):=by
 unfold M.Vt;have hs:=ay.dN a;have ok1:=(ay.ok_eq a).1 ok
 try simp only[ae.aF,ay.aF,ah.aF,aQ.aF]
 have e0:Go.IntKind.wrap .i64 (left-((a.Name).length:Int))=left-((a.Name).length:Int):=wrap_i64 (by have:=ok1.1;unfold iH at this;omega) (by omega);by_cases c0:(((a.Name).length:Nat):Int)<=left
 ·skip
  have n0:¬(left-(((a.Name).length:Nat):Int)<0):=by omega
  have e1:=azV (a.aZ) (left-(((a.Name).length:Nat):Int)) ok1.2.1 (by omega) (by omega);by_cases c1:(((a.aZ).sz:Nat):Int)<=left-(((a.Name).length:Nat):Int)
  ·rw[bI c1]at e1;have n1:¬(left-(((a.Name).length:Nat):Int)-(((a.aZ).sz:Nat):Int)<0):=by omega
   have q:(a.sz:Int)<=left:=by rw[hs]<;>push_cast<;>omega
   have q2:left-(a.sz:Int)=left-(((a.Name).length:Nat):Int)-(((a.aZ).sz:Nat):Int):=by rw[hs]<;>push_cast<;>omega
   rw[bI q,q2];simp[e0,n0,e1,n1]
  ·rw[bu c1]at e1;have q:¬((a.sz:Int)<=left):=by rw[hs]<;>push_cast<;>omega
   rw[bu q];simp[e0,n0,e1]
 ·have n0:left-(((a.Name).length:Nat):Int)<0:=by omega
  have q:¬((a.sz:Int)<=left):=by rw[hs]<;>push_cast<;>omega
  rw[bu q];simp[e0,n0]
theorem aCo(a:ay)(h:a.sz<=1048576):M.UA a=some (a.Name,a.aZ.Kind,a.aZ.Name,a.aZ.dP,a.aZ.Kids):=by
 unfold M.UA;have hs:=ay.dN a
 try simp only[ae.aF,ay.aF,ah.aF,aQ.aF]
 have e1:=azW (a.aZ) (by omega)
 try simp[e1]
theorem aCp(a:ay)(h:a.sz<=1048576):M.Tz a a=some true:=by
 unfold M.Tz;have hs:=ay.dN a
 try simp only[ae.aF,ay.aF,ah.aF,aQ.aF]
 have e1:=azX (a.aZ) (by omega)
 try simp[e1]
theorem aA1(a:List ay)(left:Int)(ok:YS ay.Ok a)(h0:0<=left)(h1:left<=1048576):M.PG a left=some (if(eF ay.sz a:Int)<=left then left-eF ay.sz a else -1):=by
 have hl:=ok.1;unfold M.PG;rw[wrap_i64 (by omega) (by omega)];refine SB (f:=ay.sz) (F:=M.wU  a) a left h0 h1 (fun g k l h2 h3 hk=>?_) (fun g l=>?_)
 ·have hn:k<2^62:=by omega
  rw[M.wU];have e:=aCn a[k] l (ok.2 _ (gp hk)) h2 (by omega);by_cases d:((ay.sz a[k]:Nat):Int)<=l
  ·have n:¬(l-((ay.sz a[k]:Nat):Int)<0):=by omega
   rw[bI d]at e⊢;simp[hk,getD_lt hk,e,n,dB hk (show a.length<2^62 by omega),ae.aF,ay.aF,ah.aF,aQ.aF]
  ·rw[bu d]at e⊢;simp[hk,getD_lt hk,e,ae.aF,ay.aF,ah.aF,aQ.aF]
 ·rw[M.wU];simp
theorem aA2(a:List ay)(ha:eF ay.sz a<=1048576):M.OO a=some a:=by
 have hl:=dh ay.sz a;have hn:a.length<=1048576:=by omega
 have hi:(a.length:Int)<=1073741824:=by omega
 have q:∀z,z.length=a.length->M.rG  a Go.V.az 0 z=some a:=yh (F:=M.rG  a) a (by omega) (fun f k out h1 h2 hk=>by
  rw[M.rG];have e:=aCo a[k] (by have:=eY ay.sz a a[k] (gp hk);omega);simp[hk,h2,getD_lt hk,e,dB hk (dO hn),ae.aF,ay.aF,ah.aF,aQ.aF,ae.eta]) (fun f out=>by rw[M.rG];simp)
 unfold M.OO;rw[q _ (by simp)];simp[hi]
theorem aA3(a:List ay)(ha:eF ay.sz a<=1048576):M.Og a a=some true:=by
 have hl:=dh ay.sz a;have hn:a.length<=1048576:=by omega
 unfold M.Og;refine KY (F:=M.wJ  a a) a hn (fun f k hk=>?_) (fun f=>?_)
 ·rw[M.wJ];have e:=aCp a[k] (by have:=eY ay.sz a a[k] (gp hk);omega);simp[hk,getD_lt hk,e,dB hk (dO hn),ae.aF,ay.aF,ah.aF,aQ.aF]
 ·rw[M.wJ];simp
theorem awK(a:ah)(left:Int)(ok:a.Ok)(h0:0<=left)(h1:left<=1048576):M.GI a left=some (if(a.sz:Int)<=left then left-a.sz else -1):=by
 unfold M.GI;have hs:=ah.dN a;have ok1:=(ah.ok_eq a).1 ok
 try simp only[ae.aF,ay.aF,ah.aF,aQ.aF]
 have e0:=aA1 (a.Params) (left) ok1.1 (by omega) (by omega);by_cases c0:((eF ay.sz (a.Params):Nat):Int)<=left
 ·rw[bI c0]at e0;have n0:¬(left-((eF ay.sz (a.Params):Nat):Int)<0):=by omega
  have e1:=azV (a.Result) (left-((eF ay.sz (a.Params):Nat):Int)) ok1.2.1 (by omega) (by omega);by_cases c1:(((a.Result).sz:Nat):Int)<=left-((eF ay.sz (a.Params):Nat):Int)
  ·rw[bI c1]at e1;have n1:¬(left-((eF ay.sz (a.Params):Nat):Int)-(((a.Result).sz:Nat):Int)<0):=by omega
   have q:(a.sz:Int)<=left:=by rw[hs]<;>push_cast<;>omega
   have q2:left-(a.sz:Int)=left-((eF ay.sz (a.Params):Nat):Int)-(((a.Result).sz:Nat):Int):=by rw[hs]<;>push_cast<;>omega
   rw[bI q,q2];simp[e0,n0,e1,n1]
  ·rw[bu c1]at e1;have q:¬((a.sz:Int)<=left):=by rw[hs]<;>push_cast<;>omega
   rw[bu q];simp[e0,n0,e1]
 ·rw[bu c0]at e0;have q:¬((a.sz:Int)<=left):=by rw[hs]<;>push_cast<;>omega
  rw[bu q];simp[e0]
theorem awL(a:ah)(h:a.sz<=1048576):M.F5 a=some (a.Result.Kind,a.Result.Name,a.Async,a.Params,a.Result.dP,a.Result.Kids):=by
 unfold M.F5;have hs:=ah.dN a
 try simp only[ae.aF,ay.aF,ah.aF,aQ.aF]
 have e0:=aA2 (a.Params) (by omega);have e1:=azW (a.Result) (by omega)
 try simp[e0,e1]
theorem awM(a:ah)(h:a.sz<=1048576):M.FK a a=some true:=by
 unfold M.FK;have hs:=ah.dN a
 try simp only[ae.aF,ay.aF,ah.aF,aQ.aF]
 have e0:=aA3 (a.Params) (by omega);have e1:=azX (a.Result) (by omega)
 try simp[e0,e1]
theorem aEF(a:aQ)(left:Int)(ok:a.Ok)(h0:0<=left)(h1:left<=1048576):M.abT a left=some (if(a.sz:Int)<=left then left-a.sz else -1):=by
 unfold M.abT;have hs:=aQ.dN a;have ok1:=(aQ.ok_eq a).1 ok
 try simp only[ae.aF,ay.aF,ah.aF,aQ.aF]
 have e0:Go.IntKind.wrap .i64 (left-((a.Name).length:Int))=left-((a.Name).length:Int):=wrap_i64 (by have:=ok1.1;unfold iH at this;omega) (by omega);by_cases c0:(((a.Name).length:Nat):Int)<=left
 ·skip
  have n0:¬(left-(((a.Name).length:Nat):Int)<0):=by omega
  have e1:=awK (a.aZ) (left-(((a.Name).length:Nat):Int)) ok1.2.1 (by omega) (by omega);by_cases c1:(((a.aZ).sz:Nat):Int)<=left-(((a.Name).length:Nat):Int)
  ·rw[bI c1]at e1;have n1:¬(left-(((a.Name).length:Nat):Int)-(((a.aZ).sz:Nat):Int)<0):=by omega
   have q:(a.sz:Int)<=left:=by rw[hs]<;>push_cast<;>omega
   have q2:left-(a.sz:Int)=left-(((a.Name).length:Nat):Int)-(((a.aZ).sz:Nat):Int):=by rw[hs]<;>push_cast<;>omega
   rw[bI q,q2];simp[e0,n0,e1,n1]
  ·rw[bu c1]at e1;have q:¬((a.sz:Int)<=left):=by rw[hs]<;>push_cast<;>omega
   rw[bu q];simp[e0,n0,e1]
 ·have n0:left-(((a.Name).length:Nat):Int)<0:=by omega
  have q:¬((a.sz:Int)<=left):=by rw[hs]<;>push_cast<;>omega
  rw[bu q];simp[e0,n0]
theorem aEG(a:aQ)(h:a.sz<=1048576):M.aaA a=some (a.Name,a.aZ.Result.Kind,a.aZ.Result.Name,a.aZ.Async,a.aZ.Params,a.aZ.Result.dP,a.aZ.Result.Kids):=by
 unfold M.aaA;have hs:=aQ.dN a
 try simp only[ae.aF,ay.aF,ah.aF,aQ.aF]
 have e1:=awL (a.aZ) (by omega)
 try simp[e1]
theorem aEH(a:aQ)(h:a.sz<=1048576):M.Zg a a=some true:=by
 unfold M.Zg;have hs:=aQ.dN a
 try simp only[ae.aF,ay.aF,ah.aF,aQ.aF]
 have e1:=awM (a.aZ) (by omega)
 try simp[e1]
theorem aCq(a:List aQ)(left:Int)(ok:YS aQ.Ok a)(h0:0<=left)(h1:left<=1048576):M.Vw a left=some (if(eF aQ.sz a:Int)<=left then left-eF aQ.sz a else -1):=by
 have hl:=ok.1;unfold M.Vw;rw[wrap_i64 (by omega) (by omega)];refine SB (f:=aQ.sz) (F:=M.zu  a) a left h0 h1 (fun g k l h2 h3 hk=>?_) (fun g l=>?_)
 ·have hn:k<2^62:=by omega
  rw[M.zu];have e:=aEF a[k] l (ok.2 _ (gp hk)) h2 (by omega);by_cases d:((aQ.sz a[k]:Nat):Int)<=l
  ·have n:¬(l-((aQ.sz a[k]:Nat):Int)<0):=by omega
   rw[bI d]at e⊢;simp[hk,getD_lt hk,e,n,dB hk (show a.length<2^62 by omega),ae.aF,ay.aF,ah.aF,aQ.aF]
  ·rw[bu d]at e⊢;simp[hk,getD_lt hk,e,ae.aF,ay.aF,ah.aF,aQ.aF]
 ·rw[M.zu];simp
theorem aCr(a:List aQ)(ha:eF aQ.sz a<=1048576):M.UC a=some a:=by
 have hl:=dh aQ.sz a;have hn:a.length<=1048576:=by omega
 have hi:(a.length:Int)<=1073741824:=by omega
 have q:∀z,z.length=a.length->M.vN  a Go.V.az 0 z=some a:=yh (F:=M.vN  a) a (by omega) (fun f k out h1 h2 hk=>by
  rw[M.vN];have e:=aEG a[k] (by have:=eY aQ.sz a a[k] (gp hk);omega);simp[hk,h2,getD_lt hk,e,dB hk (dO hn),ae.aF,ay.aF,ah.aF,aQ.aF,ae.eta]) (fun f out=>by rw[M.vN];simp)
 unfold M.UC;rw[q _ (by simp)];simp[hi]
theorem aCs(a:List aQ)(ha:eF aQ.sz a<=1048576):M.TB a a=some true:=by
 have hl:=dh aQ.sz a;have hn:a.length<=1048576:=by omega
 unfold M.TB;refine KY (F:=M.y8  a a) a hn (fun f k hk=>?_) (fun f=>?_)
 ·rw[M.y8];have e:=aEH a[k] (by have:=eY aQ.sz a a[k] (gp hk);omega);simp[hk,getD_lt hk,e,dB hk (dO hn),ae.aF,ay.aF,ah.aF,aQ.aF]
 ·rw[M.y8];simp
theorem aEI(a:aI)(left:Int)(ok:a.Ok)(h0:0<=left)(h1:left<=1048576):M.abW a left=some (if(a.sz:Int)<=left then left-a.sz else -1):=by
 unfold M.abW;have hs:=aI.dN a;have ok1:=(aI.ok_eq a).1 ok
 try simp only[ae.aF,ay.aF,ah.aF,aQ.aF]
 have e0:Go.IntKind.wrap .i64 (left-((a.eQ).length:Int))=left-((a.eQ).length:Int):=wrap_i64 (by have:=ok1.1;unfold iH at this;omega) (by omega);by_cases c0:(((a.eQ).length:Nat):Int)<=left
 ·skip
  have n0:¬(left-(((a.eQ).length:Nat):Int)<0):=by omega
  have e1:Go.IntKind.wrap .i64 (left-(((a.eQ).length:Nat):Int)-((a.Name).length:Int))=left-(((a.eQ).length:Nat):Int)-((a.Name).length:Int):=wrap_i64 (by have:=ok1.2.1;unfold iH at this;omega) (by omega);by_cases c1:(((a.Name).length:Nat):Int)<=left-(((a.eQ).length:Nat):Int)
  ·skip
   have n1:¬(left-(((a.eQ).length:Nat):Int)-(((a.Name).length:Nat):Int)<0):=by omega
   have e2:Go.IntKind.wrap .i64 (left-(((a.eQ).length:Nat):Int)-(((a.Name).length:Nat):Int)-((a.Version).length:Int))=left-(((a.eQ).length:Nat):Int)-(((a.Name).length:Nat):Int)-((a.Version).length:Int):=wrap_i64 (by have:=ok1.2.2.1;unfold iH at this;omega) (by omega);by_cases c2:(((a.Version).length:Nat):Int)<=left-(((a.eQ).length:Nat):Int)-(((a.Name).length:Nat):Int)
   ·skip
    have n2:¬(left-(((a.eQ).length:Nat):Int)-(((a.Name).length:Nat):Int)-(((a.Version).length:Nat):Int)<0):=by omega
    have e3:=apY (a.aT) (left-(((a.eQ).length:Nat):Int)-(((a.Name).length:Nat):Int)-(((a.Version).length:Nat):Int)) ok1.2.2.2.1 (by omega) (by omega);by_cases c3:((eF List.length (a.aT):Nat):Int)<=left-(((a.eQ).length:Nat):Int)-(((a.Name).length:Nat):Int)-(((a.Version).length:Nat):Int)
    ·rw[bI c3]at e3;have n3:¬(left-(((a.eQ).length:Nat):Int)-(((a.Name).length:Nat):Int)-(((a.Version).length:Nat):Int)-((eF List.length (a.aT):Nat):Int)<0):=by omega
     have e4:=aCq (a.Funcs) (left-(((a.eQ).length:Nat):Int)-(((a.Name).length:Nat):Int)-(((a.Version).length:Nat):Int)-((eF List.length (a.aT):Nat):Int)) ok1.2.2.2.2.1 (by omega) (by omega);by_cases c4:((eF aQ.sz (a.Funcs):Nat):Int)<=left-(((a.eQ).length:Nat):Int)-(((a.Name).length:Nat):Int)-(((a.Version).length:Nat):Int)-((eF List.length (a.aT):Nat):Int)
     ·rw[bI c4]at e4;have n4:¬(left-(((a.eQ).length:Nat):Int)-(((a.Name).length:Nat):Int)-(((a.Version).length:Nat):Int)-((eF List.length (a.aT):Nat):Int)-((eF aQ.sz (a.Funcs):Nat):Int)<0):=by omega
      have q:(a.sz:Int)<=left:=by rw[hs]<;>push_cast<;>omega
      have q2:left-(a.sz:Int)=left-(((a.eQ).length:Nat):Int)-(((a.Name).length:Nat):Int)-(((a.Version).length:Nat):Int)-((eF List.length (a.aT):Nat):Int)-((eF aQ.sz (a.Funcs):Nat):Int):=by rw[hs]<;>push_cast<;>omega
      rw[bI q,q2];simp[e0,n0,e1,n1,e2,n2,e3,n3,e4,n4]
     ·rw[bu c4]at e4;have q:¬((a.sz:Int)<=left):=by rw[hs]<;>push_cast<;>omega
      rw[bu q];simp[e0,n0,e1,n1,e2,n2,e3,n3,e4]
    ·rw[bu c3]at e3;have q:¬((a.sz:Int)<=left):=by rw[hs]<;>push_cast<;>omega
     rw[bu q];simp[e0,n0,e1,n1,e2,n2,e3]
   ·have n2:left-(((a.eQ).length:Nat):Int)-(((a.Name).length:Nat):Int)-(((a.Version).length:Nat):Int)<0:=by omega
    have q:¬((a.sz:Int)<=left):=by rw[hs]<;>push_cast<;>omega
    rw[bu q];simp[e0,n0,e1,n1,e2,n2]
  ·have n1:left-(((a.eQ).length:Nat):Int)-(((a.Name).length:Nat):Int)<0:=by omega
   have q:¬((a.sz:Int)<=left):=by rw[hs]<;>push_cast<;>omega
   rw[bu q];simp[e0,n0,e1,n1]
 ·have n0:left-(((a.eQ).length:Nat):Int)<0:=by omega
  have q:¬((a.sz:Int)<=left):=by rw[hs]<;>push_cast<;>omega
  rw[bu q];simp[e0,n0]
theorem aEJ(a:aI)(h:a.sz<=1048576):M.aaD a=some (a.eQ,a.Name,a.Version,a.aT,a.Funcs):=by
 unfold M.aaD;have hs:=aI.dN a
 try simp only[ae.aF,ay.aF,ah.aF,aQ.aF]
 have e3:=apZ (a.aT) (by omega);have e4:=aCr (a.Funcs) (by omega)
 try simp[e3,e4]
theorem aEK(a:aI)(h:a.sz<=1048576):M.Zj a a=some true:=by
 unfold M.Zj;have hs:=aI.dN a
 try simp only[ae.aF,ay.aF,ah.aF,aQ.aF]
 have e3:=ap0 (a.aT) (by omega);have e4:=aCs (a.Funcs) (by omega)
 try simp[e3,e4]
theorem awN(a:List aI)(left:Int)(ok:YS aI.Ok a)(h0:0<=left)(h1:left<=1048576):M.NI a left=some (if(eF aI.sz a:Int)<=left then left-eF aI.sz a else -1):=by
 have hl:=ok.1;unfold M.NI;rw[wrap_i64 (by omega) (by omega)];refine SB (f:=aI.sz) (F:=M.zx  a) a left h0 h1 (fun g k l h2 h3 hk=>?_) (fun g l=>?_)
 ·have hn:k<2^62:=by omega
  rw[M.zx];have e:=aEI a[k] l (ok.2 _ (gp hk)) h2 (by omega);by_cases d:((aI.sz a[k]:Nat):Int)<=l
  ·have n:¬(l-((aI.sz a[k]:Nat):Int)<0):=by omega
   rw[bI d]at e⊢;simp[hk,getD_lt hk,e,n,dB hk (show a.length<2^62 by omega),ae.aF,ay.aF,ah.aF,aQ.aF]
  ·rw[bu d]at e⊢;simp[hk,getD_lt hk,e,ae.aF,ay.aF,ah.aF,aQ.aF]
 ·rw[M.zx];simp
theorem awO(a:List aI)(ha:eF aI.sz a<=1048576):M.NK a=some a:=by
 have hl:=dh aI.sz a;have hn:a.length<=1048576:=by omega
 have hi:(a.length:Int)<=1073741824:=by omega
 have q:∀z,z.length=a.length->M.vO  a Go.V.az 0 z=some a:=yh (F:=M.vO  a) a (by omega) (fun f k out h1 h2 hk=>by
  rw[M.vO];have e:=aEJ a[k] (by have:=eY aI.sz a a[k] (gp hk);omega);simp[hk,h2,getD_lt hk,e,dB hk (dO hn),ae.aF,ay.aF,ah.aF,aQ.aF]) (fun f out=>by rw[M.vO];simp)
 unfold M.NK;rw[q _ (by simp)];simp[hi]
theorem awP(a:List aI)(ha:eF aI.sz a<=1048576):M.NH a a=some true:=by
 have hl:=dh aI.sz a;have hn:a.length<=1048576:=by omega
 unfold M.NH;refine KY (F:=M.y9  a a) a hn (fun f k hk=>?_) (fun f=>?_)
 ·rw[M.y9];have e:=aEK a[k] (by have:=eY aI.sz a a[k] (gp hk);omega);simp[hk,getD_lt hk,e,dB hk (dO hn),ae.aF,ay.aF,ah.aF,aQ.aF]
 ·rw[M.y9];simp
theorem aEL(a:dn)(left:Int)(ok:a.Ok)(h0:0<=left)(h1:left<=1048576):M.Zm a left=some (if(a.sz:Int)<=left then left-a.sz else -1):=by
 unfold M.Zm;have hs:=dn.dN a;have ok1:=(dn.ok_eq a).1 ok
 try simp only[ae.aF,ay.aF,ah.aF,aQ.aF]
 have e0:Go.IntKind.wrap .i64 (left-((a.dE).length:Int))=left-((a.dE).length:Int):=wrap_i64 (by have:=ok1.1;unfold iH at this;omega) (by omega);by_cases c0:(((a.dE).length:Nat):Int)<=left
 ·skip
  have n0:¬(left-(((a.dE).length:Nat):Int)<0):=by omega
  have e1:Go.IntKind.wrap .i64 (left-(((a.dE).length:Nat):Int)-((a.Func).length:Int))=left-(((a.dE).length:Nat):Int)-((a.Func).length:Int):=wrap_i64 (by have:=ok1.2.1;unfold iH at this;omega) (by omega);by_cases c1:(((a.Func).length:Nat):Int)<=left-(((a.dE).length:Nat):Int)
  ·skip
   have n1:¬(left-(((a.dE).length:Nat):Int)-(((a.Func).length:Nat):Int)<0):=by omega
   have e2:Go.IntKind.wrap .i64 (left-(((a.dE).length:Nat):Int)-(((a.Func).length:Nat):Int)-((a.Core).length:Int))=left-(((a.dE).length:Nat):Int)-(((a.Func).length:Nat):Int)-((a.Core).length:Int):=wrap_i64 (by have:=ok1.2.2.1;unfold iH at this;omega) (by omega);by_cases c2:(((a.Core).length:Nat):Int)<=left-(((a.dE).length:Nat):Int)-(((a.Func).length:Nat):Int)
   ·skip
    have n2:¬(left-(((a.dE).length:Nat):Int)-(((a.Func).length:Nat):Int)-(((a.Core).length:Nat):Int)<0):=by omega
    have q:(a.sz:Int)<=left:=by rw[hs]<;>push_cast<;>omega
    have q2:left-(a.sz:Int)=left-(((a.dE).length:Nat):Int)-(((a.Func).length:Nat):Int)-(((a.Core).length:Nat):Int):=by rw[hs]<;>push_cast<;>omega
    rw[bI q,q2];simp[e0,n0,e1,n1,e2,n2]
   ·have n2:left-(((a.dE).length:Nat):Int)-(((a.Func).length:Nat):Int)-(((a.Core).length:Nat):Int)<0:=by omega
    have q:¬((a.sz:Int)<=left):=by rw[hs]<;>push_cast<;>omega
    rw[bu q];simp[e0,n0,e1,n1,e2,n2]
  ·have n1:left-(((a.dE).length:Nat):Int)-(((a.Func).length:Nat):Int)<0:=by omega
   have q:¬((a.sz:Int)<=left):=by rw[hs]<;>push_cast<;>omega
   rw[bu q];simp[e0,n0,e1,n1]
 ·have n0:left-(((a.dE).length:Nat):Int)<0:=by omega
  have q:¬((a.sz:Int)<=left):=by rw[hs]<;>push_cast<;>omega
  rw[bu q];simp[e0,n0]
theorem aEM(a:dn)(h:a.sz<=1048576):M.aht a=some a:=by
 unfold M.aht;have hs:=dn.dN a
 try simp only[ae.aF,ay.aF,ah.aF,aQ.aF]
 try simp[]
theorem aEN(a:dn)(h:a.sz<=1048576):M.Z4 a a=some true:=by
 unfold M.Z4;have hs:=dn.dN a
 try simp only[ae.aF,ay.aF,ah.aF,aQ.aF]
 try simp[]
theorem aCt(a:List dn)(left:Int)(ok:YS dn.Ok a)(h0:0<=left)(h1:left<=1048576):M.TC a left=some (if(eF dn.sz a:Int)<=left then left-eF dn.sz a else -1):=by
 have hl:=ok.1;unfold M.TC;rw[wrap_i64 (by omega) (by omega)];refine SB (f:=dn.sz) (F:=M.zf  a) a left h0 h1 (fun g k l h2 h3 hk=>?_) (fun g l=>?_)
 ·have hn:k<2^62:=by omega
  rw[M.zf];have e:=aEL a[k] l (ok.2 _ (gp hk)) h2 (by omega);by_cases d:((dn.sz a[k]:Nat):Int)<=l
  ·have n:¬(l-((dn.sz a[k]:Nat):Int)<0):=by omega
   rw[bI d]at e⊢;simp[hk,getD_lt hk,e,n,dB hk (show a.length<2^62 by omega),ae.aF,ay.aF,ah.aF,aQ.aF]
  ·rw[bu d]at e⊢;simp[hk,getD_lt hk,e,ae.aF,ay.aF,ah.aF,aQ.aF]
 ·rw[M.zf];simp
theorem aCu(a:List dn)(ha:eF dn.sz a<=1048576):M.TG a=some a:=by
 have hl:=dh dn.sz a;have hn:a.length<=1048576:=by omega
 have hi:(a.length:Int)<=1073741824:=by omega
 have q:∀z,z.length=a.length->M.vG  a Go.V.az 0 z=some a:=yh (F:=M.vG  a) a (by omega) (fun f k out h1 h2 hk=>by
  rw[M.vG];have e:=aEM a[k] (by have:=eY dn.sz a a[k] (gp hk);omega);simp[hk,h2,getD_lt hk,e,dB hk (dO hn),ae.aF,ay.aF,ah.aF,aQ.aF]) (fun f out=>by rw[M.vG];simp)
 unfold M.TG;rw[q _ (by simp)];simp[hi]
theorem aCv(a:List dn)(ha:eF dn.sz a<=1048576):M.Ud a a=some true:=by
 have hl:=dh dn.sz a;have hn:a.length<=1048576:=by omega
 unfold M.Ud;refine KY (F:=M.zi  a a) a hn (fun f k hk=>?_) (fun f=>?_)
 ·rw[M.zi];have e:=aEN a[k] (by have:=eY dn.sz a a[k] (gp hk);omega);simp[hk,getD_lt hk,e,dB hk (dO hn),ae.aF,ay.aF,ah.aF,aQ.aF]
 ·rw[M.zi];simp
theorem aCw(a:bF)(left:Int)(ok:a.Ok)(h0:0<=left)(h1:left<=1048576):M.TD a left=some (if(a.sz:Int)<=left then left-a.sz else -1):=by
 unfold M.TD;have hs:=bF.dN a;have ok1:=(bF.ok_eq a).1 ok
 try simp only[ae.aF,ay.aF,ah.aF,aQ.aF]
 have e0:Go.IntKind.wrap .i64 (left-((a.dE).length:Int))=left-((a.dE).length:Int):=wrap_i64 (by have:=ok1.1;unfold iH at this;omega) (by omega);by_cases c0:(((a.dE).length:Nat):Int)<=left
 ·skip
  have n0:¬(left-(((a.dE).length:Nat):Int)<0):=by omega
  have e1:Go.IntKind.wrap .i64 (left-(((a.dE).length:Nat):Int)-((a.Func).length:Int))=left-(((a.dE).length:Nat):Int)-((a.Func).length:Int):=wrap_i64 (by have:=ok1.2.1;unfold iH at this;omega) (by omega);by_cases c1:(((a.Func).length:Nat):Int)<=left-(((a.dE).length:Nat):Int)
  ·skip
   have n1:¬(left-(((a.dE).length:Nat):Int)-(((a.Func).length:Nat):Int)<0):=by omega
   have e2:Go.IntKind.wrap .i64 (left-(((a.dE).length:Nat):Int)-(((a.Func).length:Nat):Int)-((a.Import).length:Int))=left-(((a.dE).length:Nat):Int)-(((a.Func).length:Nat):Int)-((a.Import).length:Int):=wrap_i64 (by have:=ok1.2.2.1;unfold iH at this;omega) (by omega);by_cases c2:(((a.Import).length:Nat):Int)<=left-(((a.dE).length:Nat):Int)-(((a.Func).length:Nat):Int)
   ·skip
    have n2:¬(left-(((a.dE).length:Nat):Int)-(((a.Func).length:Nat):Int)-(((a.Import).length:Nat):Int)<0):=by omega
    have q:(a.sz:Int)<=left:=by rw[hs]<;>push_cast<;>omega
    have q2:left-(a.sz:Int)=left-(((a.dE).length:Nat):Int)-(((a.Func).length:Nat):Int)-(((a.Import).length:Nat):Int):=by rw[hs]<;>push_cast<;>omega
    rw[bI q,q2];simp[e0,n0,e1,n1,e2,n2]
   ·have n2:left-(((a.dE).length:Nat):Int)-(((a.Func).length:Nat):Int)-(((a.Import).length:Nat):Int)<0:=by omega
    have q:¬((a.sz:Int)<=left):=by rw[hs]<;>push_cast<;>omega
    rw[bu q];simp[e0,n0,e1,n1,e2,n2]
  ·have n1:left-(((a.dE).length:Nat):Int)-(((a.Func).length:Nat):Int)<0:=by omega
   have q:¬((a.sz:Int)<=left):=by rw[hs]<;>push_cast<;>omega
   rw[bu q];simp[e0,n0,e1,n1]
 ·have n0:left-(((a.dE).length:Nat):Int)<0:=by omega
  have q:¬((a.sz:Int)<=left):=by rw[hs]<;>push_cast<;>omega
  rw[bu q];simp[e0,n0]
theorem aCx(a:bF)(h:a.sz<=1048576):M.acR a=some a:=by
 unfold M.acR;have hs:=bF.dN a
 try simp only[ae.aF,ay.aF,ah.aF,aQ.aF]
 try simp[]
theorem aCy(a:bF)(h:a.sz<=1048576):M.Ue a a=some true:=by
 unfold M.Ue;have hs:=bF.dN a
 try simp only[ae.aF,ay.aF,ah.aF,aQ.aF]
 try simp[]
theorem aA4(a:List bF)(left:Int)(ok:YS bF.Ok a)(h0:0<=left)(h1:left<=1048576):M.Oi a left=some (if(eF bF.sz a:Int)<=left then left-eF bF.sz a else -1):=by
 have hl:=ok.1;unfold M.Oi;rw[wrap_i64 (by omega) (by omega)];refine SB (f:=bF.sz) (F:=M.wK  a) a left h0 h1 (fun g k l h2 h3 hk=>?_) (fun g l=>?_)
 ·have hn:k<2^62:=by omega
  rw[M.wK];have e:=aCw a[k] l (ok.2 _ (gp hk)) h2 (by omega);by_cases d:((bF.sz a[k]:Nat):Int)<=l
  ·have n:¬(l-((bF.sz a[k]:Nat):Int)<0):=by omega
   rw[bI d]at e⊢;simp[hk,getD_lt hk,e,n,dB hk (show a.length<2^62 by omega),ae.aF,ay.aF,ah.aF,aQ.aF]
  ·rw[bu d]at e⊢;simp[hk,getD_lt hk,e,ae.aF,ay.aF,ah.aF,aQ.aF]
 ·rw[M.wK];simp
theorem aA5(a:List bF)(ha:eF bF.sz a<=1048576):M.Ol a=some a:=by
 have hl:=dh bF.sz a;have hn:a.length<=1048576:=by omega
 have hi:(a.length:Int)<=1073741824:=by omega
 have q:∀z,z.length=a.length->M.ry  a Go.V.az 0 z=some a:=yh (F:=M.ry  a) a (by omega) (fun f k out h1 h2 hk=>by
  rw[M.ry];have e:=aCx a[k] (by have:=eY bF.sz a a[k] (gp hk);omega);simp[hk,h2,getD_lt hk,e,dB hk (dO hn),ae.aF,ay.aF,ah.aF,aQ.aF]) (fun f out=>by rw[M.ry];simp)
 unfold M.Ol;rw[q _ (by simp)];simp[hi]
theorem aA6(a:List bF)(ha:eF bF.sz a<=1048576):M.OB a a=some true:=by
 have hl:=dh bF.sz a;have hn:a.length<=1048576:=by omega
 unfold M.OB;refine KY (F:=M.wO  a a) a hn (fun f k hk=>?_) (fun f=>?_)
 ·rw[M.wO];have e:=aCy a[k] (by have:=eY bF.sz a a[k] (gp hk);omega);simp[hk,getD_lt hk,e,dB hk (dO hn),ae.aF,ay.aF,ah.aF,aQ.aF]
 ·rw[M.wO];simp
theorem aHM(a:bK)(h:a.sz<=1048576):M.aor a=some a:=by
 unfold M.aor;have hs:=bK.dN a
 try simp only[ae.aF,ay.aF,ah.aF,aQ.aF]
 try simp[]
theorem aHN(a:bK)(h:a.sz<=1048576):M.aix a a=some true:=by
 unfold M.aix;have hs:=bK.dN a
 try simp only[ae.aF,ay.aF,ah.aF,aQ.aF]
 try simp[]
theorem aEO(a:List bK)(left:Int)(ok:YS bK.Ok a)(h0:0<=left)(h1:left<=1048576):M.aaZ a left=some (if(eF bK.sz a:Int)<=left then left-eF bK.sz a else -1):=by
 have hl:=ok.1;unfold M.aaZ;rw[wrap_i64 (by omega) (by omega)];exact aEP (f:=bK.sz) (fun _=>rfl) a left h0
theorem aEQ(a:List bK)(ha:eF bK.sz a<=1048576):M.aa4 a=some a:=by
 have hl:=dh bK.sz a;have hn:a.length<=1048576:=by omega
 have hi:(a.length:Int)<=1073741824:=by omega
 have q:∀z,z.length=a.length->M.yK  a Go.V.az 0 z=some a:=yh (F:=M.yK  a) a (by omega) (fun f k out h1 h2 hk=>by
  rw[M.yK];have e:=aHM a[k] (by have:=eY bK.sz a a[k] (gp hk);omega);simp[hk,h2,getD_lt hk,e,dB hk (dO hn),ae.aF,ay.aF,ah.aF,aQ.aF]) (fun f out=>by rw[M.yK];simp)
 unfold M.aa4;rw[q _ (by simp)];simp[hi]
theorem aER(a:List bK)(ha:eF bK.sz a<=1048576):M.abu a a=some true:=by
 have hl:=dh bK.sz a;have hn:a.length<=1048576:=by omega
 unfold M.abu;refine KY (F:=M.BF  a a) a hn (fun f k hk=>?_) (fun f=>?_)
 ·rw[M.BF];have e:=aHN a[k] (by have:=eY bK.sz a a[k] (gp hk);omega);simp[hk,getD_lt hk,e,dB hk (dO hn),ae.aF,ay.aF,ah.aF,aQ.aF]
 ·rw[M.BF];simp
theorem aES(a:aH)(left:Int)(ok:a.Ok)(h0:0<=left)(h1:left<=1048576):M.aa0 a left=some (if(a.sz:Int)<=left then left-a.sz else -1):=by
 unfold M.aa0;have hs:=aH.dN a;have ok1:=(aH.ok_eq a).1 ok
 try simp only[ae.aF,ay.aF,ah.aF,aQ.aF]
 have e0:Go.IntKind.wrap .i64 (left-((a.Name).length:Int))=left-((a.Name).length:Int):=wrap_i64 (by have:=ok1.1;unfold iH at this;omega) (by omega);by_cases c0:(((a.Name).length:Nat):Int)<=left
 ·skip
  have n0:¬(left-(((a.Name).length:Nat):Int)<0):=by omega
  have e1:=aEO (a.Code) (left-(((a.Name).length:Nat):Int)) ok1.2.2.2.2.1 (by omega) (by omega);by_cases c1:((eF bK.sz (a.Code):Nat):Int)<=left-(((a.Name).length:Nat):Int)
  ·rw[bI c1]at e1;have n1:¬(left-(((a.Name).length:Nat):Int)-((eF bK.sz (a.Code):Nat):Int)<0):=by omega
   have q:(a.sz:Int)<=left:=by rw[hs]<;>push_cast<;>omega
   have q2:left-(a.sz:Int)=left-(((a.Name).length:Nat):Int)-((eF bK.sz (a.Code):Nat):Int):=by rw[hs]<;>push_cast<;>omega
   rw[bI q,q2];simp[e0,n0,e1,n1]
  ·rw[bu c1]at e1;have q:¬((a.sz:Int)<=left):=by rw[hs]<;>push_cast<;>omega
   rw[bu q];simp[e0,n0,e1]
 ·have n0:left-(((a.Name).length:Nat):Int)<0:=by omega
  have q:¬((a.sz:Int)<=left):=by rw[hs]<;>push_cast<;>omega
  rw[bu q];simp[e0,n0]
theorem aET(a:aH)(h:a.sz<=1048576):M.aa5 a=some (a.Name,a.Params,a.gu,a.Result,a.Code):=by
 unfold M.aa5;have hs:=aH.dN a
 try simp only[ae.aF,ay.aF,ah.aF,aQ.aF]
 have e4:=aEQ (a.Code) (by omega)
 try simp[e4]
theorem aEU(a:aH)(h:a.sz<=1048576):M.abv a a=some true:=by
 unfold M.abv;have hs:=aH.dN a
 try simp only[ae.aF,ay.aF,ah.aF,aQ.aF]
 have e4:=aER (a.Code) (by omega)
 try simp[e4]
theorem aCz(a:List aH)(left:Int)(ok:YS aH.Ok a)(h0:0<=left)(h1:left<=1048576):M.UZ a left=some (if(eF aH.sz a:Int)<=left then left-eF aH.sz a else -1):=by
 have hl:=ok.1;unfold M.UZ;rw[wrap_i64 (by omega) (by omega)];refine SB (f:=aH.sz) (F:=M.zk  a) a left h0 h1 (fun g k l h2 h3 hk=>?_) (fun g l=>?_)
 ·have hn:k<2^62:=by omega
  rw[M.zk];have e:=aES a[k] l (ok.2 _ (gp hk)) h2 (by omega);by_cases d:((aH.sz a[k]:Nat):Int)<=l
  ·have n:¬(l-((aH.sz a[k]:Nat):Int)<0):=by omega
   rw[bI d]at e⊢;simp[hk,getD_lt hk,e,n,dB hk (show a.length<2^62 by omega),ae.aF,ay.aF,ah.aF,aQ.aF]
  ·rw[bu d]at e⊢;simp[hk,getD_lt hk,e,ae.aF,ay.aF,ah.aF,aQ.aF]
 ·rw[M.zk];simp
theorem aCA(a:List aH)(ha:eF aH.sz a<=1048576):M.U2 a=some a:=by
 have hl:=dh aH.sz a;have hn:a.length<=1048576:=by omega
 have hi:(a.length:Int)<=1073741824:=by omega
 have q:∀z,z.length=a.length->M.vS  a Go.V.az 0 z=some a:=yh (F:=M.vS  a) a (by omega) (fun f k out h1 h2 hk=>by
  rw[M.vS];have e:=aET a[k] (by have:=eY aH.sz a a[k] (gp hk);omega);simp[hk,h2,getD_lt hk,e,dB hk (dO hn),ae.aF,ay.aF,ah.aF,aQ.aF]) (fun f out=>by rw[M.vS];simp)
 unfold M.U2;rw[q _ (by simp)];simp[hi]
theorem aCB(a:List aH)(ha:eF aH.sz a<=1048576):M.Vf a a=some true:=by
 have hl:=dh aH.sz a;have hn:a.length<=1048576:=by omega
 unfold M.Vf;refine KY (F:=M.zn  a a) a hn (fun f k hk=>?_) (fun f=>?_)
 ·rw[M.zn];have e:=aEU a[k] (by have:=eY aH.sz a a[k] (gp hk);omega);simp[hk,getD_lt hk,e,dB hk (dO hn),ae.aF,ay.aF,ah.aF,aQ.aF]
 ·rw[M.zn];simp
theorem aA7(a:aB)(left:Int)(ok:a.Ok)(h0:0<=left)(h1:left<=1048576):M.O5 a left=some (if(a.sz:Int)<=left then left-a.sz else -1):=by
 unfold M.O5;have hs:=aB.dN a;have ok1:=(aB.ok_eq a).1 ok
 try simp only[ae.aF,ay.aF,ah.aF,aQ.aF]
 have e0:Go.IntKind.wrap .i64 (left-((a.Name).length:Int))=left-((a.Name).length:Int):=wrap_i64 (by have:=ok1.1;unfold iH at this;omega) (by omega);by_cases c0:(((a.Name).length:Nat):Int)<=left
 ·skip
  have n0:¬(left-(((a.Name).length:Nat):Int)<0):=by omega
  have q:(a.sz:Int)<=left:=by rw[hs]<;>push_cast<;>omega
  have q2:left-(a.sz:Int)=left-(((a.Name).length:Nat):Int):=by rw[hs]<;>push_cast<;>omega
  rw[bI q,q2];simp[e0,n0]
 ·have n0:left-(((a.Name).length:Nat):Int)<0:=by omega
  have q:¬((a.sz:Int)<=left):=by rw[hs]<;>push_cast<;>omega
  rw[bu q];simp[e0,n0]
theorem aA8(a:aB)(h:a.sz<=1048576):M.Wl a=some a:=by
 unfold M.Wl;have hs:=aB.dN a
 try simp only[ae.aF,ay.aF,ah.aF,aQ.aF]
 try simp[]
theorem aA9(a:aB)(h:a.sz<=1048576):M.Py a a=some true:=by
 unfold M.Py;have hs:=aB.dN a
 try simp only[ae.aF,ay.aF,ah.aF,aQ.aF]
 try simp[]
theorem ayu(a:List aB)(left:Int)(ok:YS aB.Ok a)(h0:0<=left)(h1:left<=1048576):M.JR a left=some (if(eF aB.sz a:Int)<=left then left-eF aB.sz a else -1):=by
 have hl:=ok.1;unfold M.JR;rw[wrap_i64 (by omega) (by omega)];refine SB (f:=aB.sz) (F:=M.tN  a) a left h0 h1 (fun g k l h2 h3 hk=>?_) (fun g l=>?_)
 ·have hn:k<2^62:=by omega
  rw[M.tN];have e:=aA7 a[k] l (ok.2 _ (gp hk)) h2 (by omega);by_cases d:((aB.sz a[k]:Nat):Int)<=l
  ·have n:¬(l-((aB.sz a[k]:Nat):Int)<0):=by omega
   rw[bI d]at e⊢;simp[hk,getD_lt hk,e,n,dB hk (show a.length<2^62 by omega),ae.aF,ay.aF,ah.aF,aQ.aF]
  ·rw[bu d]at e⊢;simp[hk,getD_lt hk,e,ae.aF,ay.aF,ah.aF,aQ.aF]
 ·rw[M.tN];simp
theorem ayv(a:List aB)(ha:eF aB.sz a<=1048576):M.JS a=some a:=by
 have hl:=dh aB.sz a;have hn:a.length<=1048576:=by omega
 have hi:(a.length:Int)<=1073741824:=by omega
 have q:∀z,z.length=a.length->M.pU  a Go.V.az 0 z=some a:=yh (F:=M.pU  a) a (by omega) (fun f k out h1 h2 hk=>by
  rw[M.pU];have e:=aA8 a[k] (by have:=eY aB.sz a a[k] (gp hk);omega);simp[hk,h2,getD_lt hk,e,dB hk (dO hn),ae.aF,ay.aF,ah.aF,aQ.aF]) (fun f out=>by rw[M.pU];simp)
 unfold M.JS;rw[q _ (by simp)];simp[hi]
theorem ayw(a:List aB)(ha:eF aB.sz a<=1048576):M.JZ a a=some true:=by
 have hl:=dh aB.sz a;have hn:a.length<=1048576:=by omega
 unfold M.JZ;refine KY (F:=M.tY  a a) a hn (fun f k hk=>?_) (fun f=>?_)
 ·rw[M.tY];have e:=aA9 a[k] (by have:=eY aB.sz a a[k] (gp hk);omega);simp[hk,getD_lt hk,e,dB hk (dO hn),ae.aF,ay.aF,ah.aF,aQ.aF]
 ·rw[M.tY];simp
theorem aBa(a:aK)(left:Int)(ok:a.Ok)(h0:0<=left)(h1:left<=1048576):M.Oj a left=some (if(a.sz:Int)<=left then left-a.sz else -1):=by
 unfold M.Oj;have hs:=aK.dN a;have ok1:=(aK.ok_eq a).1 ok
 try simp only[ae.aF,ay.aF,ah.aF,aQ.aF]
 have e0:=ayu (a.aj) (left) ok1.2.1 (by omega) (by omega);by_cases c0:((eF aB.sz (a.aj):Nat):Int)<=left
 ·rw[bI c0]at e0;have n0:¬(left-((eF aB.sz (a.aj):Nat):Int)<0):=by omega
  have e1:=aCz (a.bz) (left-((eF aB.sz (a.aj):Nat):Int)) ok1.2.2.1 (by omega) (by omega);by_cases c1:((eF aH.sz (a.bz):Nat):Int)<=left-((eF aB.sz (a.aj):Nat):Int)
  ·rw[bI c1]at e1;have n1:¬(left-((eF aB.sz (a.aj):Nat):Int)-((eF aH.sz (a.bz):Nat):Int)<0):=by omega
   have q:(a.sz:Int)<=left:=by rw[hs]<;>push_cast<;>omega
   have q2:left-(a.sz:Int)=left-((eF aB.sz (a.aj):Nat):Int)-((eF aH.sz (a.bz):Nat):Int):=by rw[hs]<;>push_cast<;>omega
   rw[bI q,q2];simp[e0,n0,e1,n1]
  ·rw[bu c1]at e1;have q:¬((a.sz:Int)<=left):=by rw[hs]<;>push_cast<;>omega
   rw[bu q];simp[e0,n0,e1]
 ·rw[bu c0]at e0;have q:¬((a.sz:Int)<=left):=by rw[hs]<;>push_cast<;>omega
  rw[bu q];simp[e0]
theorem aBb(a:aK)(h:a.sz<=1048576):M.OQ a=some (a.jI,a.aj,a.bz):=by
 unfold M.OQ;have hs:=aK.dN a
 try simp only[ae.aF,ay.aF,ah.aF,aQ.aF]
 have e1:=ayv (a.aj) (by omega);have e2:=aCA (a.bz) (by omega)
 try simp[e1,e2]
theorem aBc(a:aK)(h:a.sz<=1048576):M.OC a a=some true:=by
 unfold M.OC;have hs:=aK.dN a
 try simp only[ae.aF,ay.aF,ah.aF,aQ.aF]
 have e1:=ayw (a.aj) (by omega);have e2:=aCB (a.bz) (by omega)
 try simp[e1,e2]
theorem au8(a:aA)(left:Int)(ok:a.Ok)(h0:0<=left)(h1:left<=1048576):M.Dj a left=some (if(a.sz:Int)<=left then left-a.sz else -1):=by
 unfold M.Dj;have hs:=aA.dN a;have ok1:=(aA.ok_eq a).1 ok
 try simp only[ae.aF,ay.aF,ah.aF,aQ.aF]
 have e0:Go.IntKind.wrap .i64 (left-((a.Name).length:Int))=left-((a.Name).length:Int):=wrap_i64 (by have:=ok1.1;unfold iH at this;omega) (by omega);by_cases c0:(((a.Name).length:Nat):Int)<=left
 ·skip
  have n0:¬(left-(((a.Name).length:Nat):Int)<0):=by omega
  have e1:Go.IntKind.wrap .i64 (left-(((a.Name).length:Nat):Int)-((a.Version).length:Int))=left-(((a.Name).length:Nat):Int)-((a.Version).length:Int):=wrap_i64 (by have:=ok1.2.1;unfold iH at this;omega) (by omega);by_cases c1:(((a.Version).length:Nat):Int)<=left-(((a.Name).length:Nat):Int)
  ·skip
   have n1:¬(left-(((a.Name).length:Nat):Int)-(((a.Version).length:Nat):Int)<0):=by omega
   have e2:=awN (a.aj) (left-(((a.Name).length:Nat):Int)-(((a.Version).length:Nat):Int)) ok1.2.2.1 (by omega) (by omega);by_cases c2:((eF aI.sz (a.aj):Nat):Int)<=left-(((a.Name).length:Nat):Int)-(((a.Version).length:Nat):Int)
   ·rw[bI c2]at e2;have n2:¬(left-(((a.Name).length:Nat):Int)-(((a.Version).length:Nat):Int)-((eF aI.sz (a.aj):Nat):Int)<0):=by omega
    have e3:=awN (a.bT) (left-(((a.Name).length:Nat):Int)-(((a.Version).length:Nat):Int)-((eF aI.sz (a.aj):Nat):Int)) ok1.2.2.2.1 (by omega) (by omega);by_cases c3:((eF aI.sz (a.bT):Nat):Int)<=left-(((a.Name).length:Nat):Int)-(((a.Version).length:Nat):Int)-((eF aI.sz (a.aj):Nat):Int)
    ·rw[bI c3]at e3;have n3:¬(left-(((a.Name).length:Nat):Int)-(((a.Version).length:Nat):Int)-((eF aI.sz (a.aj):Nat):Int)-((eF aI.sz (a.bT):Nat):Int)<0):=by omega
     have e4:=aBa (a.Module) (left-(((a.Name).length:Nat):Int)-(((a.Version).length:Nat):Int)-((eF aI.sz (a.aj):Nat):Int)-((eF aI.sz (a.bT):Nat):Int)) ok1.2.2.2.2.2.2.1 (by omega) (by omega);by_cases c4:(((a.Module).sz:Nat):Int)<=left-(((a.Name).length:Nat):Int)-(((a.Version).length:Nat):Int)-((eF aI.sz (a.aj):Nat):Int)-((eF aI.sz (a.bT):Nat):Int)
     ·rw[bI c4]at e4;have n4:¬(left-(((a.Name).length:Nat):Int)-(((a.Version).length:Nat):Int)-((eF aI.sz (a.aj):Nat):Int)-((eF aI.sz (a.bT):Nat):Int)-(((a.Module).sz:Nat):Int)<0):=by omega
      have e5:=aCt (a.gW) (left-(((a.Name).length:Nat):Int)-(((a.Version).length:Nat):Int)-((eF aI.sz (a.aj):Nat):Int)-((eF aI.sz (a.bT):Nat):Int)-(((a.Module).sz:Nat):Int)) ok1.2.2.2.2.2.2.2.1 (by omega) (by omega);by_cases c5:((eF dn.sz (a.gW):Nat):Int)<=left-(((a.Name).length:Nat):Int)-(((a.Version).length:Nat):Int)-((eF aI.sz (a.aj):Nat):Int)-((eF aI.sz (a.bT):Nat):Int)-(((a.Module).sz:Nat):Int)
      ·rw[bI c5]at e5;have n5:¬(left-(((a.Name).length:Nat):Int)-(((a.Version).length:Nat):Int)-((eF aI.sz (a.aj):Nat):Int)-((eF aI.sz (a.bT):Nat):Int)-(((a.Module).sz:Nat):Int)-((eF dn.sz (a.gW):Nat):Int)<0):=by omega
       have e6:=aA4 (a.dI) (left-(((a.Name).length:Nat):Int)-(((a.Version).length:Nat):Int)-((eF aI.sz (a.aj):Nat):Int)-((eF aI.sz (a.bT):Nat):Int)-(((a.Module).sz:Nat):Int)-((eF dn.sz (a.gW):Nat):Int)) ok1.2.2.2.2.2.2.2.2.1 (by omega) (by omega);by_cases c6:((eF bF.sz (a.dI):Nat):Int)<=left-(((a.Name).length:Nat):Int)-(((a.Version).length:Nat):Int)-((eF aI.sz (a.aj):Nat):Int)-((eF aI.sz (a.bT):Nat):Int)-(((a.Module).sz:Nat):Int)-((eF dn.sz (a.gW):Nat):Int)
       ·rw[bI c6]at e6;have n6:¬(left-(((a.Name).length:Nat):Int)-(((a.Version).length:Nat):Int)-((eF aI.sz (a.aj):Nat):Int)-((eF aI.sz (a.bT):Nat):Int)-(((a.Module).sz:Nat):Int)-((eF dn.sz (a.gW):Nat):Int)-((eF bF.sz (a.dI):Nat):Int)<0):=by omega
        have e7:=awH (a.Builtins) (left-(((a.Name).length:Nat):Int)-(((a.Version).length:Nat):Int)-((eF aI.sz (a.aj):Nat):Int)-((eF aI.sz (a.bT):Nat):Int)-(((a.Module).sz:Nat):Int)-((eF dn.sz (a.gW):Nat):Int)-((eF bF.sz (a.dI):Nat):Int)) ok1.2.2.2.2.2.2.2.2.2.1 (by omega) (by omega);by_cases c7:((eF aN.sz (a.Builtins):Nat):Int)<=left-(((a.Name).length:Nat):Int)-(((a.Version).length:Nat):Int)-((eF aI.sz (a.aj):Nat):Int)-((eF aI.sz (a.bT):Nat):Int)-(((a.Module).sz:Nat):Int)-((eF dn.sz (a.gW):Nat):Int)-((eF bF.sz (a.dI):Nat):Int)
        ·rw[bI c7]at e7;have n7:¬(left-(((a.Name).length:Nat):Int)-(((a.Version).length:Nat):Int)-((eF aI.sz (a.aj):Nat):Int)-((eF aI.sz (a.bT):Nat):Int)-(((a.Module).sz:Nat):Int)-((eF dn.sz (a.gW):Nat):Int)-((eF bF.sz (a.dI):Nat):Int)-((eF aN.sz (a.Builtins):Nat):Int)<0):=by omega
         have q:(a.sz:Int)<=left:=by rw[hs]<;>push_cast<;>omega
         have q2:left-(a.sz:Int)=left-(((a.Name).length:Nat):Int)-(((a.Version).length:Nat):Int)-((eF aI.sz (a.aj):Nat):Int)-((eF aI.sz (a.bT):Nat):Int)-(((a.Module).sz:Nat):Int)-((eF dn.sz (a.gW):Nat):Int)-((eF bF.sz (a.dI):Nat):Int)-((eF aN.sz (a.Builtins):Nat):Int):=by rw[hs]<;>push_cast<;>omega
         rw[bI q,q2];simp[e0,n0,e1,n1,e2,n2,e3,n3,e4,n4,e5,n5,e6,n6,e7,n7]
        ·rw[bu c7]at e7;have q:¬((a.sz:Int)<=left):=by rw[hs]<;>push_cast<;>omega
         rw[bu q];simp[e0,n0,e1,n1,e2,n2,e3,n3,e4,n4,e5,n5,e6,n6,e7]
       ·rw[bu c6]at e6;have q:¬((a.sz:Int)<=left):=by rw[hs]<;>push_cast<;>omega
        rw[bu q];simp[e0,n0,e1,n1,e2,n2,e3,n3,e4,n4,e5,n5,e6]
      ·rw[bu c5]at e5;have q:¬((a.sz:Int)<=left):=by rw[hs]<;>push_cast<;>omega
       rw[bu q];simp[e0,n0,e1,n1,e2,n2,e3,n3,e4,n4,e5]
     ·rw[bu c4]at e4;have q:¬((a.sz:Int)<=left):=by rw[hs]<;>push_cast<;>omega
      rw[bu q];simp[e0,n0,e1,n1,e2,n2,e3,n3,e4]
    ·rw[bu c3]at e3;have q:¬((a.sz:Int)<=left):=by rw[hs]<;>push_cast<;>omega
     rw[bu q];simp[e0,n0,e1,n1,e2,n2,e3]
   ·rw[bu c2]at e2;have q:¬((a.sz:Int)<=left):=by rw[hs]<;>push_cast<;>omega
    rw[bu q];simp[e0,n0,e1,n1,e2]
  ·have n1:left-(((a.Name).length:Nat):Int)-(((a.Version).length:Nat):Int)<0:=by omega
   have q:¬((a.sz:Int)<=left):=by rw[hs]<;>push_cast<;>omega
   rw[bu q];simp[e0,n0,e1,n1]
 ·have n0:left-(((a.Name).length:Nat):Int)<0:=by omega
  have q:¬((a.sz:Int)<=left):=by rw[hs]<;>push_cast<;>omega
  rw[bu q];simp[e0,n0]
theorem au9(a:aA)(h:a.sz<=1048576):M.Dt a=some (a.Name,a.Version,a.Encoding,a.kY,a.Module.jI,a.aj,a.bT,a.Module.aj,a.Module.bz,a.gW,a.dI,a.Builtins):=by
 unfold M.Dt;have hs:=aA.dN a
 try simp only[ae.aF,ay.aF,ah.aF,aQ.aF]
 have e2:=awO (a.aj) (by omega);have e3:=awO (a.bT) (by omega);have e6:=aBb (a.Module) (by omega);have e7:=aCu (a.gW) (by omega);have e8:=aA5 (a.dI) (by omega);have e9:=awI (a.Builtins) (by omega)
 try simp[e2,e3,e6,e7,e8,e9]
theorem ava(a:aA)(h:a.sz<=1048576):M.Dl a a=some true:=by
 unfold M.Dl;have hs:=aA.dN a
 try simp only[ae.aF,ay.aF,ah.aF,aQ.aF]
 have e2:=awP (a.aj) (by omega);have e3:=awP (a.bT) (by omega);have e6:=aBc (a.Module) (by omega);have e7:=aCv (a.gW) (by omega);have e8:=aA6 (a.dI) (by omega);have e9:=awJ (a.Builtins) (by omega)
 try simp[e2,e3,e6,e7,e8,e9]
end M
