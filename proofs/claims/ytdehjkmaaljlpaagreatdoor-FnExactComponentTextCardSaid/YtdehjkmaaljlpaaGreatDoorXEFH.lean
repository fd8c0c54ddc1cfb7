/-
  Part of the proof of the claim.
-/
import Derived.Test.YtdehjkmaaljlpaaGreatDoorXEFM
import Derived.Test.YtdehjkmaaljlpaaGreatDoorXElaw
import Derived.Test.YtdehjkmaaljlpaaGreatDoorXEpl
set_option linter.unusedVariables false
set_option linter.unusedSimpArgs false
namespace M
def cN(s:List UInt8):Prop:=s.length<=9223372036854775807
def ei{α:Type}(p:α->Prop)(l:List α):Prop:=l.length<=9223372036854775807/\∀x∈l,p x
def bF.sz(a:bF):Nat:=(a.aT).length+(a.dX).length+(a.Import).length
theorem bF.bQ(a:bF):a.sz=(a.aT).length+(a.dX).length+(a.Import).length:=rfl
def bF.Ok(a:bF):Prop:=I64 (a.Kind)/\cN (a.aT)/\cN (a.dX)/\cN (a.Import)/\True
theorem bF.ok_eq(a:bF):a.Ok↔(I64 (a.Kind)/\cN (a.aT)/\cN (a.dX)/\cN (a.Import)/\True):=jc
mutual
def aa.sz:aa->Nat
 |.mk v0 v1 v2 v3=>(v1).length+az List.length (v2)+aa.Kz v3
def aa.Kz:List aa->Nat
 |[]=>0
 |t::r=>aa.sz t+1+aa.Kz r
end
theorem aa.aht:∀l:List aa,aa.Kz l=az aa.sz l
 |[]=>rfl
 |t::r=>by simp only[aa.Kz,az,aa.aht r]
theorem aa.bQ(a:aa):a.sz=(a.Name).length+az List.length (a.bR)+az aa.sz (a.Kids):=by cases a;simp only[aa.sz,aa.aht];rfl
mutual
def aa.Ok:aa->Prop
 |.mk v0 v1 v2 v3=>I64 (v0)/\cN (v1)/\ei cN (v2)/\(v3.length<=9223372036854775807/\aa.tR v3)/\True
def aa.tR:List aa->Prop
 |[]=>True
 |t::r=>aa.Ok t/\aa.tR r
end
theorem aa.ahu:∀l:List aa,aa.tR l↔∀x∈l,aa.Ok x
 |[]=>by simp[aa.tR]
 |t::r=>by simp[aa.tR,aa.ahu r]
theorem aa.ok_eq(a:aa):a.Ok↔(I64 (a.Kind)/\cN (a.Name)/\ei cN (a.bR)/\ei aa.Ok (a.Kids)/\True):=by
 cases a;simp only[aa.Ok,aa.ahu,ei];exact jc
def aw.sz(a:aw):Nat:=(a.Name).length+(a.aS).sz
theorem aw.bQ(a:aw):a.sz=(a.Name).length+(a.aS).sz:=rfl
def aw.Ok(a:aw):Prop:=cN (a.Name)/\aa.Ok (a.aS)/\True
theorem aw.ok_eq(a:aw):a.Ok↔(cN (a.Name)/\aa.Ok (a.aS)/\True):=jc
def ay.sz(a:ay):Nat:=az aw.sz (a.Params)+(a.Result).sz
theorem ay.bQ(a:ay):a.sz=az aw.sz (a.Params)+(a.Result).sz:=rfl
def ay.Ok(a:ay):Prop:=ei aw.Ok (a.Params)/\aa.Ok (a.Result)/\True/\True
theorem ay.ok_eq(a:ay):a.Ok↔(ei aw.Ok (a.Params)/\aa.Ok (a.Result)/\True/\True):=jc
def aF.sz(a:aF):Nat:=(a.Name).length+(a.aS).sz
theorem aF.bQ(a:aF):a.sz=(a.Name).length+(a.aS).sz:=rfl
def aF.Ok(a:aF):Prop:=cN (a.Name)/\ay.Ok (a.aS)/\True
theorem aF.ok_eq(a:aF):a.Ok↔(cN (a.Name)/\ay.Ok (a.aS)/\True):=jc
def ar.sz(a:ar):Nat:=(a.dn).length+(a.Name).length+(a.Version).length+az List.length (a.bI)+az aF.sz (a.Funcs)
theorem ar.bQ(a:ar):a.sz=(a.dn).length+(a.Name).length+(a.Version).length+az List.length (a.bI)+az aF.sz (a.Funcs):=rfl
def ar.Ok(a:ar):Prop:=cN (a.dn)/\cN (a.Name)/\cN (a.Version)/\ei cN (a.bI)/\ei aF.Ok (a.Funcs)/\True
theorem ar.ok_eq(a:ar):a.Ok↔(cN (a.dn)/\cN (a.Name)/\cN (a.Version)/\ei cN (a.bI)/\ei aF.Ok (a.Funcs)/\True):=jc
def bK.sz(a:bK):Nat:=(a.aT).length+(a.Func).length+(a.Core).length
theorem bK.bQ(a:bK):a.sz=(a.aT).length+(a.Func).length+(a.Core).length:=rfl
def bK.Ok(a:bK):Prop:=cN (a.aT)/\cN (a.Func)/\cN (a.Core)/\True
theorem bK.ok_eq(a:bK):a.Ok↔(cN (a.aT)/\cN (a.Func)/\cN (a.Core)/\True):=jc
def bH.sz(a:bH):Nat:=(a.aT).length+(a.Func).length+(a.Import).length
theorem bH.bQ(a:bH):a.sz=(a.aT).length+(a.Func).length+(a.Import).length:=rfl
def bH.Ok(a:bH):Prop:=cN (a.aT)/\cN (a.Func)/\cN (a.Import)/\True
theorem bH.ok_eq(a:bH):a.Ok↔(cN (a.aT)/\cN (a.Func)/\cN (a.Import)/\True):=jc
def aG.sz(a:aG):Nat:=0
theorem aG.bQ(a:aG):a.sz=0:=rfl
def aG.Ok(a:aG):Prop:=I64 (a.Op)/\I64 (a.A)/\True
theorem aG.ok_eq(a:aG):a.Ok↔(I64 (a.Op)/\I64 (a.A)/\True):=jc
def an.sz(a:an):Nat:=(a.Name).length+az aG.sz (a.Code)
theorem an.bQ(a:an):a.sz=(a.Name).length+az aG.sz (a.Code):=rfl
def an.Ok(a:an):Prop:=cN (a.Name)/\I64 (a.Params)/\I64 (a.cX)/\True/\ei aG.Ok (a.Code)/\True
theorem an.ok_eq(a:an):a.Ok↔(cN (a.Name)/\I64 (a.Params)/\I64 (a.cX)/\True/\ei aG.Ok (a.Code)/\True):=jc
def aN.sz(a:aN):Nat:=(a.Name).length
theorem aN.bQ(a:aN):a.sz=(a.Name).length:=rfl
def aN.Ok(a:aN):Prop:=cN (a.Name)/\I64 (a.Params)/\True/\True
theorem aN.ok_eq(a:aN):a.Ok↔(cN (a.Name)/\I64 (a.Params)/\True/\True):=jc
def aM.sz(a:aM):Nat:=az aN.sz (a.al)+az an.sz (a.aI)
theorem aM.bQ(a:aM):a.sz=az aN.sz (a.al)+az an.sz (a.aI):=rfl
def aM.Ok(a:aM):Prop:=I64 (a.dh)/\ei aN.Ok (a.al)/\ei an.Ok (a.aI)/\True
theorem aM.ok_eq(a:aM):a.Ok↔(I64 (a.dh)/\ei aN.Ok (a.al)/\ei an.Ok (a.aI)/\True):=jc
def aP.sz(a:aP):Nat:=(a.Name).length+(a.Version).length+az ar.sz (a.al)+az ar.sz (a.bM)+(a.Module).sz+az bK.sz (a.bT)+az bH.sz (a.bL)+az bF.sz (a.Builtins)
theorem aP.bQ(a:aP):a.sz=(a.Name).length+(a.Version).length+az ar.sz (a.al)+az ar.sz (a.bM)+(a.Module).sz+az bK.sz (a.bT)+az bH.sz (a.bL)+az bF.sz (a.Builtins):=rfl
def aP.Ok(a:aP):Prop:=cN (a.Name)/\cN (a.Version)/\ei ar.Ok (a.al)/\ei ar.Ok (a.bM)/\I64 (a.Encoding)/\I64 (a.ew)/\aM.Ok (a.Module)/\ei bK.Ok (a.bT)/\ei bH.Ok (a.bL)/\ei bF.Ok (a.Builtins)/\True
theorem aP.ok_eq(a:aP):a.Ok↔(cN (a.Name)/\cN (a.Version)/\ei ar.Ok (a.al)/\ei ar.Ok (a.bM)/\I64 (a.Encoding)/\I64 (a.ew)/\aM.Ok (a.Module)/\ei bK.Ok (a.bT)/\ei bH.Ok (a.bL)/\ei bF.Ok (a.Builtins)/\True):=jc
theorem bF.fq(a:bF)(h:∀m,Go.V.iH m .Builtin a):a.Ok:=⟨(h 0).1,(h 0).2.1,(h 0).2.2.1,(h 0).2.2.2.1,trivial⟩
mutual
theorem aa.fq:∀(a:aa),(∀m,Go.V.iH m .Type a)->a.Ok
 |.mk v0 v1 v2 v3,h=>by
   simp only[aa.Ok];exact⟨(h 0).1,(h 0).2.1,⟨((h 0).2.2.1).1,fun y hy=>((fun m=>((h (m+1)).2.2.1).2 y hy) 0).1⟩,⟨((h 0).2.2.2.1).1,(aa.ahv _ fun y hy m=>((h (m+1)).2.2.2.1).2 y hy)⟩,trivial⟩
theorem aa.ahv:∀(l:List aa),(∀y∈l,∀m,Go.V.iH m .Type y)->aa.tR l
 |[],_=>by simp only[aa.tR]
 |t::r,h=>by
  simp only[aa.tR];exact⟨aa.fq t (h t (by simp)),aa.ahv r fun y hy=>h y (by simp[hy])⟩
end
theorem aw.fq(a:aw)(h:∀m,Go.V.iH m .Param a):a.Ok:=⟨(h 0).1,(aa.fq (a.aS) (fun m=>by cases m with|zero=>exact⟨(h 0).2.1,(h 0).2.2.1,(h 0).2.2.2.1,(h 0).2.2.2.2.1,trivial⟩|succ m=>exact⟨(h (m+1)).2.1,(h (m+1)).2.2.1,(h (m+1)).2.2.2.1,(h (m+1)).2.2.2.2.1,trivial⟩)),trivial⟩
theorem ay.fq(a:ay)(h:∀m,Go.V.iH m .fO a):a.Ok:=⟨⟨((h 0).1).1,fun y hy=>aw.fq y (fun m=>((h (m+1)).1).2 y hy)⟩,(aa.fq (a.Result) (fun m=>by cases m with|zero=>exact⟨(h 0).2.1,(h 0).2.2.1,(h 0).2.2.2.1,(h 0).2.2.2.2.1,trivial⟩|succ m=>exact⟨(h (m+1)).2.1,(h (m+1)).2.2.1,(h (m+1)).2.2.2.1,(h (m+1)).2.2.2.2.1,trivial⟩)),trivial,trivial⟩
theorem aF.fq(a:aF)(h:∀m,Go.V.iH m .Func a):a.Ok:=⟨(h 0).1,(ay.fq (a.aS) (fun m=>by cases m with|zero=>exact⟨(h 0).2.1,(h 0).2.2.1,(h 0).2.2.2.1,(h 0).2.2.2.2.1,(h 0).2.2.2.2.2.1,(h 0).2.2.2.2.2.2.1,trivial⟩|succ m=>exact⟨(h (m+1)).2.1,(h (m+1)).2.2.1,(h (m+1)).2.2.2.1,(h (m+1)).2.2.2.2.1,(h (m+1)).2.2.2.2.2.1,(h (m+1)).2.2.2.2.2.2.1,trivial⟩)),trivial⟩
theorem ar.fq(a:ar)(h:∀m,Go.V.iH m .aT a):a.Ok:=⟨(h 0).1,(h 0).2.1,(h 0).2.2.1,⟨((h 0).2.2.2.1).1,fun y hy=>((fun m=>((h (m+1)).2.2.2.1).2 y hy) 0).1⟩,⟨((h 0).2.2.2.2.1).1,fun y hy=>aF.fq y (fun m=>((h (m+1)).2.2.2.2.1).2 y hy)⟩,trivial⟩
theorem bK.fq(a:bK)(h:∀m,Go.V.iH m .ef a):a.Ok:=⟨(h 0).1,(h 0).2.1,(h 0).2.2.1,trivial⟩
theorem bH.fq(a:bH)(h:∀m,Go.V.iH m .Lower a):a.Ok:=⟨(h 0).1,(h 0).2.1,(h 0).2.2.1,trivial⟩
theorem aG.fq(a:aG)(h:∀m,Go.V.iH m .Ins a):a.Ok:=⟨(h 0).1,(h 0).2.1,trivial⟩
theorem an.fq(a:an)(h:∀m,Go.V.iH m .Core a):a.Ok:=⟨(h 0).1,(h 0).2.1,(h 0).2.2.1,trivial,⟨((h 0).2.2.2.2.1).1,fun y hy=>aG.fq y (fun m=>((h (m+1)).2.2.2.2.1).2 y hy)⟩,trivial⟩
theorem aN.fq(a:aN)(h:∀m,Go.V.iH m .Import a):a.Ok:=⟨(h 0).1,(h 0).2.1,trivial,trivial⟩
theorem aM.fq(a:aM)(h:∀m,Go.V.iH m .Module a):a.Ok:=⟨(h 0).1,⟨((h 0).2.1).1,fun y hy=>aN.fq y (fun m=>((h (m+1)).2.1).2 y hy)⟩,⟨((h 0).2.2.1).1,fun y hy=>an.fq y (fun m=>((h (m+1)).2.2.1).2 y hy)⟩,trivial⟩
theorem aP.fq(a:aP)(h:∀m,Go.V.iH m .eG a):a.Ok:=⟨(h 0).1,(h 0).2.1,⟨((h 0).2.2.1).1,fun y hy=>ar.fq y (fun m=>((h (m+1)).2.2.1).2 y hy)⟩,⟨((h 0).2.2.2.1).1,fun y hy=>ar.fq y (fun m=>((h (m+1)).2.2.2.1).2 y hy)⟩,(h 0).2.2.2.2.1,(h 0).2.2.2.2.2.1,(aM.fq (a.Module) (fun m=>by cases m with|zero=>exact⟨(h 0).2.2.2.2.2.2.1,(h 0).2.2.2.2.2.2.2.1,(h 0).2.2.2.2.2.2.2.2.1,trivial⟩|succ m=>exact⟨(h (m+1)).2.2.2.2.2.2.1,(h (m+1)).2.2.2.2.2.2.2.1,(h (m+1)).2.2.2.2.2.2.2.2.1,trivial⟩)),⟨((h 0).2.2.2.2.2.2.2.2.2.1).1,fun y hy=>bK.fq y (fun m=>((h (m+1)).2.2.2.2.2.2.2.2.2.1).2 y hy)⟩,⟨((h 0).2.2.2.2.2.2.2.2.2.2.1).1,fun y hy=>bH.fq y (fun m=>((h (m+1)).2.2.2.2.2.2.2.2.2.2.1).2 y hy)⟩,⟨((h 0).2.2.2.2.2.2.2.2.2.2.2.1).1,fun y hy=>bF.fq y (fun m=>((h (m+1)).2.2.2.2.2.2.2.2.2.2.2.1).2 y hy)⟩,trivial⟩
theorem ahw(a:List (List UInt8))(left:Int)(ok:ei cN a)(h0:0<=left)(h1:left<=1048576):M.vU a left=some (if(az List.length a:Int)<=left then left-az List.length a else -1):=by
 have hl:=ok.1;unfold M.vU;rw[wrap_i64 (by omega) (by omega)];refine pF (f:=List.length) (F:=M.vT  a) a left h0 h1 (fun g k l h2 h3 hk=>?_) (fun g l=>?_)
 ·have hn:k<2^62:=by omega
  rw[M.vT];have w:Go.IntKind.wrap .i64 (l-((a[k]).length:Int))=l-(a[k]).length:=wrap_i64 (by have:=ok.2 a[k] (bG hk);unfold cN at this;omega) (by omega);by_cases d:((a[k]).length:Int)<=l
  ·have n:¬(l-((a[k]).length:Int)<0):=by omega
   rw[aE d];simp[hk,getD_lt hk,w,n,bw hk (show a.length<2^62 by omega)]
  ·have n:l-((a[k]).length:Int)<0:=by omega
   rw[av d];simp[hk,getD_lt hk,w,n]
 ·rw[M.vT];simp
theorem ahx(a:List (List UInt8))(ha:az List.length a<=1048576):M.vB a=some a:=by
 have hl:=cm List.length a;have hn:a.length<=1048576:=by omega
 have hi:(a.length:Int)<=1073741824:=by omega
 have q:∀z,z.length=a.length->M.sG  a Go.V.af 0 z=some a:=m3 (F:=M.sG  a) a (by omega) (fun f k out h1 h2 hk=>by
  rw[M.sG];simp[hk,h2,getD_lt hk,bw hk (cC hn)]) (fun f out=>by rw[M.sG];simp)
 unfold M.vB;rw[q _ (by simp)];simp[hi]
theorem ahy(a:List (List UInt8))(ha:az List.length a<=1048576):M.u4 a a=some true:=by
 have hl:=cm List.length a;have hn:a.length<=1048576:=by omega
 unfold M.u4;refine m4 (F:=M.vX  a a) a hn (fun f k hk=>?_) (fun f=>?_)
 ·rw[M.vX];simp[hk,getD_lt hk,bw hk (cC hn)]
 ·rw[M.vX];simp
theorem ayh(a:bF)(left:Int)(ok:a.Ok)(h0:0<=left)(h1:left<=1048576):M.Bl a left=some (if(a.sz:Int)<=left then left-a.sz else -1):=by
 unfold M.Bl;have hs:=bF.bQ a;have ok1:=(bF.ok_eq a).1 ok
 try simp only[aa.ai,aw.ai,ay.ai,aF.ai]
 have e0:Go.IntKind.wrap .i64 (left-((a.aT).length:Int))=left-((a.aT).length:Int):=wrap_i64 (by have:=ok1.2.1;unfold cN at this;omega) (by omega);by_cases c0:(((a.aT).length:Nat):Int)<=left
 ·skip
  have n0:¬(left-(((a.aT).length:Nat):Int)<0):=by omega
  have e1:Go.IntKind.wrap .i64 (left-(((a.aT).length:Nat):Int)-((a.dX).length:Int))=left-(((a.aT).length:Nat):Int)-((a.dX).length:Int):=wrap_i64 (by have:=ok1.2.2.1;unfold cN at this;omega) (by omega);by_cases c1:(((a.dX).length:Nat):Int)<=left-(((a.aT).length:Nat):Int)
  ·skip
   have n1:¬(left-(((a.aT).length:Nat):Int)-(((a.dX).length:Nat):Int)<0):=by omega
   have e2:Go.IntKind.wrap .i64 (left-(((a.aT).length:Nat):Int)-(((a.dX).length:Nat):Int)-((a.Import).length:Int))=left-(((a.aT).length:Nat):Int)-(((a.dX).length:Nat):Int)-((a.Import).length:Int):=wrap_i64 (by have:=ok1.2.2.2.1;unfold cN at this;omega) (by omega);by_cases c2:(((a.Import).length:Nat):Int)<=left-(((a.aT).length:Nat):Int)-(((a.dX).length:Nat):Int)
   ·skip
    have n2:¬(left-(((a.aT).length:Nat):Int)-(((a.dX).length:Nat):Int)-(((a.Import).length:Nat):Int)<0):=by omega
    have q:(a.sz:Int)<=left:=by rw[hs]<;>push_cast<;>omega
    have q2:left-(a.sz:Int)=left-(((a.aT).length:Nat):Int)-(((a.dX).length:Nat):Int)-(((a.Import).length:Nat):Int):=by rw[hs]<;>push_cast<;>omega
    rw[aE q,q2];simp[e0,n0,e1,n1,e2,n2]
   ·have n2:left-(((a.aT).length:Nat):Int)-(((a.dX).length:Nat):Int)-(((a.Import).length:Nat):Int)<0:=by omega
    have q:¬((a.sz:Int)<=left):=by rw[hs]<;>push_cast<;>omega
    rw[av q];simp[e0,n0,e1,n1,e2,n2]
  ·have n1:left-(((a.aT).length:Nat):Int)-(((a.dX).length:Nat):Int)<0:=by omega
   have q:¬((a.sz:Int)<=left):=by rw[hs]<;>push_cast<;>omega
   rw[av q];simp[e0,n0,e1,n1]
 ·have n0:left-(((a.aT).length:Nat):Int)<0:=by omega
  have q:¬((a.sz:Int)<=left):=by rw[hs]<;>push_cast<;>omega
  rw[av q];simp[e0,n0]
theorem ayi(a:bF)(h:a.sz<=1048576):M.IL a=some a:=by
 unfold M.IL;have hs:=bF.bQ a
 try simp only[aa.ai,aw.ai,ay.ai,aF.ai]
 try simp[]
theorem ayj(a:bF)(h:a.sz<=1048576):M.BR a a=some true:=by
 unfold M.BR;have hs:=bF.bQ a
 try simp only[aa.ai,aw.ai,ay.ai,aF.ai]
 try simp[]
theorem ayk(a:List bF)(left:Int)(ok:ei bF.Ok a)(h0:0<=left)(h1:left<=1048576):M.Bm a left=some (if(az bF.sz a:Int)<=left then left-az bF.sz a else -1):=by
 have hl:=ok.1;unfold M.Bm;rw[wrap_i64 (by omega) (by omega)];refine pF (f:=bF.sz) (F:=M.vd  a) a left h0 h1 (fun g k l h2 h3 hk=>?_) (fun g l=>?_)
 ·have hn:k<2^62:=by omega
  rw[M.vd];have e:=ayh a[k] l (ok.2 _ (bG hk)) h2 (by omega);by_cases d:((bF.sz a[k]:Nat):Int)<=l
  ·have n:¬(l-((bF.sz a[k]:Nat):Int)<0):=by omega
   rw[aE d]at e⊢;simp[hk,getD_lt hk,e,n,bw hk (show a.length<2^62 by omega),aa.ai,aw.ai,ay.ai,aF.ai]
  ·rw[av d]at e⊢;simp[hk,getD_lt hk,e,aa.ai,aw.ai,ay.ai,aF.ai]
 ·rw[M.vd];simp
theorem ayl(a:List bF)(ha:az bF.sz a<=1048576):M.Dh a=some a:=by
 have hl:=cm bF.sz a;have hn:a.length<=1048576:=by omega
 have hi:(a.length:Int)<=1073741824:=by omega
 have q:∀z,z.length=a.length->M.sR  a Go.V.af 0 z=some a:=m3 (F:=M.sR  a) a (by omega) (fun f k out h1 h2 hk=>by
  rw[M.sR];have e:=ayi a[k] (by have:=dr bF.sz a a[k] (bG hk);omega);simp[hk,h2,getD_lt hk,e,bw hk (cC hn),aa.ai,aw.ai,ay.ai,aF.ai]) (fun f out=>by rw[M.sR];simp)
 unfold M.Dh;rw[q _ (by simp)];simp[hi]
theorem aym(a:List bF)(ha:az bF.sz a<=1048576):M.BU a a=some true:=by
 have hl:=cm bF.sz a;have hn:a.length<=1048576:=by omega
 unfold M.BU;refine m4 (F:=M.vp  a a) a hn (fun f k hk=>?_) (fun f=>?_)
 ·rw[M.vp];have e:=ayj a[k] (by have:=dr bF.sz a a[k] (bG hk);omega);simp[hk,getD_lt hk,e,bw hk (cC hn),aa.ai,aw.ai,ay.ai,aF.ai]
 ·rw[M.vp];simp
theorem ayn(r:aa->Int->Option Int)(a:List aa)(left:Int)(ok:ei aa.Ok a)(h0:0<=left)(h1:left<=1048576)(hr:∀x l,x∈a->0<=l->l<left->r x l=some (if(x.sz:Int)<=l then l-x.sz else -1)):M.DW r a left=some (if(az aa.sz a:Int)<=left then left-az aa.sz a else -1):=by
 have hl:=ok.1;unfold M.DW;rw[wrap_i64 (by omega) (by omega)];refine pF (f:=aa.sz) (F:=M.vV r  a) a left h0 h1 (fun g k l h2 h3 hk=>?_) (fun g l=>?_)
 ·have hn:k<2^62:=by omega
  rw[M.vV];have e:=hr a[k] l (bG hk) h2 (by omega);by_cases d:((aa.sz a[k]:Nat):Int)<=l
  ·have n:¬(l-((aa.sz a[k]:Nat):Int)<0):=by omega
   rw[aE d]at e⊢;simp[hk,getD_lt hk,e,n,bw hk (show a.length<2^62 by omega),aa.ai,aw.ai,ay.ai,aF.ai]
  ·rw[av d]at e⊢;simp[hk,getD_lt hk,e,aa.ai,aw.ai,ay.ai,aF.ai]
 ·rw[M.vV];simp
theorem ayo(r:aa->Option (aa))(a:List aa)(ha:a.length<=1048576)(hr:∀x∈a,r x=some x):M.CY r a=some a:=by
 have hn:a.length<=1048576:=by omega
 have hi:(a.length:Int)<=1073741824:=by omega
 have q:∀z,z.length=a.length->M.sH r  a Go.V.af 0 z=some a:=m3 (F:=M.sH r  a) a (by omega) (fun f k out h1 h2 hk=>by
  rw[M.sH];have e:=hr a[k] (bG hk);simp[hk,h2,getD_lt hk,e,bw hk (cC hn),aa.ai,aw.ai,ay.ai,aF.ai]) (fun f out=>by rw[M.sH];simp)
 unfold M.CY;rw[q _ (by simp)];simp[hi]
theorem ayp(r:aa->aa->Option Bool)(a:List aa)(ha:a.length<=1048576)(hr:∀x∈a,r x x=some true):M.DX r a a=some true:=by
 have hn:a.length<=1048576:=by omega
 unfold M.DX;refine m4 (F:=M.vY r  a a) a hn (fun f k hk=>?_) (fun f=>?_)
 ·rw[M.vY];have e:=hr a[k] (bG hk);simp[hk,getD_lt hk,e,bw hk (cC hn),aa.ai,aw.ai,ay.ai,aF.ai]
 ·rw[M.vY];simp
theorem ahz:∀(n:Nat)(a:aa)(left:Int),a.Ok->0<=left->left<n->left<=1048576->M.vW n a left=some (if(a.sz:Int)<=left then left-a.sz else -1)
 |0,a,left,ok,h0,h2,h1=>by omega
 |n+1,a,left,ok,h0,h2,h1=>by
  show M.Jg (M.vW n) a left=_
  unfold M.Jg;have hs:=aa.bQ a;have ok1:=(aa.ok_eq a).1 ok
  try simp only[aa.ai,aw.ai,ay.ai,aF.ai]
  have e0:Go.IntKind.wrap .i64 (left-((a.Name).length:Int))=left-((a.Name).length:Int):=wrap_i64 (by have:=ok1.2.1;unfold cN at this;omega) (by omega);by_cases c0:(((a.Name).length:Nat):Int)<=left
  ·skip
   have n0:¬(left-(((a.Name).length:Nat):Int)<0):=by omega
   have e1:=ahw (a.bR) (left-(((a.Name).length:Nat):Int)) ok1.2.2.1 (by omega) (by omega);by_cases c1:((az List.length (a.bR):Nat):Int)<=left-(((a.Name).length:Nat):Int)
   ·rw[aE c1]at e1;have n1:¬(left-(((a.Name).length:Nat):Int)-((az List.length (a.bR):Nat):Int)<0):=by omega
    have e2:=ayn (M.vW n) (a.Kids) (left-(((a.Name).length:Nat):Int)-((az List.length (a.bR):Nat):Int)) ok1.2.2.2.1 (by omega) (by omega) (fun x l hx q0 q1=>ahz n x l ((ok1.2.2.2.1).2 x hx) q0 (by omega) (by omega));by_cases c2:((az aa.sz (a.Kids):Nat):Int)<=left-(((a.Name).length:Nat):Int)-((az List.length (a.bR):Nat):Int)
    ·rw[aE c2]at e2;have n2:¬(left-(((a.Name).length:Nat):Int)-((az List.length (a.bR):Nat):Int)-((az aa.sz (a.Kids):Nat):Int)<0):=by omega
     have q:(a.sz:Int)<=left:=by rw[hs]<;>push_cast<;>omega
     have q2:left-(a.sz:Int)=left-(((a.Name).length:Nat):Int)-((az List.length (a.bR):Nat):Int)-((az aa.sz (a.Kids):Nat):Int):=by rw[hs]<;>push_cast<;>omega
     rw[aE q,q2];simp[e0,n0,e1,n1,e2,n2]
    ·rw[av c2]at e2;have q:¬((a.sz:Int)<=left):=by rw[hs]<;>push_cast<;>omega
     rw[av q];simp[e0,n0,e1,n1,e2]
   ·rw[av c1]at e1;have q:¬((a.sz:Int)<=left):=by rw[hs]<;>push_cast<;>omega
    rw[av q];simp[e0,n0,e1]
  ·have n0:left-(((a.Name).length:Nat):Int)<0:=by omega
   have q:¬((a.sz:Int)<=left):=by rw[hs]<;>push_cast<;>omega
   rw[av q];simp[e0,n0]
theorem ahA(a:aa)(left:Int)(ok:a.Ok)(h0:0<=left)(h1:left<=1048576):M.yU a left=some (if(a.sz:Int)<=left then left-a.sz else -1):=
 ahz _ a left ok h0 (by have:=Go.V.bV;omega) h1
theorem ahB:∀(n:Nat)(a:aa),a.sz<n->a.sz<=1048576->M.vC n a=some a
 |0,a,h2,h=>by omega
 |n+1,a,h2,h=>by
  show M.Iy (M.vC n) a=_
  unfold M.Iy;have hs:=aa.bQ a
  try simp only[aa.ai,aw.ai,ay.ai,aF.ai]
  have e2:=ahx (a.bR) (by omega);have hk3:=cm aa.sz (a.Kids);have e3:=ayo (M.vC n) (a.Kids) (by omega) (fun x hx=>ahB n x (by have:=dr aa.sz (a.Kids) x hx;have:=wL aa.sz (a.Kids) x hx;omega) (by have:=dr aa.sz (a.Kids) x hx;omega))
  try simp[e2,e3,aa.eta]
theorem ahC(a:aa)(h:a.sz<=1048576):M.yO a=some a:=
 ahB _ a (by have:=Go.V.bV;omega) h
theorem ahD:∀(n:Nat)(a:aa),a.sz<n->a.sz<=1048576->M.vZ n a a=some true
 |0,a,h2,h=>by omega
 |n+1,a,h2,h=>by
  show M.Jj (M.vZ n) a a=_
  unfold M.Jj;have hs:=aa.bQ a
  try simp only[aa.ai,aw.ai,ay.ai,aF.ai]
  have e2:=ahy (a.bR) (by omega);have hk3:=cm aa.sz (a.Kids);have e3:=ayp (M.vZ n) (a.Kids) (by omega) (fun x hx=>ahD n x (by have:=dr aa.sz (a.Kids) x hx;have:=wL aa.sz (a.Kids) x hx;omega) (by have:=dr aa.sz (a.Kids) x hx;omega))
  try simp[e2,e3,aa.eta]
theorem ahE(a:aa)(h:a.sz<=1048576):M.yV a a=some true:=
 ahD _ a (by have:=Go.V.bV;omega) h
theorem ayq(a:aw)(left:Int)(ok:a.Ok)(h0:0<=left)(h1:left<=1048576):M.Ea a left=some (if(a.sz:Int)<=left then left-a.sz else -1):=by
 unfold M.Ea;have hs:=aw.bQ a;have ok1:=(aw.ok_eq a).1 ok
 try simp only[aa.ai,aw.ai,ay.ai,aF.ai]
 have e0:Go.IntKind.wrap .i64 (left-((a.Name).length:Int))=left-((a.Name).length:Int):=wrap_i64 (by have:=ok1.1;unfold cN at this;omega) (by omega);by_cases c0:(((a.Name).length:Nat):Int)<=left
 ·skip
  have n0:¬(left-(((a.Name).length:Nat):Int)<0):=by omega
  have e1:=ahA (a.aS) (left-(((a.Name).length:Nat):Int)) ok1.2.1 (by omega) (by omega);by_cases c1:(((a.aS).sz:Nat):Int)<=left-(((a.Name).length:Nat):Int)
  ·rw[aE c1]at e1;have n1:¬(left-(((a.Name).length:Nat):Int)-(((a.aS).sz:Nat):Int)<0):=by omega
   have q:(a.sz:Int)<=left:=by rw[hs]<;>push_cast<;>omega
   have q2:left-(a.sz:Int)=left-(((a.Name).length:Nat):Int)-(((a.aS).sz:Nat):Int):=by rw[hs]<;>push_cast<;>omega
   rw[aE q,q2];simp[e0,n0,e1,n1]
  ·rw[av c1]at e1;have q:¬((a.sz:Int)<=left):=by rw[hs]<;>push_cast<;>omega
   rw[av q];simp[e0,n0,e1]
 ·have n0:left-(((a.Name).length:Nat):Int)<0:=by omega
  have q:¬((a.sz:Int)<=left):=by rw[hs]<;>push_cast<;>omega
  rw[av q];simp[e0,n0]
theorem ayr(a:aw)(h:a.sz<=1048576):M.CZ a=some a:=by
 unfold M.CZ;have hs:=aw.bQ a
 try simp only[aa.ai,aw.ai,ay.ai,aF.ai]
 have e1:=ahC (a.aS) (by omega)
 try simp[e1]
theorem ays(a:aw)(h:a.sz<=1048576):M.EG a a=some true:=by
 unfold M.EG;have hs:=aw.bQ a
 try simp only[aa.ai,aw.ai,ay.ai,aF.ai]
 have e1:=ahE (a.aS) (by omega)
 try simp[e1]
theorem ayt(a:List aw)(left:Int)(ok:ei aw.Ok a)(h0:0<=left)(h1:left<=1048576):M.Eb a left=some (if(az aw.sz a:Int)<=left then left-az aw.sz a else -1):=by
 have hl:=ok.1;unfold M.Eb;rw[wrap_i64 (by omega) (by omega)];refine pF (f:=aw.sz) (F:=M.wh  a) a left h0 h1 (fun g k l h2 h3 hk=>?_) (fun g l=>?_)
 ·have hn:k<2^62:=by omega
  rw[M.wh];have e:=ayq a[k] l (ok.2 _ (bG hk)) h2 (by omega);by_cases d:((aw.sz a[k]:Nat):Int)<=l
  ·have n:¬(l-((aw.sz a[k]:Nat):Int)<0):=by omega
   rw[aE d]at e⊢;simp[hk,getD_lt hk,e,n,bw hk (show a.length<2^62 by omega),aa.ai,aw.ai,ay.ai,aF.ai]
  ·rw[av d]at e⊢;simp[hk,getD_lt hk,e,aa.ai,aw.ai,ay.ai,aF.ai]
 ·rw[M.wh];simp
theorem ayu(a:List aw)(ha:az aw.sz a<=1048576):M.C0 a=some a:=by
 have hl:=cm aw.sz a;have hn:a.length<=1048576:=by omega
 have hi:(a.length:Int)<=1073741824:=by omega
 have q:∀z,z.length=a.length->M.sJ  a Go.V.af 0 z=some a:=m3 (F:=M.sJ  a) a (by omega) (fun f k out h1 h2 hk=>by
  rw[M.sJ];have e:=ayr a[k] (by have:=dr aw.sz a a[k] (bG hk);omega);simp[hk,h2,getD_lt hk,e,bw hk (cC hn),aa.ai,aw.ai,ay.ai,aF.ai]) (fun f out=>by rw[M.sJ];simp)
 unfold M.C0;rw[q _ (by simp)];simp[hi]
theorem ayv(a:List aw)(ha:az aw.sz a<=1048576):M.EH a a=some true:=by
 have hl:=cm aw.sz a;have hn:a.length<=1048576:=by omega
 unfold M.EH;refine m4 (F:=M.wC  a a) a hn (fun f k hk=>?_) (fun f=>?_)
 ·rw[M.wC];have e:=ays a[k] (by have:=dr aw.sz a a[k] (bG hk);omega);simp[hk,getD_lt hk,e,bw hk (cC hn),aa.ai,aw.ai,ay.ai,aF.ai]
 ·rw[M.wC];simp
theorem ayw(a:ay)(left:Int)(ok:a.Ok)(h0:0<=left)(h1:left<=1048576):M.Ec a left=some (if(a.sz:Int)<=left then left-a.sz else -1):=by
 unfold M.Ec;have hs:=ay.bQ a;have ok1:=(ay.ok_eq a).1 ok
 try simp only[aa.ai,aw.ai,ay.ai,aF.ai]
 have e0:=ayt (a.Params) (left) ok1.1 (by omega) (by omega);by_cases c0:((az aw.sz (a.Params):Nat):Int)<=left
 ·rw[aE c0]at e0;have n0:¬(left-((az aw.sz (a.Params):Nat):Int)<0):=by omega
  have e1:=ahA (a.Result) (left-((az aw.sz (a.Params):Nat):Int)) ok1.2.1 (by omega) (by omega);by_cases c1:(((a.Result).sz:Nat):Int)<=left-((az aw.sz (a.Params):Nat):Int)
  ·rw[aE c1]at e1;have n1:¬(left-((az aw.sz (a.Params):Nat):Int)-(((a.Result).sz:Nat):Int)<0):=by omega
   have q:(a.sz:Int)<=left:=by rw[hs]<;>push_cast<;>omega
   have q2:left-(a.sz:Int)=left-((az aw.sz (a.Params):Nat):Int)-(((a.Result).sz:Nat):Int):=by rw[hs]<;>push_cast<;>omega
   rw[aE q,q2];simp[e0,n0,e1,n1]
  ·rw[av c1]at e1;have q:¬((a.sz:Int)<=left):=by rw[hs]<;>push_cast<;>omega
   rw[av q];simp[e0,n0,e1]
 ·rw[av c0]at e0;have q:¬((a.sz:Int)<=left):=by rw[hs]<;>push_cast<;>omega
  rw[av q];simp[e0]
theorem ayx(a:ay)(h:a.sz<=1048576):M.C2 a=some a:=by
 unfold M.C2;have hs:=ay.bQ a
 try simp only[aa.ai,aw.ai,ay.ai,aF.ai]
 have e0:=ayu (a.Params) (by omega);have e1:=ahC (a.Result) (by omega)
 try simp[e0,e1]
theorem ayy(a:ay)(h:a.sz<=1048576):M.EI a a=some true:=by
 unfold M.EI;have hs:=ay.bQ a
 try simp only[aa.ai,aw.ai,ay.ai,aF.ai]
 have e0:=ayv (a.Params) (by omega);have e1:=ahE (a.Result) (by omega)
 try simp[e0,e1]
theorem ayz(a:aF)(left:Int)(ok:a.Ok)(h0:0<=left)(h1:left<=1048576):M.Ed a left=some (if(a.sz:Int)<=left then left-a.sz else -1):=by
 unfold M.Ed;have hs:=aF.bQ a;have ok1:=(aF.ok_eq a).1 ok
 try simp only[aa.ai,aw.ai,ay.ai,aF.ai]
 have e0:Go.IntKind.wrap .i64 (left-((a.Name).length:Int))=left-((a.Name).length:Int):=wrap_i64 (by have:=ok1.1;unfold cN at this;omega) (by omega);by_cases c0:(((a.Name).length:Nat):Int)<=left
 ·skip
  have n0:¬(left-(((a.Name).length:Nat):Int)<0):=by omega
  have e1:=ayw (a.aS) (left-(((a.Name).length:Nat):Int)) ok1.2.1 (by omega) (by omega);by_cases c1:(((a.aS).sz:Nat):Int)<=left-(((a.Name).length:Nat):Int)
  ·rw[aE c1]at e1;have n1:¬(left-(((a.Name).length:Nat):Int)-(((a.aS).sz:Nat):Int)<0):=by omega
   have q:(a.sz:Int)<=left:=by rw[hs]<;>push_cast<;>omega
   have q2:left-(a.sz:Int)=left-(((a.Name).length:Nat):Int)-(((a.aS).sz:Nat):Int):=by rw[hs]<;>push_cast<;>omega
   rw[aE q,q2];simp[e0,n0,e1,n1]
  ·rw[av c1]at e1;have q:¬((a.sz:Int)<=left):=by rw[hs]<;>push_cast<;>omega
   rw[av q];simp[e0,n0,e1]
 ·have n0:left-(((a.Name).length:Nat):Int)<0:=by omega
  have q:¬((a.sz:Int)<=left):=by rw[hs]<;>push_cast<;>omega
  rw[av q];simp[e0,n0]
theorem ayA(a:aF)(h:a.sz<=1048576):M.C3 a=some a:=by
 unfold M.C3;have hs:=aF.bQ a
 try simp only[aa.ai,aw.ai,ay.ai,aF.ai]
 have e1:=ayx (a.aS) (by omega)
 try simp[e1]
theorem ayB(a:aF)(h:a.sz<=1048576):M.EJ a a=some true:=by
 unfold M.EJ;have hs:=aF.bQ a
 try simp only[aa.ai,aw.ai,ay.ai,aF.ai]
 have e1:=ayy (a.aS) (by omega)
 try simp[e1]
theorem ayC(a:List aF)(left:Int)(ok:ei aF.Ok a)(h0:0<=left)(h1:left<=1048576):M.Ee a left=some (if(az aF.sz a:Int)<=left then left-az aF.sz a else -1):=by
 have hl:=ok.1;unfold M.Ee;rw[wrap_i64 (by omega) (by omega)];refine pF (f:=aF.sz) (F:=M.wi  a) a left h0 h1 (fun g k l h2 h3 hk=>?_) (fun g l=>?_)
 ·have hn:k<2^62:=by omega
  rw[M.wi];have e:=ayz a[k] l (ok.2 _ (bG hk)) h2 (by omega);by_cases d:((aF.sz a[k]:Nat):Int)<=l
  ·have n:¬(l-((aF.sz a[k]:Nat):Int)<0):=by omega
   rw[aE d]at e⊢;simp[hk,getD_lt hk,e,n,bw hk (show a.length<2^62 by omega),aa.ai,aw.ai,ay.ai,aF.ai]
  ·rw[av d]at e⊢;simp[hk,getD_lt hk,e,aa.ai,aw.ai,ay.ai,aF.ai]
 ·rw[M.wi];simp
theorem ayD(a:List aF)(ha:az aF.sz a<=1048576):M.C4 a=some a:=by
 have hl:=cm aF.sz a;have hn:a.length<=1048576:=by omega
 have hi:(a.length:Int)<=1073741824:=by omega
 have q:∀z,z.length=a.length->M.sK  a Go.V.af 0 z=some a:=m3 (F:=M.sK  a) a (by omega) (fun f k out h1 h2 hk=>by
  rw[M.sK];have e:=ayA a[k] (by have:=dr aF.sz a a[k] (bG hk);omega);simp[hk,h2,getD_lt hk,e,bw hk (cC hn),aa.ai,aw.ai,ay.ai,aF.ai]) (fun f out=>by rw[M.sK];simp)
 unfold M.C4;rw[q _ (by simp)];simp[hi]
theorem ayE(a:List aF)(ha:az aF.sz a<=1048576):M.Bd a a=some true:=by
 have hl:=cm aF.sz a;have hn:a.length<=1048576:=by omega
 unfold M.Bd;refine m4 (F:=M.u0  a a) a hn (fun f k hk=>?_) (fun f=>?_)
 ·rw[M.u0];have e:=ayB a[k] (by have:=dr aF.sz a a[k] (bG hk);omega);simp[hk,getD_lt hk,e,bw hk (cC hn),aa.ai,aw.ai,ay.ai,aF.ai]
 ·rw[M.u0];simp
theorem ayF(a:ar)(left:Int)(ok:a.Ok)(h0:0<=left)(h1:left<=1048576):M.Ef a left=some (if(a.sz:Int)<=left then left-a.sz else -1):=by
 unfold M.Ef;have hs:=ar.bQ a;have ok1:=(ar.ok_eq a).1 ok
 try simp only[aa.ai,aw.ai,ay.ai,aF.ai]
 have e0:Go.IntKind.wrap .i64 (left-((a.dn).length:Int))=left-((a.dn).length:Int):=wrap_i64 (by have:=ok1.1;unfold cN at this;omega) (by omega);by_cases c0:(((a.dn).length:Nat):Int)<=left
 ·skip
  have n0:¬(left-(((a.dn).length:Nat):Int)<0):=by omega
  have e1:Go.IntKind.wrap .i64 (left-(((a.dn).length:Nat):Int)-((a.Name).length:Int))=left-(((a.dn).length:Nat):Int)-((a.Name).length:Int):=wrap_i64 (by have:=ok1.2.1;unfold cN at this;omega) (by omega);by_cases c1:(((a.Name).length:Nat):Int)<=left-(((a.dn).length:Nat):Int)
  ·skip
   have n1:¬(left-(((a.dn).length:Nat):Int)-(((a.Name).length:Nat):Int)<0):=by omega
   have e2:Go.IntKind.wrap .i64 (left-(((a.dn).length:Nat):Int)-(((a.Name).length:Nat):Int)-((a.Version).length:Int))=left-(((a.dn).length:Nat):Int)-(((a.Name).length:Nat):Int)-((a.Version).length:Int):=wrap_i64 (by have:=ok1.2.2.1;unfold cN at this;omega) (by omega);by_cases c2:(((a.Version).length:Nat):Int)<=left-(((a.dn).length:Nat):Int)-(((a.Name).length:Nat):Int)
   ·skip
    have n2:¬(left-(((a.dn).length:Nat):Int)-(((a.Name).length:Nat):Int)-(((a.Version).length:Nat):Int)<0):=by omega
    have e3:=ahw (a.bI) (left-(((a.dn).length:Nat):Int)-(((a.Name).length:Nat):Int)-(((a.Version).length:Nat):Int)) ok1.2.2.2.1 (by omega) (by omega);by_cases c3:((az List.length (a.bI):Nat):Int)<=left-(((a.dn).length:Nat):Int)-(((a.Name).length:Nat):Int)-(((a.Version).length:Nat):Int)
    ·rw[aE c3]at e3;have n3:¬(left-(((a.dn).length:Nat):Int)-(((a.Name).length:Nat):Int)-(((a.Version).length:Nat):Int)-((az List.length (a.bI):Nat):Int)<0):=by omega
     have e4:=ayC (a.Funcs) (left-(((a.dn).length:Nat):Int)-(((a.Name).length:Nat):Int)-(((a.Version).length:Nat):Int)-((az List.length (a.bI):Nat):Int)) ok1.2.2.2.2.1 (by omega) (by omega);by_cases c4:((az aF.sz (a.Funcs):Nat):Int)<=left-(((a.dn).length:Nat):Int)-(((a.Name).length:Nat):Int)-(((a.Version).length:Nat):Int)-((az List.length (a.bI):Nat):Int)
     ·rw[aE c4]at e4;have n4:¬(left-(((a.dn).length:Nat):Int)-(((a.Name).length:Nat):Int)-(((a.Version).length:Nat):Int)-((az List.length (a.bI):Nat):Int)-((az aF.sz (a.Funcs):Nat):Int)<0):=by omega
      have q:(a.sz:Int)<=left:=by rw[hs]<;>push_cast<;>omega
      have q2:left-(a.sz:Int)=left-(((a.dn).length:Nat):Int)-(((a.Name).length:Nat):Int)-(((a.Version).length:Nat):Int)-((az List.length (a.bI):Nat):Int)-((az aF.sz (a.Funcs):Nat):Int):=by rw[hs]<;>push_cast<;>omega
      rw[aE q,q2];simp[e0,n0,e1,n1,e2,n2,e3,n3,e4,n4]
     ·rw[av c4]at e4;have q:¬((a.sz:Int)<=left):=by rw[hs]<;>push_cast<;>omega
      rw[av q];simp[e0,n0,e1,n1,e2,n2,e3,n3,e4]
    ·rw[av c3]at e3;have q:¬((a.sz:Int)<=left):=by rw[hs]<;>push_cast<;>omega
     rw[av q];simp[e0,n0,e1,n1,e2,n2,e3]
   ·have n2:left-(((a.dn).length:Nat):Int)-(((a.Name).length:Nat):Int)-(((a.Version).length:Nat):Int)<0:=by omega
    have q:¬((a.sz:Int)<=left):=by rw[hs]<;>push_cast<;>omega
    rw[av q];simp[e0,n0,e1,n1,e2,n2]
  ·have n1:left-(((a.dn).length:Nat):Int)-(((a.Name).length:Nat):Int)<0:=by omega
   have q:¬((a.sz:Int)<=left):=by rw[hs]<;>push_cast<;>omega
   rw[av q];simp[e0,n0,e1,n1]
 ·have n0:left-(((a.dn).length:Nat):Int)<0:=by omega
  have q:¬((a.sz:Int)<=left):=by rw[hs]<;>push_cast<;>omega
  rw[av q];simp[e0,n0]
theorem ayG(a:ar)(h:a.sz<=1048576):M.C5 a=some a:=by
 unfold M.C5;have hs:=ar.bQ a
 try simp only[aa.ai,aw.ai,ay.ai,aF.ai]
 have e3:=ahx (a.bI) (by omega);have e4:=ayD (a.Funcs) (by omega)
 try simp[e3,e4]
theorem ayH(a:ar)(h:a.sz<=1048576):M.Be a a=some true:=by
 unfold M.Be;have hs:=ar.bQ a
 try simp only[aa.ai,aw.ai,ay.ai,aF.ai]
 have e3:=ahy (a.bI) (by omega);have e4:=ayE (a.Funcs) (by omega)
 try simp[e3,e4]
theorem ahF(a:List ar)(left:Int)(ok:ei ar.Ok a)(h0:0<=left)(h1:left<=1048576):M.xY a left=some (if(az ar.sz a:Int)<=left then left-az ar.sz a else -1):=by
 have hl:=ok.1;unfold M.xY;rw[wrap_i64 (by omega) (by omega)];refine pF (f:=ar.sz) (F:=M.wj  a) a left h0 h1 (fun g k l h2 h3 hk=>?_) (fun g l=>?_)
 ·have hn:k<2^62:=by omega
  rw[M.wj];have e:=ayF a[k] l (ok.2 _ (bG hk)) h2 (by omega);by_cases d:((ar.sz a[k]:Nat):Int)<=l
  ·have n:¬(l-((ar.sz a[k]:Nat):Int)<0):=by omega
   rw[aE d]at e⊢;simp[hk,getD_lt hk,e,n,bw hk (show a.length<2^62 by omega),aa.ai,aw.ai,ay.ai,aF.ai]
  ·rw[av d]at e⊢;simp[hk,getD_lt hk,e,aa.ai,aw.ai,ay.ai,aF.ai]
 ·rw[M.wj];simp
theorem ahG(a:List ar)(ha:az ar.sz a<=1048576):M.yQ a=some a:=by
 have hl:=cm ar.sz a;have hn:a.length<=1048576:=by omega
 have hi:(a.length:Int)<=1073741824:=by omega
 have q:∀z,z.length=a.length->M.sL  a Go.V.af 0 z=some a:=m3 (F:=M.sL  a) a (by omega) (fun f k out h1 h2 hk=>by
  rw[M.sL];have e:=ayG a[k] (by have:=dr ar.sz a a[k] (bG hk);omega);simp[hk,h2,getD_lt hk,e,bw hk (cC hn),aa.ai,aw.ai,ay.ai,aF.ai]) (fun f out=>by rw[M.sL];simp)
 unfold M.yQ;rw[q _ (by simp)];simp[hi]
theorem ahH(a:List ar)(ha:az ar.sz a<=1048576):M.xX a a=some true:=by
 have hl:=cm ar.sz a;have hn:a.length<=1048576:=by omega
 unfold M.xX;refine m4 (F:=M.u6  a a) a hn (fun f k hk=>?_) (fun f=>?_)
 ·rw[M.u6];have e:=ayH a[k] (by have:=dr ar.sz a a[k] (bG hk);omega);simp[hk,getD_lt hk,e,bw hk (cC hn),aa.ai,aw.ai,ay.ai,aF.ai]
 ·rw[M.u6];simp
theorem ayI(a:bK)(left:Int)(ok:a.Ok)(h0:0<=left)(h1:left<=1048576):M.Bg a left=some (if(a.sz:Int)<=left then left-a.sz else -1):=by
 unfold M.Bg;have hs:=bK.bQ a;have ok1:=(bK.ok_eq a).1 ok
 try simp only[aa.ai,aw.ai,ay.ai,aF.ai]
 have e0:Go.IntKind.wrap .i64 (left-((a.aT).length:Int))=left-((a.aT).length:Int):=wrap_i64 (by have:=ok1.1;unfold cN at this;omega) (by omega);by_cases c0:(((a.aT).length:Nat):Int)<=left
 ·skip
  have n0:¬(left-(((a.aT).length:Nat):Int)<0):=by omega
  have e1:Go.IntKind.wrap .i64 (left-(((a.aT).length:Nat):Int)-((a.Func).length:Int))=left-(((a.aT).length:Nat):Int)-((a.Func).length:Int):=wrap_i64 (by have:=ok1.2.1;unfold cN at this;omega) (by omega);by_cases c1:(((a.Func).length:Nat):Int)<=left-(((a.aT).length:Nat):Int)
  ·skip
   have n1:¬(left-(((a.aT).length:Nat):Int)-(((a.Func).length:Nat):Int)<0):=by omega
   have e2:Go.IntKind.wrap .i64 (left-(((a.aT).length:Nat):Int)-(((a.Func).length:Nat):Int)-((a.Core).length:Int))=left-(((a.aT).length:Nat):Int)-(((a.Func).length:Nat):Int)-((a.Core).length:Int):=wrap_i64 (by have:=ok1.2.2.1;unfold cN at this;omega) (by omega);by_cases c2:(((a.Core).length:Nat):Int)<=left-(((a.aT).length:Nat):Int)-(((a.Func).length:Nat):Int)
   ·skip
    have n2:¬(left-(((a.aT).length:Nat):Int)-(((a.Func).length:Nat):Int)-(((a.Core).length:Nat):Int)<0):=by omega
    have q:(a.sz:Int)<=left:=by rw[hs]<;>push_cast<;>omega
    have q2:left-(a.sz:Int)=left-(((a.aT).length:Nat):Int)-(((a.Func).length:Nat):Int)-(((a.Core).length:Nat):Int):=by rw[hs]<;>push_cast<;>omega
    rw[aE q,q2];simp[e0,n0,e1,n1,e2,n2]
   ·have n2:left-(((a.aT).length:Nat):Int)-(((a.Func).length:Nat):Int)-(((a.Core).length:Nat):Int)<0:=by omega
    have q:¬((a.sz:Int)<=left):=by rw[hs]<;>push_cast<;>omega
    rw[av q];simp[e0,n0,e1,n1,e2,n2]
  ·have n1:left-(((a.aT).length:Nat):Int)-(((a.Func).length:Nat):Int)<0:=by omega
   have q:¬((a.sz:Int)<=left):=by rw[hs]<;>push_cast<;>omega
   rw[av q];simp[e0,n0,e1,n1]
 ·have n0:left-(((a.aT).length:Nat):Int)<0:=by omega
  have q:¬((a.sz:Int)<=left):=by rw[hs]<;>push_cast<;>omega
  rw[av q];simp[e0,n0]
theorem ayJ(a:bK)(h:a.sz<=1048576):M.IH a=some a:=by
 unfold M.IH;have hs:=bK.bQ a
 try simp only[aa.ai,aw.ai,ay.ai,aF.ai]
 try simp[]
theorem ayK(a:bK)(h:a.sz<=1048576):M.BN a a=some true:=by
 unfold M.BN;have hs:=bK.bQ a
 try simp only[aa.ai,aw.ai,ay.ai,aF.ai]
 try simp[]
theorem ayL(a:List bK)(left:Int)(ok:ei bK.Ok a)(h0:0<=left)(h1:left<=1048576):M.Bh a left=some (if(az bK.sz a:Int)<=left then left-az bK.sz a else -1):=by
 have hl:=ok.1;unfold M.Bh;rw[wrap_i64 (by omega) (by omega)];refine pF (f:=bK.sz) (F:=M.u7  a) a left h0 h1 (fun g k l h2 h3 hk=>?_) (fun g l=>?_)
 ·have hn:k<2^62:=by omega
  rw[M.u7];have e:=ayI a[k] l (ok.2 _ (bG hk)) h2 (by omega);by_cases d:((bK.sz a[k]:Nat):Int)<=l
  ·have n:¬(l-((bK.sz a[k]:Nat):Int)<0):=by omega
   rw[aE d]at e⊢;simp[hk,getD_lt hk,e,n,bw hk (show a.length<2^62 by omega),aa.ai,aw.ai,ay.ai,aF.ai]
  ·rw[av d]at e⊢;simp[hk,getD_lt hk,e,aa.ai,aw.ai,ay.ai,aF.ai]
 ·rw[M.u7];simp
theorem ayM(a:List bK)(ha:az bK.sz a<=1048576):M.Dc a=some a:=by
 have hl:=cm bK.sz a;have hn:a.length<=1048576:=by omega
 have hi:(a.length:Int)<=1073741824:=by omega
 have q:∀z,z.length=a.length->M.sP  a Go.V.af 0 z=some a:=m3 (F:=M.sP  a) a (by omega) (fun f k out h1 h2 hk=>by
  rw[M.sP];have e:=ayJ a[k] (by have:=dr bK.sz a a[k] (bG hk);omega);simp[hk,h2,getD_lt hk,e,bw hk (cC hn),aa.ai,aw.ai,ay.ai,aF.ai]) (fun f out=>by rw[M.sP];simp)
 unfold M.Dc;rw[q _ (by simp)];simp[hi]
theorem ayN(a:List bK)(ha:az bK.sz a<=1048576):M.BO a a=some true:=by
 have hl:=cm bK.sz a;have hn:a.length<=1048576:=by omega
 unfold M.BO;refine m4 (F:=M.vn  a a) a hn (fun f k hk=>?_) (fun f=>?_)
 ·rw[M.vn];have e:=ayK a[k] (by have:=dr bK.sz a a[k] (bG hk);omega);simp[hk,getD_lt hk,e,bw hk (cC hn),aa.ai,aw.ai,ay.ai,aF.ai]
 ·rw[M.vn];simp
theorem ayO(a:bH)(left:Int)(ok:a.Ok)(h0:0<=left)(h1:left<=1048576):M.Bi a left=some (if(a.sz:Int)<=left then left-a.sz else -1):=by
 unfold M.Bi;have hs:=bH.bQ a;have ok1:=(bH.ok_eq a).1 ok
 try simp only[aa.ai,aw.ai,ay.ai,aF.ai]
 have e0:Go.IntKind.wrap .i64 (left-((a.aT).length:Int))=left-((a.aT).length:Int):=wrap_i64 (by have:=ok1.1;unfold cN at this;omega) (by omega);by_cases c0:(((a.aT).length:Nat):Int)<=left
 ·skip
  have n0:¬(left-(((a.aT).length:Nat):Int)<0):=by omega
  have e1:Go.IntKind.wrap .i64 (left-(((a.aT).length:Nat):Int)-((a.Func).length:Int))=left-(((a.aT).length:Nat):Int)-((a.Func).length:Int):=wrap_i64 (by have:=ok1.2.1;unfold cN at this;omega) (by omega);by_cases c1:(((a.Func).length:Nat):Int)<=left-(((a.aT).length:Nat):Int)
  ·skip
   have n1:¬(left-(((a.aT).length:Nat):Int)-(((a.Func).length:Nat):Int)<0):=by omega
   have e2:Go.IntKind.wrap .i64 (left-(((a.aT).length:Nat):Int)-(((a.Func).length:Nat):Int)-((a.Import).length:Int))=left-(((a.aT).length:Nat):Int)-(((a.Func).length:Nat):Int)-((a.Import).length:Int):=wrap_i64 (by have:=ok1.2.2.1;unfold cN at this;omega) (by omega);by_cases c2:(((a.Import).length:Nat):Int)<=left-(((a.aT).length:Nat):Int)-(((a.Func).length:Nat):Int)
   ·skip
    have n2:¬(left-(((a.aT).length:Nat):Int)-(((a.Func).length:Nat):Int)-(((a.Import).length:Nat):Int)<0):=by omega
    have q:(a.sz:Int)<=left:=by rw[hs]<;>push_cast<;>omega
    have q2:left-(a.sz:Int)=left-(((a.aT).length:Nat):Int)-(((a.Func).length:Nat):Int)-(((a.Import).length:Nat):Int):=by rw[hs]<;>push_cast<;>omega
    rw[aE q,q2];simp[e0,n0,e1,n1,e2,n2]
   ·have n2:left-(((a.aT).length:Nat):Int)-(((a.Func).length:Nat):Int)-(((a.Import).length:Nat):Int)<0:=by omega
    have q:¬((a.sz:Int)<=left):=by rw[hs]<;>push_cast<;>omega
    rw[av q];simp[e0,n0,e1,n1,e2,n2]
  ·have n1:left-(((a.aT).length:Nat):Int)-(((a.Func).length:Nat):Int)<0:=by omega
   have q:¬((a.sz:Int)<=left):=by rw[hs]<;>push_cast<;>omega
   rw[av q];simp[e0,n0,e1,n1]
 ·have n0:left-(((a.aT).length:Nat):Int)<0:=by omega
  have q:¬((a.sz:Int)<=left):=by rw[hs]<;>push_cast<;>omega
  rw[av q];simp[e0,n0]
theorem ayP(a:bH)(h:a.sz<=1048576):M.IJ a=some a:=by
 unfold M.IJ;have hs:=bH.bQ a
 try simp only[aa.ai,aw.ai,ay.ai,aF.ai]
 try simp[]
theorem ayQ(a:bH)(h:a.sz<=1048576):M.BP a a=some true:=by
 unfold M.BP;have hs:=bH.bQ a
 try simp only[aa.ai,aw.ai,ay.ai,aF.ai]
 try simp[]
theorem ayR(a:List bH)(left:Int)(ok:ei bH.Ok a)(h0:0<=left)(h1:left<=1048576):M.Bj a left=some (if(az bH.sz a:Int)<=left then left-az bH.sz a else -1):=by
 have hl:=ok.1;unfold M.Bj;rw[wrap_i64 (by omega) (by omega)];refine pF (f:=bH.sz) (F:=M.vc  a) a left h0 h1 (fun g k l h2 h3 hk=>?_) (fun g l=>?_)
 ·have hn:k<2^62:=by omega
  rw[M.vc];have e:=ayO a[k] l (ok.2 _ (bG hk)) h2 (by omega);by_cases d:((bH.sz a[k]:Nat):Int)<=l
  ·have n:¬(l-((bH.sz a[k]:Nat):Int)<0):=by omega
   rw[aE d]at e⊢;simp[hk,getD_lt hk,e,n,bw hk (show a.length<2^62 by omega),aa.ai,aw.ai,ay.ai,aF.ai]
  ·rw[av d]at e⊢;simp[hk,getD_lt hk,e,aa.ai,aw.ai,ay.ai,aF.ai]
 ·rw[M.vc];simp
theorem ayS(a:List bH)(ha:az bH.sz a<=1048576):M.Df a=some a:=by
 have hl:=cm bH.sz a;have hn:a.length<=1048576:=by omega
 have hi:(a.length:Int)<=1073741824:=by omega
 have q:∀z,z.length=a.length->M.sQ  a Go.V.af 0 z=some a:=m3 (F:=M.sQ  a) a (by omega) (fun f k out h1 h2 hk=>by
  rw[M.sQ];have e:=ayP a[k] (by have:=dr bH.sz a a[k] (bG hk);omega);simp[hk,h2,getD_lt hk,e,bw hk (cC hn),aa.ai,aw.ai,ay.ai,aF.ai]) (fun f out=>by rw[M.sQ];simp)
 unfold M.Df;rw[q _ (by simp)];simp[hi]
theorem ayT(a:List bH)(ha:az bH.sz a<=1048576):M.BQ a a=some true:=by
 have hl:=cm bH.sz a;have hn:a.length<=1048576:=by omega
 unfold M.BQ;refine m4 (F:=M.vo  a a) a hn (fun f k hk=>?_) (fun f=>?_)
 ·rw[M.vo];have e:=ayQ a[k] (by have:=dr bH.sz a a[k] (bG hk);omega);simp[hk,getD_lt hk,e,bw hk (cC hn),aa.ai,aw.ai,ay.ai,aF.ai]
 ·rw[M.vo];simp
theorem ayU(a:aG)(h:a.sz<=1048576):M.IE a=some a:=by
 unfold M.IE;have hs:=aG.bQ a
 try simp only[aa.ai,aw.ai,ay.ai,aF.ai]
 try simp[]
theorem ayV(a:aG)(h:a.sz<=1048576):M.DR a a=some true:=by
 unfold M.DR;have hs:=aG.bQ a
 try simp only[aa.ai,aw.ai,ay.ai,aF.ai]
 try simp[]
theorem ayW(a:List aG)(left:Int)(ok:ei aG.Ok a)(h0:0<=left)(h1:left<=1048576):M.Dp a left=some (if(az aG.sz a:Int)<=left then left-az aG.sz a else -1):=by
 have hl:=ok.1;unfold M.Dp;rw[wrap_i64 (by omega) (by omega)];exact ayX (f:=aG.sz) (fun _=>rfl) a left h0
theorem ayY(a:List aG)(ha:az aG.sz a<=1048576):M.C7 a=some a:=by
 have hl:=cm aG.sz a;have hn:a.length<=1048576:=by omega
 have hi:(a.length:Int)<=1073741824:=by omega
 have q:∀z,z.length=a.length->M.sN  a Go.V.af 0 z=some a:=m3 (F:=M.sN  a) a (by omega) (fun f k out h1 h2 hk=>by
  rw[M.sN];have e:=ayU a[k] (by have:=dr aG.sz a a[k] (bG hk);omega);simp[hk,h2,getD_lt hk,e,bw hk (cC hn),aa.ai,aw.ai,ay.ai,aF.ai]) (fun f out=>by rw[M.sN];simp)
 unfold M.C7;rw[q _ (by simp)];simp[hi]
theorem ayZ(a:List aG)(ha:az aG.sz a<=1048576):M.DT a a=some true:=by
 have hl:=cm aG.sz a;have hn:a.length<=1048576:=by omega
 unfold M.DT;refine m4 (F:=M.vR  a a) a hn (fun f k hk=>?_) (fun f=>?_)
 ·rw[M.vR];have e:=ayV a[k] (by have:=dr aG.sz a a[k] (bG hk);omega);simp[hk,getD_lt hk,e,bw hk (cC hn),aa.ai,aw.ai,ay.ai,aF.ai]
 ·rw[M.vR];simp
theorem ay0(a:an)(left:Int)(ok:a.Ok)(h0:0<=left)(h1:left<=1048576):M.Dq a left=some (if(a.sz:Int)<=left then left-a.sz else -1):=by
 unfold M.Dq;have hs:=an.bQ a;have ok1:=(an.ok_eq a).1 ok
 try simp only[aa.ai,aw.ai,ay.ai,aF.ai]
 have e0:Go.IntKind.wrap .i64 (left-((a.Name).length:Int))=left-((a.Name).length:Int):=wrap_i64 (by have:=ok1.1;unfold cN at this;omega) (by omega);by_cases c0:(((a.Name).length:Nat):Int)<=left
 ·skip
  have n0:¬(left-(((a.Name).length:Nat):Int)<0):=by omega
  have e1:=ayW (a.Code) (left-(((a.Name).length:Nat):Int)) ok1.2.2.2.2.1 (by omega) (by omega);by_cases c1:((az aG.sz (a.Code):Nat):Int)<=left-(((a.Name).length:Nat):Int)
  ·rw[aE c1]at e1;have n1:¬(left-(((a.Name).length:Nat):Int)-((az aG.sz (a.Code):Nat):Int)<0):=by omega
   have q:(a.sz:Int)<=left:=by rw[hs]<;>push_cast<;>omega
   have q2:left-(a.sz:Int)=left-(((a.Name).length:Nat):Int)-((az aG.sz (a.Code):Nat):Int):=by rw[hs]<;>push_cast<;>omega
   rw[aE q,q2];simp[e0,n0,e1,n1]
  ·rw[av c1]at e1;have q:¬((a.sz:Int)<=left):=by rw[hs]<;>push_cast<;>omega
   rw[av q];simp[e0,n0,e1]
 ·have n0:left-(((a.Name).length:Nat):Int)<0:=by omega
  have q:¬((a.sz:Int)<=left):=by rw[hs]<;>push_cast<;>omega
  rw[av q];simp[e0,n0]
theorem ay1(a:an)(h:a.sz<=1048576):M.C9 a=some a:=by
 unfold M.C9;have hs:=an.bQ a
 try simp only[aa.ai,aw.ai,ay.ai,aF.ai]
 have e4:=ayY (a.Code) (by omega)
 try simp[e4]
theorem ay2(a:an)(h:a.sz<=1048576):M.DU a a=some true:=by
 unfold M.DU;have hs:=an.bQ a
 try simp only[aa.ai,aw.ai,ay.ai,aF.ai]
 have e4:=ayZ (a.Code) (by omega)
 try simp[e4]
theorem ay3(a:List an)(left:Int)(ok:ei an.Ok a)(h0:0<=left)(h1:left<=1048576):M.Ds a left=some (if(az an.sz a:Int)<=left then left-az an.sz a else -1):=by
 have hl:=ok.1;unfold M.Ds;rw[wrap_i64 (by omega) (by omega)];refine pF (f:=an.sz) (F:=M.vK  a) a left h0 h1 (fun g k l h2 h3 hk=>?_) (fun g l=>?_)
 ·have hn:k<2^62:=by omega
  rw[M.vK];have e:=ay0 a[k] l (ok.2 _ (bG hk)) h2 (by omega);by_cases d:((an.sz a[k]:Nat):Int)<=l
  ·have n:¬(l-((an.sz a[k]:Nat):Int)<0):=by omega
   rw[aE d]at e⊢;simp[hk,getD_lt hk,e,n,bw hk (show a.length<2^62 by omega),aa.ai,aw.ai,ay.ai,aF.ai]
  ·rw[av d]at e⊢;simp[hk,getD_lt hk,e,aa.ai,aw.ai,ay.ai,aF.ai]
 ·rw[M.vK];simp
theorem ay4(a:List an)(ha:az an.sz a<=1048576):M.Da a=some a:=by
 have hl:=cm an.sz a;have hn:a.length<=1048576:=by omega
 have hi:(a.length:Int)<=1073741824:=by omega
 have q:∀z,z.length=a.length->M.sO  a Go.V.af 0 z=some a:=m3 (F:=M.sO  a) a (by omega) (fun f k out h1 h2 hk=>by
  rw[M.sO];have e:=ay1 a[k] (by have:=dr an.sz a a[k] (bG hk);omega);simp[hk,h2,getD_lt hk,e,bw hk (cC hn),aa.ai,aw.ai,ay.ai,aF.ai]) (fun f out=>by rw[M.sO];simp)
 unfold M.Da;rw[q _ (by simp)];simp[hi]
theorem ay5(a:List an)(ha:az an.sz a<=1048576):M.DV a a=some true:=by
 have hl:=cm an.sz a;have hn:a.length<=1048576:=by omega
 unfold M.DV;refine m4 (F:=M.vS  a a) a hn (fun f k hk=>?_) (fun f=>?_)
 ·rw[M.vS];have e:=ay2 a[k] (by have:=dr an.sz a a[k] (bG hk);omega);simp[hk,getD_lt hk,e,bw hk (cC hn),aa.ai,aw.ai,ay.ai,aF.ai]
 ·rw[M.vS];simp
theorem ay6(a:aN)(left:Int)(ok:a.Ok)(h0:0<=left)(h1:left<=1048576):M.Dm a left=some (if(a.sz:Int)<=left then left-a.sz else -1):=by
 unfold M.Dm;have hs:=aN.bQ a;have ok1:=(aN.ok_eq a).1 ok
 try simp only[aa.ai,aw.ai,ay.ai,aF.ai]
 have e0:Go.IntKind.wrap .i64 (left-((a.Name).length:Int))=left-((a.Name).length:Int):=wrap_i64 (by have:=ok1.1;unfold cN at this;omega) (by omega);by_cases c0:(((a.Name).length:Nat):Int)<=left
 ·skip
  have n0:¬(left-(((a.Name).length:Nat):Int)<0):=by omega
  have q:(a.sz:Int)<=left:=by rw[hs]<;>push_cast<;>omega
  have q2:left-(a.sz:Int)=left-(((a.Name).length:Nat):Int):=by rw[hs]<;>push_cast<;>omega
  rw[aE q,q2];simp[e0,n0]
 ·have n0:left-(((a.Name).length:Nat):Int)<0:=by omega
  have q:¬((a.sz:Int)<=left):=by rw[hs]<;>push_cast<;>omega
  rw[av q];simp[e0,n0]
theorem ay7(a:aN)(h:a.sz<=1048576):M.IC a=some a:=by
 unfold M.IC;have hs:=aN.bQ a
 try simp only[aa.ai,aw.ai,ay.ai,aF.ai]
 try simp[]
theorem ay8(a:aN)(h:a.sz<=1048576):M.DN a a=some true:=by
 unfold M.DN;have hs:=aN.bQ a
 try simp only[aa.ai,aw.ai,ay.ai,aF.ai]
 try simp[]
theorem ay9(a:List aN)(left:Int)(ok:ei aN.Ok a)(h0:0<=left)(h1:left<=1048576):M.Dn a left=some (if(az aN.sz a:Int)<=left then left-az aN.sz a else -1):=by
 have hl:=ok.1;unfold M.Dn;rw[wrap_i64 (by omega) (by omega)];refine pF (f:=aN.sz) (F:=M.vJ  a) a left h0 h1 (fun g k l h2 h3 hk=>?_) (fun g l=>?_)
 ·have hn:k<2^62:=by omega
  rw[M.vJ];have e:=ay6 a[k] l (ok.2 _ (bG hk)) h2 (by omega);by_cases d:((aN.sz a[k]:Nat):Int)<=l
  ·have n:¬(l-((aN.sz a[k]:Nat):Int)<0):=by omega
   rw[aE d]at e⊢;simp[hk,getD_lt hk,e,n,bw hk (show a.length<2^62 by omega),aa.ai,aw.ai,ay.ai,aF.ai]
  ·rw[av d]at e⊢;simp[hk,getD_lt hk,e,aa.ai,aw.ai,ay.ai,aF.ai]
 ·rw[M.vJ];simp
theorem aza(a:List aN)(ha:az aN.sz a<=1048576):M.C6 a=some a:=by
 have hl:=cm aN.sz a;have hn:a.length<=1048576:=by omega
 have hi:(a.length:Int)<=1073741824:=by omega
 have q:∀z,z.length=a.length->M.sM  a Go.V.af 0 z=some a:=m3 (F:=M.sM  a) a (by omega) (fun f k out h1 h2 hk=>by
  rw[M.sM];have e:=ay7 a[k] (by have:=dr aN.sz a a[k] (bG hk);omega);simp[hk,h2,getD_lt hk,e,bw hk (cC hn),aa.ai,aw.ai,ay.ai,aF.ai]) (fun f out=>by rw[M.sM];simp)
 unfold M.C6;rw[q _ (by simp)];simp[hi]
theorem azb(a:List aN)(ha:az aN.sz a<=1048576):M.DO a a=some true:=by
 have hl:=cm aN.sz a;have hn:a.length<=1048576:=by omega
 unfold M.DO;refine m4 (F:=M.vQ  a a) a hn (fun f k hk=>?_) (fun f=>?_)
 ·rw[M.vQ];have e:=ay8 a[k] (by have:=dr aN.sz a a[k] (bG hk);omega);simp[hk,getD_lt hk,e,bw hk (cC hn),aa.ai,aw.ai,ay.ai,aF.ai]
 ·rw[M.vQ];simp
theorem azc(a:aM)(left:Int)(ok:a.Ok)(h0:0<=left)(h1:left<=1048576):M.Bn a left=some (if(a.sz:Int)<=left then left-a.sz else -1):=by
 unfold M.Bn;have hs:=aM.bQ a;have ok1:=(aM.ok_eq a).1 ok
 try simp only[aa.ai,aw.ai,ay.ai,aF.ai]
 have e0:=ay9 (a.al) (left) ok1.2.1 (by omega) (by omega);by_cases c0:((az aN.sz (a.al):Nat):Int)<=left
 ·rw[aE c0]at e0;have n0:¬(left-((az aN.sz (a.al):Nat):Int)<0):=by omega
  have e1:=ay3 (a.aI) (left-((az aN.sz (a.al):Nat):Int)) ok1.2.2.1 (by omega) (by omega);by_cases c1:((az an.sz (a.aI):Nat):Int)<=left-((az aN.sz (a.al):Nat):Int)
  ·rw[aE c1]at e1;have n1:¬(left-((az aN.sz (a.al):Nat):Int)-((az an.sz (a.aI):Nat):Int)<0):=by omega
   have q:(a.sz:Int)<=left:=by rw[hs]<;>push_cast<;>omega
   have q2:left-(a.sz:Int)=left-((az aN.sz (a.al):Nat):Int)-((az an.sz (a.aI):Nat):Int):=by rw[hs]<;>push_cast<;>omega
   rw[aE q,q2];simp[e0,n0,e1,n1]
  ·rw[av c1]at e1;have q:¬((a.sz:Int)<=left):=by rw[hs]<;>push_cast<;>omega
   rw[av q];simp[e0,n0,e1]
 ·rw[av c0]at e0;have q:¬((a.sz:Int)<=left):=by rw[hs]<;>push_cast<;>omega
  rw[av q];simp[e0]
theorem azd(a:aM)(h:a.sz<=1048576):M.Db a=some a:=by
 unfold M.Db;have hs:=aM.bQ a
 try simp only[aa.ai,aw.ai,ay.ai,aF.ai]
 have e1:=aza (a.al) (by omega);have e2:=ay4 (a.aI) (by omega)
 try simp[e1,e2]
theorem aze(a:aM)(h:a.sz<=1048576):M.BV a a=some true:=by
 unfold M.BV;have hs:=aM.bQ a
 try simp only[aa.ai,aw.ai,ay.ai,aF.ai]
 have e1:=azb (a.al) (by omega);have e2:=ay5 (a.aI) (by omega)
 try simp[e1,e2]
theorem azf(a:aP)(left:Int)(ok:a.Ok)(h0:0<=left)(h1:left<=1048576):M.Bo a left=some (if(a.sz:Int)<=left then left-a.sz else -1):=by
 unfold M.Bo;have hs:=aP.bQ a;have ok1:=(aP.ok_eq a).1 ok
 try simp only[aa.ai,aw.ai,ay.ai,aF.ai]
 have e0:Go.IntKind.wrap .i64 (left-((a.Name).length:Int))=left-((a.Name).length:Int):=wrap_i64 (by have:=ok1.1;unfold cN at this;omega) (by omega);by_cases c0:(((a.Name).length:Nat):Int)<=left
 ·skip
  have n0:¬(left-(((a.Name).length:Nat):Int)<0):=by omega
  have e1:Go.IntKind.wrap .i64 (left-(((a.Name).length:Nat):Int)-((a.Version).length:Int))=left-(((a.Name).length:Nat):Int)-((a.Version).length:Int):=wrap_i64 (by have:=ok1.2.1;unfold cN at this;omega) (by omega);by_cases c1:(((a.Version).length:Nat):Int)<=left-(((a.Name).length:Nat):Int)
  ·skip
   have n1:¬(left-(((a.Name).length:Nat):Int)-(((a.Version).length:Nat):Int)<0):=by omega
   have e2:=ahF (a.al) (left-(((a.Name).length:Nat):Int)-(((a.Version).length:Nat):Int)) ok1.2.2.1 (by omega) (by omega);by_cases c2:((az ar.sz (a.al):Nat):Int)<=left-(((a.Name).length:Nat):Int)-(((a.Version).length:Nat):Int)
   ·rw[aE c2]at e2;have n2:¬(left-(((a.Name).length:Nat):Int)-(((a.Version).length:Nat):Int)-((az ar.sz (a.al):Nat):Int)<0):=by omega
    have e3:=ahF (a.bM) (left-(((a.Name).length:Nat):Int)-(((a.Version).length:Nat):Int)-((az ar.sz (a.al):Nat):Int)) ok1.2.2.2.1 (by omega) (by omega);by_cases c3:((az ar.sz (a.bM):Nat):Int)<=left-(((a.Name).length:Nat):Int)-(((a.Version).length:Nat):Int)-((az ar.sz (a.al):Nat):Int)
    ·rw[aE c3]at e3;have n3:¬(left-(((a.Name).length:Nat):Int)-(((a.Version).length:Nat):Int)-((az ar.sz (a.al):Nat):Int)-((az ar.sz (a.bM):Nat):Int)<0):=by omega
     have e4:=azc (a.Module) (left-(((a.Name).length:Nat):Int)-(((a.Version).length:Nat):Int)-((az ar.sz (a.al):Nat):Int)-((az ar.sz (a.bM):Nat):Int)) ok1.2.2.2.2.2.2.1 (by omega) (by omega);by_cases c4:(((a.Module).sz:Nat):Int)<=left-(((a.Name).length:Nat):Int)-(((a.Version).length:Nat):Int)-((az ar.sz (a.al):Nat):Int)-((az ar.sz (a.bM):Nat):Int)
     ·rw[aE c4]at e4;have n4:¬(left-(((a.Name).length:Nat):Int)-(((a.Version).length:Nat):Int)-((az ar.sz (a.al):Nat):Int)-((az ar.sz (a.bM):Nat):Int)-(((a.Module).sz:Nat):Int)<0):=by omega
      have e5:=ayL (a.bT) (left-(((a.Name).length:Nat):Int)-(((a.Version).length:Nat):Int)-((az ar.sz (a.al):Nat):Int)-((az ar.sz (a.bM):Nat):Int)-(((a.Module).sz:Nat):Int)) ok1.2.2.2.2.2.2.2.1 (by omega) (by omega);by_cases c5:((az bK.sz (a.bT):Nat):Int)<=left-(((a.Name).length:Nat):Int)-(((a.Version).length:Nat):Int)-((az ar.sz (a.al):Nat):Int)-((az ar.sz (a.bM):Nat):Int)-(((a.Module).sz:Nat):Int)
      ·rw[aE c5]at e5;have n5:¬(left-(((a.Name).length:Nat):Int)-(((a.Version).length:Nat):Int)-((az ar.sz (a.al):Nat):Int)-((az ar.sz (a.bM):Nat):Int)-(((a.Module).sz:Nat):Int)-((az bK.sz (a.bT):Nat):Int)<0):=by omega
       have e6:=ayR (a.bL) (left-(((a.Name).length:Nat):Int)-(((a.Version).length:Nat):Int)-((az ar.sz (a.al):Nat):Int)-((az ar.sz (a.bM):Nat):Int)-(((a.Module).sz:Nat):Int)-((az bK.sz (a.bT):Nat):Int)) ok1.2.2.2.2.2.2.2.2.1 (by omega) (by omega);by_cases c6:((az bH.sz (a.bL):Nat):Int)<=left-(((a.Name).length:Nat):Int)-(((a.Version).length:Nat):Int)-((az ar.sz (a.al):Nat):Int)-((az ar.sz (a.bM):Nat):Int)-(((a.Module).sz:Nat):Int)-((az bK.sz (a.bT):Nat):Int)
       ·rw[aE c6]at e6;have n6:¬(left-(((a.Name).length:Nat):Int)-(((a.Version).length:Nat):Int)-((az ar.sz (a.al):Nat):Int)-((az ar.sz (a.bM):Nat):Int)-(((a.Module).sz:Nat):Int)-((az bK.sz (a.bT):Nat):Int)-((az bH.sz (a.bL):Nat):Int)<0):=by omega
        have e7:=ayk (a.Builtins) (left-(((a.Name).length:Nat):Int)-(((a.Version).length:Nat):Int)-((az ar.sz (a.al):Nat):Int)-((az ar.sz (a.bM):Nat):Int)-(((a.Module).sz:Nat):Int)-((az bK.sz (a.bT):Nat):Int)-((az bH.sz (a.bL):Nat):Int)) ok1.2.2.2.2.2.2.2.2.2.1 (by omega) (by omega);by_cases c7:((az bF.sz (a.Builtins):Nat):Int)<=left-(((a.Name).length:Nat):Int)-(((a.Version).length:Nat):Int)-((az ar.sz (a.al):Nat):Int)-((az ar.sz (a.bM):Nat):Int)-(((a.Module).sz:Nat):Int)-((az bK.sz (a.bT):Nat):Int)-((az bH.sz (a.bL):Nat):Int)
        ·rw[aE c7]at e7;have n7:¬(left-(((a.Name).length:Nat):Int)-(((a.Version).length:Nat):Int)-((az ar.sz (a.al):Nat):Int)-((az ar.sz (a.bM):Nat):Int)-(((a.Module).sz:Nat):Int)-((az bK.sz (a.bT):Nat):Int)-((az bH.sz (a.bL):Nat):Int)-((az bF.sz (a.Builtins):Nat):Int)<0):=by omega
         have q:(a.sz:Int)<=left:=by rw[hs]<;>push_cast<;>omega
         have q2:left-(a.sz:Int)=left-(((a.Name).length:Nat):Int)-(((a.Version).length:Nat):Int)-((az ar.sz (a.al):Nat):Int)-((az ar.sz (a.bM):Nat):Int)-(((a.Module).sz:Nat):Int)-((az bK.sz (a.bT):Nat):Int)-((az bH.sz (a.bL):Nat):Int)-((az bF.sz (a.Builtins):Nat):Int):=by rw[hs]<;>push_cast<;>omega
         rw[aE q,q2];simp[e0,n0,e1,n1,e2,n2,e3,n3,e4,n4,e5,n5,e6,n6,e7,n7]
        ·rw[av c7]at e7;have q:¬((a.sz:Int)<=left):=by rw[hs]<;>push_cast<;>omega
         rw[av q];simp[e0,n0,e1,n1,e2,n2,e3,n3,e4,n4,e5,n5,e6,n6,e7]
       ·rw[av c6]at e6;have q:¬((a.sz:Int)<=left):=by rw[hs]<;>push_cast<;>omega
        rw[av q];simp[e0,n0,e1,n1,e2,n2,e3,n3,e4,n4,e5,n5,e6]
      ·rw[av c5]at e5;have q:¬((a.sz:Int)<=left):=by rw[hs]<;>push_cast<;>omega
       rw[av q];simp[e0,n0,e1,n1,e2,n2,e3,n3,e4,n4,e5]
     ·rw[av c4]at e4;have q:¬((a.sz:Int)<=left):=by rw[hs]<;>push_cast<;>omega
      rw[av q];simp[e0,n0,e1,n1,e2,n2,e3,n3,e4]
    ·rw[av c3]at e3;have q:¬((a.sz:Int)<=left):=by rw[hs]<;>push_cast<;>omega
     rw[av q];simp[e0,n0,e1,n1,e2,n2,e3]
   ·rw[av c2]at e2;have q:¬((a.sz:Int)<=left):=by rw[hs]<;>push_cast<;>omega
    rw[av q];simp[e0,n0,e1,n1,e2]
  ·have n1:left-(((a.Name).length:Nat):Int)-(((a.Version).length:Nat):Int)<0:=by omega
   have q:¬((a.sz:Int)<=left):=by rw[hs]<;>push_cast<;>omega
   rw[av q];simp[e0,n0,e1,n1]
 ·have n0:left-(((a.Name).length:Nat):Int)<0:=by omega
  have q:¬((a.sz:Int)<=left):=by rw[hs]<;>push_cast<;>omega
  rw[av q];simp[e0,n0]
theorem azg(a:aP)(h:a.sz<=1048576):M.Di a=some a:=by
 unfold M.Di;have hs:=aP.bQ a
 try simp only[aa.ai,aw.ai,ay.ai,aF.ai]
 have e2:=ahG (a.al) (by omega);have e3:=ahG (a.bM) (by omega);have e6:=azd (a.Module) (by omega);have e7:=ayM (a.bT) (by omega);have e8:=ayS (a.bL) (by omega);have e9:=ayl (a.Builtins) (by omega)
 try simp[e2,e3,e6,e7,e8,e9]
theorem azh(a:aP)(h:a.sz<=1048576):M.BW a a=some true:=by
 unfold M.BW;have hs:=aP.bQ a
 try simp only[aa.ai,aw.ai,ay.ai,aF.ai]
 have e2:=ahH (a.al) (by omega);have e3:=ahH (a.bM) (by omega);have e6:=aze (a.Module) (by omega);have e7:=ayN (a.bT) (by omega);have e8:=ayT (a.bL) (by omega);have e9:=aym (a.Builtins) (by omega)
 try simp[e2,e3,e6,e7,e8,e9]
end M
