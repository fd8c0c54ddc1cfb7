/-
  Part of the proof of the claim.
-/
import Derived.Test.YtembifnelpdbkaaGreatDoorXEFM
import Derived.Test.YtembifnelpdbkaaGreatDoorXElaw
import Derived.Test.YtembifnelpdbkaaGreatDoorXEpl
set_option linter.unusedVariables false
set_option linter.unusedSimpArgs false
namespace M
def gX (s:List UInt8):Prop:=s.length<=9223372036854775807
def Vk {α:Type} (p:α->Prop) (l:List α):Prop:=l.length<=9223372036854775807 /\ ∀x∈l,p x
def aK.sz (a:aK):Nat:=(a.bV).length+(a.gm).length+(a.Import).length
theorem aK.dJ (a:aK):a.sz=(a.bV).length+(a.gm).length+(a.Import).length:=rfl
def aK.Ok (a:aK):Prop:=I64 (a.Kind) /\ gX (a.bV) /\ gX (a.gm) /\ gX (a.Import) /\ True
theorem aK.ok_eq (a:aK):a.Ok↔(I64 (a.Kind) /\ gX (a.bV) /\ gX (a.gm) /\ gX (a.Import) /\ True):=Iff.rfl
mutual
def ae.sz :ae->Nat
 | .mk v0 v1 v2 v3=>(v1).length+fA List.length (v2)+ae.szs v3
def ae.szs :List ae->Nat
 | []=>0
 |t::r=>ae.sz t+1+ae.szs r
end
theorem ae.azW :∀l:List ae,ae.szs l=fA ae.sz l
 | []=>rfl
 |t::r=>by simp only[ae.szs,fA,ae.azW r]
theorem ae.dJ (a:ae):a.sz=(a.Name).length+fA List.length (a.eP)+fA ae.sz (a.Kids):=by cases a;simp only[ae.sz,ae.azW];rfl
mutual
def ae.Ok :ae->Prop
 | .mk v0 v1 v2 v3=>I64 (v0) /\ gX (v1) /\ Vk gX (v2) /\ (v3.length<=9223372036854775807 /\ ae.Oks v3) /\ True
def ae.Oks :List ae->Prop
 | []=>True
 |t::r=>ae.Ok t /\ ae.Oks r
end
theorem ae.ax0 :∀l:List ae,ae.Oks l↔∀x∈l,ae.Ok x
 | []=>by simp[ae.Oks]
 |t::r=>by simp[ae.Oks,ae.ax0 r]
theorem ae.ok_eq (a:ae):a.Ok↔(I64 (a.Kind) /\ gX (a.Name) /\ Vk gX (a.eP) /\ Vk ae.Ok (a.Kids) /\ True):=by
 cases a;simp only[ae.Ok,ae.ax0,Vk];exact Iff.rfl
def az.sz (a:az):Nat:=(a.Name).length+(a.bF).sz
theorem az.dJ (a:az):a.sz=(a.Name).length+(a.bF).sz:=rfl
def az.Ok (a:az):Prop:=gX (a.Name) /\ ae.Ok (a.bF) /\ True
theorem az.ok_eq (a:az):a.Ok↔(gX (a.Name) /\ ae.Ok (a.bF) /\ True):=Iff.rfl
def af.sz (a:af):Nat:=fA az.sz (a.Params)+(a.Result).sz
theorem af.dJ (a:af):a.sz=fA az.sz (a.Params)+(a.Result).sz:=rfl
def af.Ok (a:af):Prop:=Vk az.Ok (a.Params) /\ ae.Ok (a.Result) /\ True /\ True
theorem af.ok_eq (a:af):a.Ok↔(Vk az.Ok (a.Params) /\ ae.Ok (a.Result) /\ True /\ True):=Iff.rfl
def aT.sz (a:aT):Nat:=(a.Name).length+(a.bF).sz
theorem aT.dJ (a:aT):a.sz=(a.Name).length+(a.bF).sz:=rfl
def aT.Ok (a:aT):Prop:=gX (a.Name) /\ af.Ok (a.bF) /\ True
theorem aT.ok_eq (a:aT):a.Ok↔(gX (a.Name) /\ af.Ok (a.bF) /\ True):=Iff.rfl
def aN.sz (a:aN):Nat:=(a.eF).length+(a.Name).length+(a.Version).length+fA List.length (a.aU)+fA aT.sz (a.Funcs)
theorem aN.dJ (a:aN):a.sz=(a.eF).length+(a.Name).length+(a.Version).length+fA List.length (a.aU)+fA aT.sz (a.Funcs):=rfl
def aN.Ok (a:aN):Prop:=gX (a.eF) /\ gX (a.Name) /\ gX (a.Version) /\ Vk gX (a.aU) /\ Vk aT.Ok (a.Funcs) /\ True
theorem aN.ok_eq (a:aN):a.Ok↔(gX (a.eF) /\ gX (a.Name) /\ gX (a.Version) /\ Vk gX (a.aU) /\ Vk aT.Ok (a.Funcs) /\ True):=Iff.rfl
def dG.sz (a:dG):Nat:=(a.bV).length+(a.Func).length+(a.Core).length
theorem dG.dJ (a:dG):a.sz=(a.bV).length+(a.Func).length+(a.Core).length:=rfl
def dG.Ok (a:dG):Prop:=gX (a.bV) /\ gX (a.Func) /\ gX (a.Core) /\ True
theorem dG.ok_eq (a:dG):a.Ok↔(gX (a.bV) /\ gX (a.Func) /\ gX (a.Core) /\ True):=Iff.rfl
def bK.sz (a:bK):Nat:=(a.bV).length+(a.Func).length+(a.Import).length
theorem bK.dJ (a:bK):a.sz=(a.bV).length+(a.Func).length+(a.Import).length:=rfl
def bK.Ok (a:bK):Prop:=gX (a.bV) /\ gX (a.Func) /\ gX (a.Import) /\ True
theorem bK.ok_eq (a:bK):a.Ok↔(gX (a.bV) /\ gX (a.Func) /\ gX (a.Import) /\ True):=Iff.rfl
def bH.sz (a:bH):Nat:=0
theorem bH.dJ (a:bH):a.sz=0:=rfl
def bH.Ok (a:bH):Prop:=I64 (a.Op) /\ I64 (a.A) /\ True
theorem bH.ok_eq (a:bH):a.Ok↔(I64 (a.Op) /\ I64 (a.A) /\ True):=Iff.rfl
def aJ.sz (a:aJ):Nat:=(a.Name).length+fA bH.sz (a.Code)
theorem aJ.dJ (a:aJ):a.sz=(a.Name).length+fA bH.sz (a.Code):=rfl
def aJ.Ok (a:aJ):Prop:=gX (a.Name) /\ I64 (a.Params) /\ I64 (a.gz) /\ True /\ Vk bH.Ok (a.Code) /\ True
theorem aJ.ok_eq (a:aJ):a.Ok↔(gX (a.Name) /\ I64 (a.Params) /\ I64 (a.gz) /\ True /\ Vk bH.Ok (a.Code) /\ True):=Iff.rfl
def aF.sz (a:aF):Nat:=(a.Name).length
theorem aF.dJ (a:aF):a.sz=(a.Name).length:=rfl
def aF.Ok (a:aF):Prop:=gX (a.Name) /\ I64 (a.Params) /\ True /\ True
theorem aF.ok_eq (a:aF):a.Ok↔(gX (a.Name) /\ I64 (a.Params) /\ True /\ True):=Iff.rfl
def aI.sz (a:aI):Nat:=fA aF.sz (a.ak)+fA aJ.sz (a.bg)
theorem aI.dJ (a:aI):a.sz=fA aF.sz (a.ak)+fA aJ.sz (a.bg):=rfl
def aI.Ok (a:aI):Prop:=I64 (a.ja) /\ Vk aF.Ok (a.ak) /\ Vk aJ.Ok (a.bg) /\ True
theorem aI.ok_eq (a:aI):a.Ok↔(I64 (a.ja) /\ Vk aF.Ok (a.ak) /\ Vk aJ.Ok (a.bg) /\ True):=Iff.rfl
def ay.sz (a:ay):Nat:=(a.Name).length+(a.Version).length+fA aN.sz (a.ak)+fA aN.sz (a.bM)+(a.Module).sz+fA dG.sz (a.gu)+fA bK.sz (a.dE)+fA aK.sz (a.Builtins)
theorem ay.dJ (a:ay):a.sz=(a.Name).length+(a.Version).length+fA aN.sz (a.ak)+fA aN.sz (a.bM)+(a.Module).sz+fA dG.sz (a.gu)+fA bK.sz (a.dE)+fA aK.sz (a.Builtins):=rfl
def ay.Ok (a:ay):Prop:=gX (a.Name) /\ gX (a.Version) /\ Vk aN.Ok (a.ak) /\ Vk aN.Ok (a.bM) /\ I64 (a.Encoding) /\ I64 (a.kz) /\ aI.Ok (a.Module) /\ Vk dG.Ok (a.gu) /\ Vk bK.Ok (a.dE) /\ Vk aK.Ok (a.Builtins) /\ True
theorem ay.ok_eq (a:ay):a.Ok↔(gX (a.Name) /\ gX (a.Version) /\ Vk aN.Ok (a.ak) /\ Vk aN.Ok (a.bM) /\ I64 (a.Encoding) /\ I64 (a.kz) /\ aI.Ok (a.Module) /\ Vk dG.Ok (a.gu) /\ Vk bK.Ok (a.dE) /\ Vk aK.Ok (a.Builtins) /\ True):=Iff.rfl
theorem aK.uN (a:aK) (h:∀m,Go.V.SK m .Builtin a):a.Ok:=⟨(h 0).1,(h 0).2.1,(h 0).2.2.1,(h 0).2.2.2.1,trivial⟩
mutual
theorem ae.uN :∀(a:ae),(∀m,Go.V.SK m .Type a)->a.Ok
 | .mk v0 v1 v2 v3,h=>by
   simp only[ae.Ok];exact ⟨(h 0).1,(h 0).2.1,⟨((h 0).2.2.1).1,fun y hy=>((fun m=>((h (m+1)).2.2.1).2 y hy) 0).1⟩,⟨((h 0).2.2.2.1).1,(ae.azX _ fun y hy m=>((h (m+1)).2.2.2.1).2 y hy)⟩,trivial⟩
theorem ae.azX :∀(l:List ae),(∀y∈l,∀m,Go.V.SK m .Type y)->ae.Oks l
 | [],_=>by simp only[ae.Oks]
 |t::r,h=>by
  simp only[ae.Oks];exact ⟨ae.uN t (h t (by simp)),ae.azX r fun y hy=>h y (by simp[hy])⟩
end
theorem az.uN (a:az) (h:∀m,Go.V.SK m .Param a):a.Ok:=⟨(h 0).1,(ae.uN (a.bF) (fun m=>by cases m with |zero=>exact ⟨(h 0).2.1,(h 0).2.2.1,(h 0).2.2.2.1,(h 0).2.2.2.2.1,trivial⟩ |succ m=>exact ⟨(h (m+1)).2.1,(h (m+1)).2.2.1,(h (m+1)).2.2.2.1,(h (m+1)).2.2.2.2.1,trivial⟩)),trivial⟩
theorem af.uN (a:af) (h:∀m,Go.V.SK m .eQ a):a.Ok:=⟨⟨((h 0).1).1,fun y hy=>az.uN y (fun m=>((h (m+1)).1).2 y hy)⟩,(ae.uN (a.Result) (fun m=>by cases m with |zero=>exact ⟨(h 0).2.1,(h 0).2.2.1,(h 0).2.2.2.1,(h 0).2.2.2.2.1,trivial⟩ |succ m=>exact ⟨(h (m+1)).2.1,(h (m+1)).2.2.1,(h (m+1)).2.2.2.1,(h (m+1)).2.2.2.2.1,trivial⟩)),trivial,trivial⟩
theorem aT.uN (a:aT) (h:∀m,Go.V.SK m .Func a):a.Ok:=⟨(h 0).1,(af.uN (a.bF) (fun m=>by cases m with |zero=>exact ⟨(h 0).2.1,(h 0).2.2.1,(h 0).2.2.2.1,(h 0).2.2.2.2.1,(h 0).2.2.2.2.2.1,(h 0).2.2.2.2.2.2.1,trivial⟩ |succ m=>exact ⟨(h (m+1)).2.1,(h (m+1)).2.2.1,(h (m+1)).2.2.2.1,(h (m+1)).2.2.2.2.1,(h (m+1)).2.2.2.2.2.1,(h (m+1)).2.2.2.2.2.2.1,trivial⟩)),trivial⟩
theorem aN.uN (a:aN) (h:∀m,Go.V.SK m .bV a):a.Ok:=⟨(h 0).1,(h 0).2.1,(h 0).2.2.1,⟨((h 0).2.2.2.1).1,fun y hy=>((fun m=>((h (m+1)).2.2.2.1).2 y hy) 0).1⟩,⟨((h 0).2.2.2.2.1).1,fun y hy=>aT.uN y (fun m=>((h (m+1)).2.2.2.2.1).2 y hy)⟩,trivial⟩
theorem dG.uN (a:dG) (h:∀m,Go.V.SK m .qZ a):a.Ok:=⟨(h 0).1,(h 0).2.1,(h 0).2.2.1,trivial⟩
theorem bK.uN (a:bK) (h:∀m,Go.V.SK m .Lower a):a.Ok:=⟨(h 0).1,(h 0).2.1,(h 0).2.2.1,trivial⟩
theorem bH.uN (a:bH) (h:∀m,Go.V.SK m .Ins a):a.Ok:=⟨(h 0).1,(h 0).2.1,trivial⟩
theorem aJ.uN (a:aJ) (h:∀m,Go.V.SK m .Core a):a.Ok:=⟨(h 0).1,(h 0).2.1,(h 0).2.2.1,trivial,⟨((h 0).2.2.2.2.1).1,fun y hy=>bH.uN y (fun m=>((h (m+1)).2.2.2.2.1).2 y hy)⟩,trivial⟩
theorem aF.uN (a:aF) (h:∀m,Go.V.SK m .Import a):a.Ok:=⟨(h 0).1,(h 0).2.1,trivial,trivial⟩
theorem aI.uN (a:aI) (h:∀m,Go.V.SK m .Module a):a.Ok:=⟨(h 0).1,⟨((h 0).2.1).1,fun y hy=>aF.uN y (fun m=>((h (m+1)).2.1).2 y hy)⟩,⟨((h 0).2.2.1).1,fun y hy=>aJ.uN y (fun m=>((h (m+1)).2.2.1).2 y hy)⟩,trivial⟩
theorem ay.uN (a:ay) (h:∀m,Go.V.SK m .bJ a):a.Ok:=⟨(h 0).1,(h 0).2.1,⟨((h 0).2.2.1).1,fun y hy=>aN.uN y (fun m=>((h (m+1)).2.2.1).2 y hy)⟩,⟨((h 0).2.2.2.1).1,fun y hy=>aN.uN y (fun m=>((h (m+1)).2.2.2.1).2 y hy)⟩,(h 0).2.2.2.2.1,(h 0).2.2.2.2.2.1,(aI.uN (a.Module) (fun m=>by cases m with |zero=>exact ⟨(h 0).2.2.2.2.2.2.1,(h 0).2.2.2.2.2.2.2.1,(h 0).2.2.2.2.2.2.2.2.1,trivial⟩ |succ m=>exact ⟨(h (m+1)).2.2.2.2.2.2.1,(h (m+1)).2.2.2.2.2.2.2.1,(h (m+1)).2.2.2.2.2.2.2.2.1,trivial⟩)),⟨((h 0).2.2.2.2.2.2.2.2.2.1).1,fun y hy=>dG.uN y (fun m=>((h (m+1)).2.2.2.2.2.2.2.2.2.1).2 y hy)⟩,⟨((h 0).2.2.2.2.2.2.2.2.2.2.1).1,fun y hy=>bK.uN y (fun m=>((h (m+1)).2.2.2.2.2.2.2.2.2.2.1).2 y hy)⟩,⟨((h 0).2.2.2.2.2.2.2.2.2.2.2.1).1,fun y hy=>aK.uN y (fun m=>((h (m+1)).2.2.2.2.2.2.2.2.2.2.2.1).2 y hy)⟩,trivial⟩
theorem aoI (a:List (List UInt8)) (left:Int) (ok:Vk gX a) (h0:0<=left) (h1:left<=1048576):M.zk a left=some (if (fA List.length a:Int)<=left then left-fA List.length a else -1):=by
 have hl:=ok.1;unfold M.zk;rw[wrap_i64 (by omega) (by omega)]
 refine OQ (f:=List.length) (F:=M.qG  a) a left h0 h1 (fun g k l h2 h3 hk=> ?_) (fun g l=> ?_)
 ·have hn:k<2^62:=by omega
  rw[M.qG];have w:Go.IntKind.wrap .i64 (l-((a[k]).length:Int))=l-(a[k]).length:=wrap_i64 (by have:=ok.2 a[k] (List.getElem_mem hk);unfold gX at this;omega) (by omega)
  by_cases d:((a[k]).length:Int)<=l
  ·have n:¬(l-((a[k]).length:Int)<0):=by omega
   rw[if_pos d];simp[hk,getD_lt hk,w,n,df hk (show a.length<2^62 by omega)]
  ·have n:l-((a[k]).length:Int)<0:=by omega
   rw[if_neg d];simp[hk,getD_lt hk,w,n]
 ·rw[M.qG];simp
theorem aoJ (a:List (List UInt8)) (ha:fA List.length a<=1048576):M.zl a=some a:=by
 have hl:=dh List.length a;have hn:a.length<=1048576:=by omega
 have hi:(a.length:Int)<=1073741824:=by omega
 have q:∀z,z.length=a.length->M.nK  a Go.V.aA 0 z=some a:=vJ (F:=M.nK  a) a (by omega) (fun f k out h1 h2 hk=>by
  rw[M.nK];simp[hk,h2,getD_lt hk,df hk (dI hn)]) (fun f out=>by rw[M.nK];simp)
 unfold M.zl;rw[q _ (by simp)]
 simp[hi]
theorem aoK (a:List (List UInt8)) (ha:fA List.length a<=1048576):M.yP a a=some true:=by
 have hl:=dh List.length a;have hn:a.length<=1048576:=by omega
 unfold M.yP;refine LY (F:=M.qH  a a) a hn (fun f k hk=> ?_) (fun f=> ?_)
 ·rw[M.qH]
  simp[hk,getD_lt hk,df hk (dI hn)]
 ·rw[M.qH];simp
theorem awK (a:aK) (left:Int) (ok:a.Ok) (h0:0<=left) (h1:left<=1048576):M.GL a left=some (if (a.sz:Int)<=left then left-a.sz else -1):=by
 unfold M.GL;have hs:=aK.dJ a;have ok1:=(aK.ok_eq a).1 ok
 try simp only[ae.aB,az.aB,af.aB,aT.aB]
 have e0:Go.IntKind.wrap .i64 (left-((a.bV).length:Int))=left-((a.bV).length:Int):=wrap_i64 (by have:=ok1.2.1;unfold gX at this;omega) (by omega)
 by_cases c0:(((a.bV).length:Nat):Int)<=left
 ·skip
  have n0:¬(left-(((a.bV).length:Nat):Int)<0):=by omega
  have e1:Go.IntKind.wrap .i64 (left-(((a.bV).length:Nat):Int)-((a.gm).length:Int))=left-(((a.bV).length:Nat):Int)-((a.gm).length:Int):=wrap_i64 (by have:=ok1.2.2.1;unfold gX at this;omega) (by omega)
  by_cases c1:(((a.gm).length:Nat):Int)<=left-(((a.bV).length:Nat):Int)
  ·skip
   have n1:¬(left-(((a.bV).length:Nat):Int)-(((a.gm).length:Nat):Int)<0):=by omega
   have e2:Go.IntKind.wrap .i64 (left-(((a.bV).length:Nat):Int)-(((a.gm).length:Nat):Int)-((a.Import).length:Int))=left-(((a.bV).length:Nat):Int)-(((a.gm).length:Nat):Int)-((a.Import).length:Int):=wrap_i64 (by have:=ok1.2.2.2.1;unfold gX at this;omega) (by omega)
   by_cases c2:(((a.Import).length:Nat):Int)<=left-(((a.bV).length:Nat):Int)-(((a.gm).length:Nat):Int)
   ·skip
    have n2:¬(left-(((a.bV).length:Nat):Int)-(((a.gm).length:Nat):Int)-(((a.Import).length:Nat):Int)<0):=by omega
    have q:(a.sz:Int)<=left:=by rw[hs]<;>push_cast<;>omega
    have q2:left-(a.sz:Int)=left-(((a.bV).length:Nat):Int)-(((a.gm).length:Nat):Int)-(((a.Import).length:Nat):Int):=by rw[hs]<;>push_cast<;>omega
    rw[if_pos q,q2];simp[e0,n0,e1,n1,e2,n2]
   ·have n2:left-(((a.bV).length:Nat):Int)-(((a.gm).length:Nat):Int)-(((a.Import).length:Nat):Int)<0:=by omega
    have q:¬((a.sz:Int)<=left):=by rw[hs]<;>push_cast<;>omega
    rw[if_neg q];simp[e0,n0,e1,n1,e2,n2]
  ·have n1:left-(((a.bV).length:Nat):Int)-(((a.gm).length:Nat):Int)<0:=by omega
   have q:¬((a.sz:Int)<=left):=by rw[hs]<;>push_cast<;>omega
   rw[if_neg q];simp[e0,n0,e1,n1]
 ·have n0:left-(((a.bV).length:Nat):Int)<0:=by omega
  have q:¬((a.sz:Int)<=left):=by rw[hs]<;>push_cast<;>omega
  rw[if_neg q];simp[e0,n0]
theorem awL (a:aK) (h:a.sz<=1048576):M.MX a=some a:=by
 unfold M.MX;have hs:=aK.dJ a
 try simp only[ae.aB,az.aB,af.aB,aT.aB]
 try simp[]
theorem awM (a:aK) (h:a.sz<=1048576):M.BX a a=some true:=by
 unfold M.BX;have hs:=aK.dJ a
 try simp only[ae.aB,az.aB,af.aB,aT.aB]
 try simp[]
theorem au3 (a:List aK) (left:Int) (ok:Vk aK.Ok a) (h0:0<=left) (h1:left<=1048576):M.Dy a left=some (if (fA aK.sz a:Int)<=left then left-fA aK.sz a else -1):=by
 have hl:=ok.1;unfold M.Dy;rw[wrap_i64 (by omega) (by omega)]
 refine OQ (f:=aK.sz) (F:=M.oG  a) a left h0 h1 (fun g k l h2 h3 hk=> ?_) (fun g l=> ?_)
 ·have hn:k<2^62:=by omega
  rw[M.oG];have e:=awK a[k] l (ok.2 _ (List.getElem_mem hk)) h2 (by omega)
  by_cases d:((aK.sz a[k]:Nat):Int)<=l
  ·have n:¬(l-((aK.sz a[k]:Nat):Int)<0):=by omega
   rw[if_pos d] at e ⊢;simp[hk,getD_lt hk,e,n,df hk (show a.length<2^62 by omega),ae.aB,az.aB,af.aB,aT.aB]
  ·rw[if_neg d] at e ⊢;simp[hk,getD_lt hk,e,ae.aB,az.aB,af.aB,aT.aB]
 ·rw[M.oG];simp
theorem au4 (a:List aK) (ha:fA aK.sz a<=1048576):M.Dz a=some a:=by
 have hl:=dh aK.sz a;have hn:a.length<=1048576:=by omega
 have hi:(a.length:Int)<=1073741824:=by omega
 have q:∀z,z.length=a.length->M.lS  a Go.V.aA 0 z=some a:=vJ (F:=M.lS  a) a (by omega) (fun f k out h1 h2 hk=>by
  rw[M.lS];have e:=awL a[k] (by have:=dY aK.sz a a[k] (List.getElem_mem hk);omega)
  simp[hk,h2,getD_lt hk,e,df hk (dI hn),ae.aB,az.aB,af.aB,aT.aB]) (fun f out=>by rw[M.lS];simp)
 unfold M.Dz;rw[q _ (by simp)]
 simp[hi]
theorem au5 (a:List aK) (ha:fA aK.sz a<=1048576):M.DK a a=some true:=by
 have hl:=dh aK.sz a;have hn:a.length<=1048576:=by omega
 unfold M.DK;refine LY (F:=M.oH  a a) a hn (fun f k hk=> ?_) (fun f=> ?_)
 ·rw[M.oH]
  have e:=awM a[k] (by have:=dY aK.sz a a[k] (List.getElem_mem hk);omega)
  simp[hk,getD_lt hk,e,df hk (dI hn),ae.aB,az.aB,af.aB,aT.aB]
 ·rw[M.oH];simp
theorem awN (r:ae->Int->Option Int) (a:List ae) (left:Int) (ok:Vk ae.Ok a) (h0:0<=left) (h1:left<=1048576) (hr:∀x l,x∈a->0<=l->l<left->r x l=some (if (x.sz:Int)<=l then l-x.sz else -1)):M.QF r a left=some (if (fA ae.sz a:Int)<=left then left-fA ae.sz a else -1):=by
 have hl:=ok.1;unfold M.QF;rw[wrap_i64 (by omega) (by omega)]
 refine OQ (f:=ae.sz) (F:=M.xh r  a) a left h0 h1 (fun g k l h2 h3 hk=> ?_) (fun g l=> ?_)
 ·have hn:k<2^62:=by omega
  rw[M.xh];have e:=hr a[k] l (List.getElem_mem hk) h2 (by omega)
  by_cases d:((ae.sz a[k]:Nat):Int)<=l
  ·have n:¬(l-((ae.sz a[k]:Nat):Int)<0):=by omega
   rw[if_pos d] at e ⊢;simp[hk,getD_lt hk,e,n,df hk (show a.length<2^62 by omega),ae.aB,az.aB,af.aB,aT.aB]
  ·rw[if_neg d] at e ⊢;simp[hk,getD_lt hk,e,ae.aB,az.aB,af.aB,aT.aB]
 ·rw[M.xh];simp
theorem awO (r:ae->Option (ae)) (a:List ae) (ha:a.length<=1048576) (hr:∀x∈a,r x=some x):M.QJ r a=some a:=by
 have hn:a.length<=1048576:=by omega
 have hi:(a.length:Int)<=1073741824:=by omega
 have q:∀z,z.length=a.length->M.sU r  a Go.V.aA 0 z=some a:=vJ (F:=M.sU r  a) a (by omega) (fun f k out h1 h2 hk=>by
  rw[M.sU];have e:=hr a[k] (List.getElem_mem hk);simp[hk,h2,getD_lt hk,e,df hk (dI hn),ae.aB,az.aB,af.aB,aT.aB]) (fun f out=>by rw[M.sU];simp)
 unfold M.QJ;rw[q _ (by simp)]
 simp[hi]
theorem awP (r:ae->ae->Option Bool) (a:List ae) (ha:a.length<=1048576) (hr:∀x∈a,r x x=some true):M.QN r a a=some true:=by
 have hn:a.length<=1048576:=by omega
 unfold M.QN;refine LY (F:=M.xk r  a a) a hn (fun f k hk=> ?_) (fun f=> ?_)
 ·rw[M.xk]
  have e:=hr a[k] (List.getElem_mem hk);simp[hk,getD_lt hk,e,df hk (dI hn),ae.aB,az.aB,af.aB,aT.aB]
 ·rw[M.xk];simp
theorem arN : ∀(n:Nat) (a:ae) (left:Int),a.Ok->0<=left->left<n->left<=1048576->M.BF n a left=some (if (a.sz:Int)<=left then left-a.sz else -1)
 |0,a,left,ok,h0,h2,h1=>by omega
 |n+1,a,left,ok,h0,h2,h1=>by
  show M.Sv (M.BF n) a left=_
  unfold M.Sv;have hs:=ae.dJ a;have ok1:=(ae.ok_eq a).1 ok
  try simp only[ae.aB,az.aB,af.aB,aT.aB]
  have e0:Go.IntKind.wrap .i64 (left-((a.Name).length:Int))=left-((a.Name).length:Int):=wrap_i64 (by have:=ok1.2.1;unfold gX at this;omega) (by omega)
  by_cases c0:(((a.Name).length:Nat):Int)<=left
  ·skip
   have n0:¬(left-(((a.Name).length:Nat):Int)<0):=by omega
   have e1:=aoI (a.eP) (left-(((a.Name).length:Nat):Int)) ok1.2.2.1 (by omega) (by omega)
   by_cases c1:((fA List.length (a.eP):Nat):Int)<=left-(((a.Name).length:Nat):Int)
   ·rw[if_pos c1] at e1
    have n1:¬(left-(((a.Name).length:Nat):Int)-((fA List.length (a.eP):Nat):Int)<0):=by omega
    have e2:=awN (M.BF n) (a.Kids) (left-(((a.Name).length:Nat):Int)-((fA List.length (a.eP):Nat):Int)) ok1.2.2.2.1 (by omega) (by omega) (fun x l hx q0 q1=>arN n x l ((ok1.2.2.2.1).2 x hx) q0 (by omega) (by omega))
    by_cases c2:((fA ae.sz (a.Kids):Nat):Int)<=left-(((a.Name).length:Nat):Int)-((fA List.length (a.eP):Nat):Int)
    ·rw[if_pos c2] at e2
     have n2:¬(left-(((a.Name).length:Nat):Int)-((fA List.length (a.eP):Nat):Int)-((fA ae.sz (a.Kids):Nat):Int)<0):=by omega
     have q:(a.sz:Int)<=left:=by rw[hs]<;>push_cast<;>omega
     have q2:left-(a.sz:Int)=left-(((a.Name).length:Nat):Int)-((fA List.length (a.eP):Nat):Int)-((fA ae.sz (a.Kids):Nat):Int):=by rw[hs]<;>push_cast<;>omega
     rw[if_pos q,q2];simp[e0,n0,e1,n1,e2,n2]
    ·rw[if_neg c2] at e2
     have q:¬((a.sz:Int)<=left):=by rw[hs]<;>push_cast<;>omega
     rw[if_neg q];simp[e0,n0,e1,n1,e2]
   ·rw[if_neg c1] at e1
    have q:¬((a.sz:Int)<=left):=by rw[hs]<;>push_cast<;>omega
    rw[if_neg q];simp[e0,n0,e1]
  ·have n0:left-(((a.Name).length:Nat):Int)<0:=by omega
   have q:¬((a.sz:Int)<=left):=by rw[hs]<;>push_cast<;>omega
   rw[if_neg q];simp[e0,n0]
theorem ax1 (a:ae) (left:Int) (ok:a.Ok) (h0:0<=left) (h1:left<=1048576):M.QG a left=some (if (a.sz:Int)<=left then left-a.sz else -1):=
 arN _ a left ok h0 (by have:=Go.V.bU;omega) h1
theorem arO : ∀(n:Nat) (a:ae),a.sz<n->a.sz<=1048576->M.BG n a=some a
 |0,a,h2,h=>by omega
 |n+1,a,h2,h=>by
  show M.Sz (M.BG n) a=_
  unfold M.Sz;have hs:=ae.dJ a
  try simp only[ae.aB,az.aB,af.aB,aT.aB]
  have e2:=aoJ (a.eP) (by omega)
  have hk3:=dh ae.sz (a.Kids);have e3:=awO (M.BG n) (a.Kids) (by omega) (fun x hx=>arO n x (by have:=dY ae.sz (a.Kids) x hx;have:=ZI ae.sz (a.Kids) x hx;omega) (by have:=dY ae.sz (a.Kids) x hx;omega))
  try simp[e2,e3,ae.eta]
theorem ax2 (a:ae) (h:a.sz<=1048576):M.QK a=some a:=
 arO _ a (by have:=Go.V.bU;omega) h
theorem arP : ∀(n:Nat) (a:ae),a.sz<n->a.sz<=1048576->M.BH n a a=some true
 |0,a,h2,h=>by omega
 |n+1,a,h2,h=>by
  show M.SA (M.BH n) a a=_
  unfold M.SA;have hs:=ae.dJ a
  try simp only[ae.aB,az.aB,af.aB,aT.aB]
  have e2:=aoK (a.eP) (by omega)
  have hk3:=dh ae.sz (a.Kids);have e3:=awP (M.BH n) (a.Kids) (by omega) (fun x hx=>arP n x (by have:=dY ae.sz (a.Kids) x hx;have:=ZI ae.sz (a.Kids) x hx;omega) (by have:=dY ae.sz (a.Kids) x hx;omega))
  try simp[e2,e3,ae.eta]
theorem ax3 (a:ae) (h:a.sz<=1048576):M.Pn a a=some true:=
 arP _ a (by have:=Go.V.bU;omega) h
theorem azY (a:az) (left:Int) (ok:a.Ok) (h0:0<=left) (h1:left<=1048576):M.QU a left=some (if (a.sz:Int)<=left then left-a.sz else -1):=by
 unfold M.QU;have hs:=az.dJ a;have ok1:=(az.ok_eq a).1 ok
 try simp only[ae.aB,az.aB,af.aB,aT.aB]
 have e0:Go.IntKind.wrap .i64 (left-((a.Name).length:Int))=left-((a.Name).length:Int):=wrap_i64 (by have:=ok1.1;unfold gX at this;omega) (by omega)
 by_cases c0:(((a.Name).length:Nat):Int)<=left
 ·skip
  have n0:¬(left-(((a.Name).length:Nat):Int)<0):=by omega
  have e1:=ax1 (a.bF) (left-(((a.Name).length:Nat):Int)) ok1.2.1 (by omega) (by omega)
  by_cases c1:(((a.bF).sz:Nat):Int)<=left-(((a.Name).length:Nat):Int)
  ·rw[if_pos c1] at e1
   have n1:¬(left-(((a.Name).length:Nat):Int)-(((a.bF).sz:Nat):Int)<0):=by omega
   have q:(a.sz:Int)<=left:=by rw[hs]<;>push_cast<;>omega
   have q2:left-(a.sz:Int)=left-(((a.Name).length:Nat):Int)-(((a.bF).sz:Nat):Int):=by rw[hs]<;>push_cast<;>omega
   rw[if_pos q,q2];simp[e0,n0,e1,n1]
  ·rw[if_neg c1] at e1
   have q:¬((a.sz:Int)<=left):=by rw[hs]<;>push_cast<;>omega
   rw[if_neg q];simp[e0,n0,e1]
 ·have n0:left-(((a.Name).length:Nat):Int)<0:=by omega
  have q:¬((a.sz:Int)<=left):=by rw[hs]<;>push_cast<;>omega
  rw[if_neg q];simp[e0,n0]
theorem azZ (a:az) (h:a.sz<=1048576):M.QX a=some a:=by
 unfold M.QX;have hs:=az.dJ a
 try simp only[ae.aB,az.aB,af.aB,aT.aB]
 have e1:=ax2 (a.bF) (by omega)
 try simp[e1]
theorem az0 (a:az) (h:a.sz<=1048576):M.Po a a=some true:=by
 unfold M.Po;have hs:=az.dJ a
 try simp only[ae.aB,az.aB,af.aB,aT.aB]
 have e1:=ax3 (a.bF) (by omega)
 try simp[e1]
theorem ayQ (a:List az) (left:Int) (ok:Vk az.Ok a) (h0:0<=left) (h1:left<=1048576):M.LK a left=some (if (fA az.sz a:Int)<=left then left-fA az.sz a else -1):=by
 have hl:=ok.1;unfold M.LK;rw[wrap_i64 (by omega) (by omega)]
 refine OQ (f:=az.sz) (F:=M.uj  a) a left h0 h1 (fun g k l h2 h3 hk=> ?_) (fun g l=> ?_)
 ·have hn:k<2^62:=by omega
  rw[M.uj];have e:=azY a[k] l (ok.2 _ (List.getElem_mem hk)) h2 (by omega)
  by_cases d:((az.sz a[k]:Nat):Int)<=l
  ·have n:¬(l-((az.sz a[k]:Nat):Int)<0):=by omega
   rw[if_pos d] at e ⊢;simp[hk,getD_lt hk,e,n,df hk (show a.length<2^62 by omega),ae.aB,az.aB,af.aB,aT.aB]
  ·rw[if_neg d] at e ⊢;simp[hk,getD_lt hk,e,ae.aB,az.aB,af.aB,aT.aB]
 ·rw[M.uj];simp
theorem ayR (a:List az) (ha:fA az.sz a<=1048576):M.LM a=some a:=by
 have hl:=dh az.sz a;have hn:a.length<=1048576:=by omega
 have hi:(a.length:Int)<=1073741824:=by omega
 have q:∀z,z.length=a.length->M.pV  a Go.V.aA 0 z=some a:=vJ (F:=M.pV  a) a (by omega) (fun f k out h1 h2 hk=>by
  rw[M.pV];have e:=azZ a[k] (by have:=dY az.sz a a[k] (List.getElem_mem hk);omega)
  simp[hk,h2,getD_lt hk,e,df hk (dI hn),ae.aB,az.aB,af.aB,aT.aB]) (fun f out=>by rw[M.pV];simp)
 unfold M.LM;rw[q _ (by simp)]
 simp[hi]
theorem ayS (a:List az) (ha:fA az.sz a<=1048576):M.Ky a a=some true:=by
 have hl:=dh az.sz a;have hn:a.length<=1048576:=by omega
 unfold M.Ky;refine LY (F:=M.tV  a a) a hn (fun f k hk=> ?_) (fun f=> ?_)
 ·rw[M.tV]
  have e:=az0 a[k] (by have:=dY az.sz a a[k] (List.getElem_mem hk);omega)
  simp[hk,getD_lt hk,e,df hk (dI hn),ae.aB,az.aB,af.aB,aT.aB]
 ·rw[M.tV];simp
theorem au6 (a:af) (left:Int) (ok:a.Ok) (h0:0<=left) (h1:left<=1048576):M.Eg a left=some (if (a.sz:Int)<=left then left-a.sz else -1):=by
 unfold M.Eg;have hs:=af.dJ a;have ok1:=(af.ok_eq a).1 ok
 try simp only[ae.aB,az.aB,af.aB,aT.aB]
 have e0:=ayQ (a.Params) (left) ok1.1 (by omega) (by omega)
 by_cases c0:((fA az.sz (a.Params):Nat):Int)<=left
 ·rw[if_pos c0] at e0
  have n0:¬(left-((fA az.sz (a.Params):Nat):Int)<0):=by omega
  have e1:=ax1 (a.Result) (left-((fA az.sz (a.Params):Nat):Int)) ok1.2.1 (by omega) (by omega)
  by_cases c1:(((a.Result).sz:Nat):Int)<=left-((fA az.sz (a.Params):Nat):Int)
  ·rw[if_pos c1] at e1
   have n1:¬(left-((fA az.sz (a.Params):Nat):Int)-(((a.Result).sz:Nat):Int)<0):=by omega
   have q:(a.sz:Int)<=left:=by rw[hs]<;>push_cast<;>omega
   have q2:left-(a.sz:Int)=left-((fA az.sz (a.Params):Nat):Int)-(((a.Result).sz:Nat):Int):=by rw[hs]<;>push_cast<;>omega
   rw[if_pos q,q2];simp[e0,n0,e1,n1]
  ·rw[if_neg c1] at e1
   have q:¬((a.sz:Int)<=left):=by rw[hs]<;>push_cast<;>omega
   rw[if_neg q];simp[e0,n0,e1]
 ·rw[if_neg c0] at e0
  have q:¬((a.sz:Int)<=left):=by rw[hs]<;>push_cast<;>omega
  rw[if_neg q];simp[e0]
theorem au7 (a:af) (h:a.sz<=1048576):M.Eh a=some a:=by
 unfold M.Eh;have hs:=af.dJ a
 try simp only[ae.aB,az.aB,af.aB,aT.aB]
 have e0:=ayR (a.Params) (by omega)
 have e1:=ax2 (a.Result) (by omega)
 try simp[e0,e1]
theorem au8 (a:af) (h:a.sz<=1048576):M.Dx a a=some true:=by
 unfold M.Dx;have hs:=af.dJ a
 try simp only[ae.aB,az.aB,af.aB,aT.aB]
 have e0:=ayS (a.Params) (by omega)
 have e1:=ax3 (a.Result) (by omega)
 try simp[e0,e1]
theorem aBY (a:aT) (left:Int) (ok:a.Ok) (h0:0<=left) (h1:left<=1048576):M.YD a left=some (if (a.sz:Int)<=left then left-a.sz else -1):=by
 unfold M.YD;have hs:=aT.dJ a;have ok1:=(aT.ok_eq a).1 ok
 try simp only[ae.aB,az.aB,af.aB,aT.aB]
 have e0:Go.IntKind.wrap .i64 (left-((a.Name).length:Int))=left-((a.Name).length:Int):=wrap_i64 (by have:=ok1.1;unfold gX at this;omega) (by omega)
 by_cases c0:(((a.Name).length:Nat):Int)<=left
 ·skip
  have n0:¬(left-(((a.Name).length:Nat):Int)<0):=by omega
  have e1:=au6 (a.bF) (left-(((a.Name).length:Nat):Int)) ok1.2.1 (by omega) (by omega)
  by_cases c1:(((a.bF).sz:Nat):Int)<=left-(((a.Name).length:Nat):Int)
  ·rw[if_pos c1] at e1
   have n1:¬(left-(((a.Name).length:Nat):Int)-(((a.bF).sz:Nat):Int)<0):=by omega
   have q:(a.sz:Int)<=left:=by rw[hs]<;>push_cast<;>omega
   have q2:left-(a.sz:Int)=left-(((a.Name).length:Nat):Int)-(((a.bF).sz:Nat):Int):=by rw[hs]<;>push_cast<;>omega
   rw[if_pos q,q2];simp[e0,n0,e1,n1]
  ·rw[if_neg c1] at e1
   have q:¬((a.sz:Int)<=left):=by rw[hs]<;>push_cast<;>omega
   rw[if_neg q];simp[e0,n0,e1]
 ·have n0:left-(((a.Name).length:Nat):Int)<0:=by omega
  have q:¬((a.sz:Int)<=left):=by rw[hs]<;>push_cast<;>omega
  rw[if_neg q];simp[e0,n0]
theorem aBZ (a:aT) (h:a.sz<=1048576):M.YK a=some a:=by
 unfold M.YK;have hs:=aT.dJ a
 try simp only[ae.aB,az.aB,af.aB,aT.aB]
 have e1:=au7 (a.bF) (by omega)
 try simp[e1]
theorem aB0 (a:aT) (h:a.sz<=1048576):M.VI a a=some true:=by
 unfold M.VI;have hs:=aT.dJ a
 try simp only[ae.aB,az.aB,af.aB,aT.aB]
 have e1:=au8 (a.bF) (by omega)
 try simp[e1]
theorem az1 (a:List aT) (left:Int) (ok:Vk aT.Ok a) (h0:0<=left) (h1:left<=1048576):M.QW a left=some (if (fA aT.sz a:Int)<=left then left-fA aT.sz a else -1):=by
 have hl:=ok.1;unfold M.QW;rw[wrap_i64 (by omega) (by omega)]
 refine OQ (f:=aT.sz) (F:=M.xn  a) a left h0 h1 (fun g k l h2 h3 hk=> ?_) (fun g l=> ?_)
 ·have hn:k<2^62:=by omega
  rw[M.xn];have e:=aBY a[k] l (ok.2 _ (List.getElem_mem hk)) h2 (by omega)
  by_cases d:((aT.sz a[k]:Nat):Int)<=l
  ·have n:¬(l-((aT.sz a[k]:Nat):Int)<0):=by omega
   rw[if_pos d] at e ⊢;simp[hk,getD_lt hk,e,n,df hk (show a.length<2^62 by omega),ae.aB,az.aB,af.aB,aT.aB]
  ·rw[if_neg d] at e ⊢;simp[hk,getD_lt hk,e,ae.aB,az.aB,af.aB,aT.aB]
 ·rw[M.xn];simp
theorem az2 (a:List aT) (ha:fA aT.sz a<=1048576):M.QZ a=some a:=by
 have hl:=dh aT.sz a;have hn:a.length<=1048576:=by omega
 have hi:(a.length:Int)<=1073741824:=by omega
 have q:∀z,z.length=a.length->M.tC  a Go.V.aA 0 z=some a:=vJ (F:=M.tC  a) a (by omega) (fun f k out h1 h2 hk=>by
  rw[M.tC];have e:=aBZ a[k] (by have:=dY aT.sz a a[k] (List.getElem_mem hk);omega)
  simp[hk,h2,getD_lt hk,e,df hk (dI hn),ae.aB,az.aB,af.aB,aT.aB]) (fun f out=>by rw[M.tC];simp)
 unfold M.QZ;rw[q _ (by simp)]
 simp[hi]
theorem az3 (a:List aT) (ha:fA aT.sz a<=1048576):M.Pv a a=some true:=by
 have hl:=dh aT.sz a;have hn:a.length<=1048576:=by omega
 unfold M.Pv;refine LY (F:=M.wS  a a) a hn (fun f k hk=> ?_) (fun f=> ?_)
 ·rw[M.wS]
  have e:=aB0 a[k] (by have:=dY aT.sz a a[k] (List.getElem_mem hk);omega)
  simp[hk,getD_lt hk,e,df hk (dI hn),ae.aB,az.aB,af.aB,aT.aB]
 ·rw[M.wS];simp
theorem aB1 (a:aN) (left:Int) (ok:a.Ok) (h0:0<=left) (h1:left<=1048576):M.YG a left=some (if (a.sz:Int)<=left then left-a.sz else -1):=by
 unfold M.YG;have hs:=aN.dJ a;have ok1:=(aN.ok_eq a).1 ok
 try simp only[ae.aB,az.aB,af.aB,aT.aB]
 have e0:Go.IntKind.wrap .i64 (left-((a.eF).length:Int))=left-((a.eF).length:Int):=wrap_i64 (by have:=ok1.1;unfold gX at this;omega) (by omega)
 by_cases c0:(((a.eF).length:Nat):Int)<=left
 ·skip
  have n0:¬(left-(((a.eF).length:Nat):Int)<0):=by omega
  have e1:Go.IntKind.wrap .i64 (left-(((a.eF).length:Nat):Int)-((a.Name).length:Int))=left-(((a.eF).length:Nat):Int)-((a.Name).length:Int):=wrap_i64 (by have:=ok1.2.1;unfold gX at this;omega) (by omega)
  by_cases c1:(((a.Name).length:Nat):Int)<=left-(((a.eF).length:Nat):Int)
  ·skip
   have n1:¬(left-(((a.eF).length:Nat):Int)-(((a.Name).length:Nat):Int)<0):=by omega
   have e2:Go.IntKind.wrap .i64 (left-(((a.eF).length:Nat):Int)-(((a.Name).length:Nat):Int)-((a.Version).length:Int))=left-(((a.eF).length:Nat):Int)-(((a.Name).length:Nat):Int)-((a.Version).length:Int):=wrap_i64 (by have:=ok1.2.2.1;unfold gX at this;omega) (by omega)
   by_cases c2:(((a.Version).length:Nat):Int)<=left-(((a.eF).length:Nat):Int)-(((a.Name).length:Nat):Int)
   ·skip
    have n2:¬(left-(((a.eF).length:Nat):Int)-(((a.Name).length:Nat):Int)-(((a.Version).length:Nat):Int)<0):=by omega
    have e3:=aoI (a.aU) (left-(((a.eF).length:Nat):Int)-(((a.Name).length:Nat):Int)-(((a.Version).length:Nat):Int)) ok1.2.2.2.1 (by omega) (by omega)
    by_cases c3:((fA List.length (a.aU):Nat):Int)<=left-(((a.eF).length:Nat):Int)-(((a.Name).length:Nat):Int)-(((a.Version).length:Nat):Int)
    ·rw[if_pos c3] at e3
     have n3:¬(left-(((a.eF).length:Nat):Int)-(((a.Name).length:Nat):Int)-(((a.Version).length:Nat):Int)-((fA List.length (a.aU):Nat):Int)<0):=by omega
     have e4:=az1 (a.Funcs) (left-(((a.eF).length:Nat):Int)-(((a.Name).length:Nat):Int)-(((a.Version).length:Nat):Int)-((fA List.length (a.aU):Nat):Int)) ok1.2.2.2.2.1 (by omega) (by omega)
     by_cases c4:((fA aT.sz (a.Funcs):Nat):Int)<=left-(((a.eF).length:Nat):Int)-(((a.Name).length:Nat):Int)-(((a.Version).length:Nat):Int)-((fA List.length (a.aU):Nat):Int)
     ·rw[if_pos c4] at e4
      have n4:¬(left-(((a.eF).length:Nat):Int)-(((a.Name).length:Nat):Int)-(((a.Version).length:Nat):Int)-((fA List.length (a.aU):Nat):Int)-((fA aT.sz (a.Funcs):Nat):Int)<0):=by omega
      have q:(a.sz:Int)<=left:=by rw[hs]<;>push_cast<;>omega
      have q2:left-(a.sz:Int)=left-(((a.eF).length:Nat):Int)-(((a.Name).length:Nat):Int)-(((a.Version).length:Nat):Int)-((fA List.length (a.aU):Nat):Int)-((fA aT.sz (a.Funcs):Nat):Int):=by rw[hs]<;>push_cast<;>omega
      rw[if_pos q,q2];simp[e0,n0,e1,n1,e2,n2,e3,n3,e4,n4]
     ·rw[if_neg c4] at e4
      have q:¬((a.sz:Int)<=left):=by rw[hs]<;>push_cast<;>omega
      rw[if_neg q];simp[e0,n0,e1,n1,e2,n2,e3,n3,e4]
    ·rw[if_neg c3] at e3
     have q:¬((a.sz:Int)<=left):=by rw[hs]<;>push_cast<;>omega
     rw[if_neg q];simp[e0,n0,e1,n1,e2,n2,e3]
   ·have n2:left-(((a.eF).length:Nat):Int)-(((a.Name).length:Nat):Int)-(((a.Version).length:Nat):Int)<0:=by omega
    have q:¬((a.sz:Int)<=left):=by rw[hs]<;>push_cast<;>omega
    rw[if_neg q];simp[e0,n0,e1,n1,e2,n2]
  ·have n1:left-(((a.eF).length:Nat):Int)-(((a.Name).length:Nat):Int)<0:=by omega
   have q:¬((a.sz:Int)<=left):=by rw[hs]<;>push_cast<;>omega
   rw[if_neg q];simp[e0,n0,e1,n1]
 ·have n0:left-(((a.eF).length:Nat):Int)<0:=by omega
  have q:¬((a.sz:Int)<=left):=by rw[hs]<;>push_cast<;>omega
  rw[if_neg q];simp[e0,n0]
theorem aB2 (a:aN) (h:a.sz<=1048576):M.YN a=some a:=by
 unfold M.YN;have hs:=aN.dJ a
 try simp only[ae.aB,az.aB,af.aB,aT.aB]
 have e3:=aoJ (a.aU) (by omega)
 have e4:=az2 (a.Funcs) (by omega)
 try simp[e3,e4]
theorem aB3 (a:aN) (h:a.sz<=1048576):M.VM a a=some true:=by
 unfold M.VM;have hs:=aN.dJ a
 try simp only[ae.aB,az.aB,af.aB,aT.aB]
 have e3:=aoK (a.aU) (by omega)
 have e4:=az3 (a.Funcs) (by omega)
 try simp[e3,e4]
theorem au9 (a:List aN) (left:Int) (ok:Vk aN.Ok a) (h0:0<=left) (h1:left<=1048576):M.JW a left=some (if (fA aN.sz a:Int)<=left then left-fA aN.sz a else -1):=by
 have hl:=ok.1;unfold M.JW;rw[wrap_i64 (by omega) (by omega)]
 refine OQ (f:=aN.sz) (F:=M.xq  a) a left h0 h1 (fun g k l h2 h3 hk=> ?_) (fun g l=> ?_)
 ·have hn:k<2^62:=by omega
  rw[M.xq];have e:=aB1 a[k] l (ok.2 _ (List.getElem_mem hk)) h2 (by omega)
  by_cases d:((aN.sz a[k]:Nat):Int)<=l
  ·have n:¬(l-((aN.sz a[k]:Nat):Int)<0):=by omega
   rw[if_pos d] at e ⊢;simp[hk,getD_lt hk,e,n,df hk (show a.length<2^62 by omega),ae.aB,az.aB,af.aB,aT.aB]
  ·rw[if_neg d] at e ⊢;simp[hk,getD_lt hk,e,ae.aB,az.aB,af.aB,aT.aB]
 ·rw[M.xq];simp
theorem ava (a:List aN) (ha:fA aN.sz a<=1048576):M.JX a=some a:=by
 have hl:=dh aN.sz a;have hn:a.length<=1048576:=by omega
 have hi:(a.length:Int)<=1073741824:=by omega
 have q:∀z,z.length=a.length->M.tH  a Go.V.aA 0 z=some a:=vJ (F:=M.tH  a) a (by omega) (fun f k out h1 h2 hk=>by
  rw[M.tH];have e:=aB2 a[k] (by have:=dY aN.sz a a[k] (List.getElem_mem hk);omega)
  simp[hk,h2,getD_lt hk,e,df hk (dI hn),ae.aB,az.aB,af.aB,aT.aB]) (fun f out=>by rw[M.tH];simp)
 unfold M.JX;rw[q _ (by simp)]
 simp[hi]
theorem avb (a:List aN) (ha:fA aN.sz a<=1048576):M.JV a a=some true:=by
 have hl:=dh aN.sz a;have hn:a.length<=1048576:=by omega
 unfold M.JV;refine LY (F:=M.wU  a a) a hn (fun f k hk=> ?_) (fun f=> ?_)
 ·rw[M.wU]
  have e:=aB3 a[k] (by have:=dY aN.sz a a[k] (List.getElem_mem hk);omega)
  simp[hk,getD_lt hk,e,df hk (dI hn),ae.aB,az.aB,af.aB,aT.aB]
 ·rw[M.wU];simp
theorem aB4 (a:dG) (left:Int) (ok:a.Ok) (h0:0<=left) (h1:left<=1048576):M.VP a left=some (if (a.sz:Int)<=left then left-a.sz else -1):=by
 unfold M.VP;have hs:=dG.dJ a;have ok1:=(dG.ok_eq a).1 ok
 try simp only[ae.aB,az.aB,af.aB,aT.aB]
 have e0:Go.IntKind.wrap .i64 (left-((a.bV).length:Int))=left-((a.bV).length:Int):=wrap_i64 (by have:=ok1.1;unfold gX at this;omega) (by omega)
 by_cases c0:(((a.bV).length:Nat):Int)<=left
 ·skip
  have n0:¬(left-(((a.bV).length:Nat):Int)<0):=by omega
  have e1:Go.IntKind.wrap .i64 (left-(((a.bV).length:Nat):Int)-((a.Func).length:Int))=left-(((a.bV).length:Nat):Int)-((a.Func).length:Int):=wrap_i64 (by have:=ok1.2.1;unfold gX at this;omega) (by omega)
  by_cases c1:(((a.Func).length:Nat):Int)<=left-(((a.bV).length:Nat):Int)
  ·skip
   have n1:¬(left-(((a.bV).length:Nat):Int)-(((a.Func).length:Nat):Int)<0):=by omega
   have e2:Go.IntKind.wrap .i64 (left-(((a.bV).length:Nat):Int)-(((a.Func).length:Nat):Int)-((a.Core).length:Int))=left-(((a.bV).length:Nat):Int)-(((a.Func).length:Nat):Int)-((a.Core).length:Int):=wrap_i64 (by have:=ok1.2.2.1;unfold gX at this;omega) (by omega)
   by_cases c2:(((a.Core).length:Nat):Int)<=left-(((a.bV).length:Nat):Int)-(((a.Func).length:Nat):Int)
   ·skip
    have n2:¬(left-(((a.bV).length:Nat):Int)-(((a.Func).length:Nat):Int)-(((a.Core).length:Nat):Int)<0):=by omega
    have q:(a.sz:Int)<=left:=by rw[hs]<;>push_cast<;>omega
    have q2:left-(a.sz:Int)=left-(((a.bV).length:Nat):Int)-(((a.Func).length:Nat):Int)-(((a.Core).length:Nat):Int):=by rw[hs]<;>push_cast<;>omega
    rw[if_pos q,q2];simp[e0,n0,e1,n1,e2,n2]
   ·have n2:left-(((a.bV).length:Nat):Int)-(((a.Func).length:Nat):Int)-(((a.Core).length:Nat):Int)<0:=by omega
    have q:¬((a.sz:Int)<=left):=by rw[hs]<;>push_cast<;>omega
    rw[if_neg q];simp[e0,n0,e1,n1,e2,n2]
  ·have n1:left-(((a.bV).length:Nat):Int)-(((a.Func).length:Nat):Int)<0:=by omega
   have q:¬((a.sz:Int)<=left):=by rw[hs]<;>push_cast<;>omega
   rw[if_neg q];simp[e0,n0,e1,n1]
 ·have n0:left-(((a.bV).length:Nat):Int)<0:=by omega
  have q:¬((a.sz:Int)<=left):=by rw[hs]<;>push_cast<;>omega
  rw[if_neg q];simp[e0,n0]
theorem aB5 (a:dG) (h:a.sz<=1048576):M.aeH a=some a:=by
 unfold M.aeH;have hs:=dG.dJ a
 try simp only[ae.aB,az.aB,af.aB,aT.aB]
 try simp[]
theorem aB6 (a:dG) (h:a.sz<=1048576):M.WR a a=some true:=by
 unfold M.WR;have hs:=dG.dJ a
 try simp only[ae.aB,az.aB,af.aB,aT.aB]
 try simp[]
theorem az4 (a:List dG) (left:Int) (ok:Vk dG.Ok a) (h0:0<=left) (h1:left<=1048576):M.Px a left=some (if (fA dG.sz a:Int)<=left then left-fA dG.sz a else -1):=by
 have hl:=ok.1;unfold M.Px;rw[wrap_i64 (by omega) (by omega)]
 refine OQ (f:=dG.sz) (F:=M.wV  a) a left h0 h1 (fun g k l h2 h3 hk=> ?_) (fun g l=> ?_)
 ·have hn:k<2^62:=by omega
  rw[M.wV];have e:=aB4 a[k] l (ok.2 _ (List.getElem_mem hk)) h2 (by omega)
  by_cases d:((dG.sz a[k]:Nat):Int)<=l
  ·have n:¬(l-((dG.sz a[k]:Nat):Int)<0):=by omega
   rw[if_pos d] at e ⊢;simp[hk,getD_lt hk,e,n,df hk (show a.length<2^62 by omega),ae.aB,az.aB,af.aB,aT.aB]
  ·rw[if_neg d] at e ⊢;simp[hk,getD_lt hk,e,ae.aB,az.aB,af.aB,aT.aB]
 ·rw[M.wV];simp
theorem az5 (a:List dG) (ha:fA dG.sz a<=1048576):M.PE a=some a:=by
 have hl:=dh dG.sz a;have hn:a.length<=1048576:=by omega
 have hi:(a.length:Int)<=1073741824:=by omega
 have q:∀z,z.length=a.length->M.sF  a Go.V.aA 0 z=some a:=vJ (F:=M.sF  a) a (by omega) (fun f k out h1 h2 hk=>by
  rw[M.sF];have e:=aB5 a[k] (by have:=dY dG.sz a a[k] (List.getElem_mem hk);omega)
  simp[hk,h2,getD_lt hk,e,df hk (dI hn),ae.aB,az.aB,af.aB,aT.aB]) (fun f out=>by rw[M.sF];simp)
 unfold M.PE;rw[q _ (by simp)]
 simp[hi]
theorem az6 (a:List dG) (ha:fA dG.sz a<=1048576):M.PW a a=some true:=by
 have hl:=dh dG.sz a;have hn:a.length<=1048576:=by omega
 unfold M.PW;refine LY (F:=M.wY  a a) a hn (fun f k hk=> ?_) (fun f=> ?_)
 ·rw[M.wY]
  have e:=aB6 a[k] (by have:=dY dG.sz a a[k] (List.getElem_mem hk);omega)
  simp[hk,getD_lt hk,e,df hk (dI hn),ae.aB,az.aB,af.aB,aT.aB]
 ·rw[M.wY];simp
theorem az7 (a:bK) (left:Int) (ok:a.Ok) (h0:0<=left) (h1:left<=1048576):M.Py a left=some (if (a.sz:Int)<=left then left-a.sz else -1):=by
 unfold M.Py;have hs:=bK.dJ a;have ok1:=(bK.ok_eq a).1 ok
 try simp only[ae.aB,az.aB,af.aB,aT.aB]
 have e0:Go.IntKind.wrap .i64 (left-((a.bV).length:Int))=left-((a.bV).length:Int):=wrap_i64 (by have:=ok1.1;unfold gX at this;omega) (by omega)
 by_cases c0:(((a.bV).length:Nat):Int)<=left
 ·skip
  have n0:¬(left-(((a.bV).length:Nat):Int)<0):=by omega
  have e1:Go.IntKind.wrap .i64 (left-(((a.bV).length:Nat):Int)-((a.Func).length:Int))=left-(((a.bV).length:Nat):Int)-((a.Func).length:Int):=wrap_i64 (by have:=ok1.2.1;unfold gX at this;omega) (by omega)
  by_cases c1:(((a.Func).length:Nat):Int)<=left-(((a.bV).length:Nat):Int)
  ·skip
   have n1:¬(left-(((a.bV).length:Nat):Int)-(((a.Func).length:Nat):Int)<0):=by omega
   have e2:Go.IntKind.wrap .i64 (left-(((a.bV).length:Nat):Int)-(((a.Func).length:Nat):Int)-((a.Import).length:Int))=left-(((a.bV).length:Nat):Int)-(((a.Func).length:Nat):Int)-((a.Import).length:Int):=wrap_i64 (by have:=ok1.2.2.1;unfold gX at this;omega) (by omega)
   by_cases c2:(((a.Import).length:Nat):Int)<=left-(((a.bV).length:Nat):Int)-(((a.Func).length:Nat):Int)
   ·skip
    have n2:¬(left-(((a.bV).length:Nat):Int)-(((a.Func).length:Nat):Int)-(((a.Import).length:Nat):Int)<0):=by omega
    have q:(a.sz:Int)<=left:=by rw[hs]<;>push_cast<;>omega
    have q2:left-(a.sz:Int)=left-(((a.bV).length:Nat):Int)-(((a.Func).length:Nat):Int)-(((a.Import).length:Nat):Int):=by rw[hs]<;>push_cast<;>omega
    rw[if_pos q,q2];simp[e0,n0,e1,n1,e2,n2]
   ·have n2:left-(((a.bV).length:Nat):Int)-(((a.Func).length:Nat):Int)-(((a.Import).length:Nat):Int)<0:=by omega
    have q:¬((a.sz:Int)<=left):=by rw[hs]<;>push_cast<;>omega
    rw[if_neg q];simp[e0,n0,e1,n1,e2,n2]
  ·have n1:left-(((a.bV).length:Nat):Int)-(((a.Func).length:Nat):Int)<0:=by omega
   have q:¬((a.sz:Int)<=left):=by rw[hs]<;>push_cast<;>omega
   rw[if_neg q];simp[e0,n0,e1,n1]
 ·have n0:left-(((a.bV).length:Nat):Int)<0:=by omega
  have q:¬((a.sz:Int)<=left):=by rw[hs]<;>push_cast<;>omega
  rw[if_neg q];simp[e0,n0]
theorem az8 (a:bK) (h:a.sz<=1048576):M.ZA a=some a:=by
 unfold M.ZA;have hs:=bK.dJ a
 try simp only[ae.aB,az.aB,af.aB,aT.aB]
 try simp[]
theorem az9 (a:bK) (h:a.sz<=1048576):M.PX a a=some true:=by
 unfold M.PX;have hs:=bK.dJ a
 try simp only[ae.aB,az.aB,af.aB,aT.aB]
 try simp[]
theorem ayT (a:List bK) (left:Int) (ok:Vk bK.Ok a) (h0:0<=left) (h1:left<=1048576):M.Kz a left=some (if (fA bK.sz a:Int)<=left then left-fA bK.sz a else -1):=by
 have hl:=ok.1;unfold M.Kz;rw[wrap_i64 (by omega) (by omega)]
 refine OQ (f:=bK.sz) (F:=M.tX  a) a left h0 h1 (fun g k l h2 h3 hk=> ?_) (fun g l=> ?_)
 ·have hn:k<2^62:=by omega
  rw[M.tX];have e:=az7 a[k] l (ok.2 _ (List.getElem_mem hk)) h2 (by omega)
  by_cases d:((bK.sz a[k]:Nat):Int)<=l
  ·have n:¬(l-((bK.sz a[k]:Nat):Int)<0):=by omega
   rw[if_pos d] at e ⊢;simp[hk,getD_lt hk,e,n,df hk (show a.length<2^62 by omega),ae.aB,az.aB,af.aB,aT.aB]
  ·rw[if_neg d] at e ⊢;simp[hk,getD_lt hk,e,ae.aB,az.aB,af.aB,aT.aB]
 ·rw[M.tX];simp
theorem ayU (a:List bK) (ha:fA bK.sz a<=1048576):M.KC a=some a:=by
 have hl:=dh bK.sz a;have hn:a.length<=1048576:=by omega
 have hi:(a.length:Int)<=1073741824:=by omega
 have q:∀z,z.length=a.length->M.pq  a Go.V.aA 0 z=some a:=vJ (F:=M.pq  a) a (by omega) (fun f k out h1 h2 hk=>by
  rw[M.pq];have e:=az8 a[k] (by have:=dY bK.sz a a[k] (List.getElem_mem hk);omega)
  simp[hk,h2,getD_lt hk,e,df hk (dI hn),ae.aB,az.aB,af.aB,aT.aB]) (fun f out=>by rw[M.pq];simp)
 unfold M.KC;rw[q _ (by simp)]
 simp[hi]
theorem ayV (a:List bK) (ha:fA bK.sz a<=1048576):M.KN a a=some true:=by
 have hl:=dh bK.sz a;have hn:a.length<=1048576:=by omega
 unfold M.KN;refine LY (F:=M.uh  a a) a hn (fun f k hk=> ?_) (fun f=> ?_)
 ·rw[M.uh]
  have e:=az9 a[k] (by have:=dY bK.sz a a[k] (List.getElem_mem hk);omega)
  simp[hk,getD_lt hk,e,df hk (dI hn),ae.aB,az.aB,af.aB,aT.aB]
 ·rw[M.uh];simp
theorem aDc (a:bH) (h:a.sz<=1048576):M.am2 a=some a:=by
 unfold M.am2;have hs:=bH.dJ a
 try simp only[ae.aB,az.aB,af.aB,aT.aB]
 try simp[]
theorem aDd (a:bH) (h:a.sz<=1048576):M.afL a a=some true:=by
 unfold M.afL;have hs:=bH.dJ a
 try simp only[ae.aB,az.aB,af.aB,aT.aB]
 try simp[]
theorem aB7 (a:List bH) (left:Int) (ok:Vk bH.Ok a) (h0:0<=left) (h1:left<=1048576):M.XB a left=some (if (fA bH.sz a:Int)<=left then left-fA bH.sz a else -1):=by
 have hl:=ok.1;unfold M.XB;rw[wrap_i64 (by omega) (by omega)]
 exact aB8 (f:=bH.sz) (fun _=>rfl) a left h0
theorem aB9 (a:List bH) (ha:fA bH.sz a<=1048576):M.XG a=some a:=by
 have hl:=dh bH.sz a;have hn:a.length<=1048576:=by omega
 have hi:(a.length:Int)<=1073741824:=by omega
 have q:∀z,z.length=a.length->M.wB  a Go.V.aA 0 z=some a:=vJ (F:=M.wB  a) a (by omega) (fun f k out h1 h2 hk=>by
  rw[M.wB];have e:=aDc a[k] (by have:=dY bH.sz a a[k] (List.getElem_mem hk);omega)
  simp[hk,h2,getD_lt hk,e,df hk (dI hn),ae.aB,az.aB,af.aB,aT.aB]) (fun f out=>by rw[M.wB];simp)
 unfold M.XG;rw[q _ (by simp)]
 simp[hi]
theorem aCa (a:List bH) (ha:fA bH.sz a<=1048576):M.Ya a a=some true:=by
 have hl:=dh bH.sz a;have hn:a.length<=1048576:=by omega
 unfold M.Ya;refine LY (F:=M.zi  a a) a hn (fun f k hk=> ?_) (fun f=> ?_)
 ·rw[M.zi]
  have e:=aDd a[k] (by have:=dY bH.sz a a[k] (List.getElem_mem hk);omega)
  simp[hk,getD_lt hk,e,df hk (dI hn),ae.aB,az.aB,af.aB,aT.aB]
 ·rw[M.zi];simp
theorem aCb (a:aJ) (left:Int) (ok:a.Ok) (h0:0<=left) (h1:left<=1048576):M.XC a left=some (if (a.sz:Int)<=left then left-a.sz else -1):=by
 unfold M.XC;have hs:=aJ.dJ a;have ok1:=(aJ.ok_eq a).1 ok
 try simp only[ae.aB,az.aB,af.aB,aT.aB]
 have e0:Go.IntKind.wrap .i64 (left-((a.Name).length:Int))=left-((a.Name).length:Int):=wrap_i64 (by have:=ok1.1;unfold gX at this;omega) (by omega)
 by_cases c0:(((a.Name).length:Nat):Int)<=left
 ·skip
  have n0:¬(left-(((a.Name).length:Nat):Int)<0):=by omega
  have e1:=aB7 (a.Code) (left-(((a.Name).length:Nat):Int)) ok1.2.2.2.2.1 (by omega) (by omega)
  by_cases c1:((fA bH.sz (a.Code):Nat):Int)<=left-(((a.Name).length:Nat):Int)
  ·rw[if_pos c1] at e1
   have n1:¬(left-(((a.Name).length:Nat):Int)-((fA bH.sz (a.Code):Nat):Int)<0):=by omega
   have q:(a.sz:Int)<=left:=by rw[hs]<;>push_cast<;>omega
   have q2:left-(a.sz:Int)=left-(((a.Name).length:Nat):Int)-((fA bH.sz (a.Code):Nat):Int):=by rw[hs]<;>push_cast<;>omega
   rw[if_pos q,q2];simp[e0,n0,e1,n1]
  ·rw[if_neg c1] at e1
   have q:¬((a.sz:Int)<=left):=by rw[hs]<;>push_cast<;>omega
   rw[if_neg q];simp[e0,n0,e1]
 ·have n0:left-(((a.Name).length:Nat):Int)<0:=by omega
  have q:¬((a.sz:Int)<=left):=by rw[hs]<;>push_cast<;>omega
  rw[if_neg q];simp[e0,n0]
theorem aCc (a:aJ) (h:a.sz<=1048576):M.XH a=some (a.Name,a.Params,a.gz,a.Result,a.Code):=by
 unfold M.XH;have hs:=aJ.dJ a
 try simp only[ae.aB,az.aB,af.aB,aT.aB]
 have e4:=aB9 (a.Code) (by omega)
 try simp[e4]
theorem aCd (a:aJ) (h:a.sz<=1048576):M.Yb a a=some true:=by
 unfold M.Yb;have hs:=aJ.dJ a
 try simp only[ae.aB,az.aB,af.aB,aT.aB]
 have e4:=aCa (a.Code) (by omega)
 try simp[e4]
theorem aAa (a:List aJ) (left:Int) (ok:Vk aJ.Ok a) (h0:0<=left) (h1:left<=1048576):M.Ql a left=some (if (fA aJ.sz a:Int)<=left then left-fA aJ.sz a else -1):=by
 have hl:=ok.1;unfold M.Ql;rw[wrap_i64 (by omega) (by omega)]
 refine OQ (f:=aJ.sz) (F:=M.wZ  a) a left h0 h1 (fun g k l h2 h3 hk=> ?_) (fun g l=> ?_)
 ·have hn:k<2^62:=by omega
  rw[M.wZ];have e:=aCb a[k] l (ok.2 _ (List.getElem_mem hk)) h2 (by omega)
  by_cases d:((aJ.sz a[k]:Nat):Int)<=l
  ·have n:¬(l-((aJ.sz a[k]:Nat):Int)<0):=by omega
   rw[if_pos d] at e ⊢;simp[hk,getD_lt hk,e,n,df hk (show a.length<2^62 by omega),ae.aB,az.aB,af.aB,aT.aB]
  ·rw[if_neg d] at e ⊢;simp[hk,getD_lt hk,e,ae.aB,az.aB,af.aB,aT.aB]
 ·rw[M.wZ];simp
theorem aAb (a:List aJ) (ha:fA aJ.sz a<=1048576):M.Qo a=some a:=by
 have hl:=dh aJ.sz a;have hn:a.length<=1048576:=by omega
 have hi:(a.length:Int)<=1073741824:=by omega
 have q:∀z,z.length=a.length->M.sN  a Go.V.aA 0 z=some a:=vJ (F:=M.sN  a) a (by omega) (fun f k out h1 h2 hk=>by
  rw[M.sN];have e:=aCc a[k] (by have:=dY aJ.sz a a[k] (List.getElem_mem hk);omega)
  simp[hk,h2,getD_lt hk,e,df hk (dI hn),ae.aB,az.aB,af.aB,aT.aB]) (fun f out=>by rw[M.sN];simp)
 unfold M.Qo;rw[q _ (by simp)]
 simp[hi]
theorem aAc (a:List aJ) (ha:fA aJ.sz a<=1048576):M.QC a a=some true:=by
 have hl:=dh aJ.sz a;have hn:a.length<=1048576:=by omega
 unfold M.QC;refine LY (F:=M.xg  a a) a hn (fun f k hk=> ?_) (fun f=> ?_)
 ·rw[M.xg]
  have e:=aCd a[k] (by have:=dY aJ.sz a a[k] (List.getElem_mem hk);omega)
  simp[hk,getD_lt hk,e,df hk (dI hn),ae.aB,az.aB,af.aB,aT.aB]
 ·rw[M.xg];simp
theorem ayW (a:aF) (left:Int) (ok:a.Ok) (h0:0<=left) (h1:left<=1048576):M.Lc a left=some (if (a.sz:Int)<=left then left-a.sz else -1):=by
 unfold M.Lc;have hs:=aF.dJ a;have ok1:=(aF.ok_eq a).1 ok
 try simp only[ae.aB,az.aB,af.aB,aT.aB]
 have e0:Go.IntKind.wrap .i64 (left-((a.Name).length:Int))=left-((a.Name).length:Int):=wrap_i64 (by have:=ok1.1;unfold gX at this;omega) (by omega)
 by_cases c0:(((a.Name).length:Nat):Int)<=left
 ·skip
  have n0:¬(left-(((a.Name).length:Nat):Int)<0):=by omega
  have q:(a.sz:Int)<=left:=by rw[hs]<;>push_cast<;>omega
  have q2:left-(a.sz:Int)=left-(((a.Name).length:Nat):Int):=by rw[hs]<;>push_cast<;>omega
  rw[if_pos q,q2];simp[e0,n0]
 ·have n0:left-(((a.Name).length:Nat):Int)<0:=by omega
  have q:¬((a.sz:Int)<=left):=by rw[hs]<;>push_cast<;>omega
  rw[if_neg q];simp[e0,n0]
theorem ayX (a:aF) (h:a.sz<=1048576):M.Sm a=some a:=by
 unfold M.Sm;have hs:=aF.dJ a
 try simp only[ae.aB,az.aB,af.aB,aT.aB]
 try simp[]
theorem ayY (a:aF) (h:a.sz<=1048576):M.LD a a=some true:=by
 unfold M.LD;have hs:=aF.dJ a
 try simp only[ae.aB,az.aB,af.aB,aT.aB]
 try simp[]
theorem awQ (a:List aF) (left:Int) (ok:Vk aF.Ok a) (h0:0<=left) (h1:left<=1048576):M.G6 a left=some (if (fA aF.sz a:Int)<=left then left-fA aF.sz a else -1):=by
 have hl:=ok.1;unfold M.G6;rw[wrap_i64 (by omega) (by omega)]
 refine OQ (f:=aF.sz) (F:=M.qA  a) a left h0 h1 (fun g k l h2 h3 hk=> ?_) (fun g l=> ?_)
 ·have hn:k<2^62:=by omega
  rw[M.qA];have e:=ayW a[k] l (ok.2 _ (List.getElem_mem hk)) h2 (by omega)
  by_cases d:((aF.sz a[k]:Nat):Int)<=l
  ·have n:¬(l-((aF.sz a[k]:Nat):Int)<0):=by omega
   rw[if_pos d] at e ⊢;simp[hk,getD_lt hk,e,n,df hk (show a.length<2^62 by omega),ae.aB,az.aB,af.aB,aT.aB]
  ·rw[if_neg d] at e ⊢;simp[hk,getD_lt hk,e,ae.aB,az.aB,af.aB,aT.aB]
 ·rw[M.qA];simp
theorem awR (a:List aF) (ha:fA aF.sz a<=1048576):M.G7 a=some a:=by
 have hl:=dh aF.sz a;have hn:a.length<=1048576:=by omega
 have hi:(a.length:Int)<=1073741824:=by omega
 have q:∀z,z.length=a.length->M.nI  a Go.V.aA 0 z=some a:=vJ (F:=M.nI  a) a (by omega) (fun f k out h1 h2 hk=>by
  rw[M.nI];have e:=ayX a[k] (by have:=dY aF.sz a a[k] (List.getElem_mem hk);omega)
  simp[hk,h2,getD_lt hk,e,df hk (dI hn),ae.aB,az.aB,af.aB,aT.aB]) (fun f out=>by rw[M.nI];simp)
 unfold M.G7;rw[q _ (by simp)]
 simp[hi]
theorem awS (a:List aF) (ha:fA aF.sz a<=1048576):M.Hm a a=some true:=by
 have hl:=dh aF.sz a;have hn:a.length<=1048576:=by omega
 unfold M.Hm;refine LY (F:=M.qF  a a) a hn (fun f k hk=> ?_) (fun f=> ?_)
 ·rw[M.qF]
  have e:=ayY a[k] (by have:=dY aF.sz a a[k] (List.getElem_mem hk);omega)
  simp[hk,getD_lt hk,e,df hk (dI hn),ae.aB,az.aB,af.aB,aT.aB]
 ·rw[M.qF];simp
theorem ayZ (a:aI) (left:Int) (ok:a.Ok) (h0:0<=left) (h1:left<=1048576):M.KA a left=some (if (a.sz:Int)<=left then left-a.sz else -1):=by
 unfold M.KA;have hs:=aI.dJ a;have ok1:=(aI.ok_eq a).1 ok
 try simp only[ae.aB,az.aB,af.aB,aT.aB]
 have e0:=awQ (a.ak) (left) ok1.2.1 (by omega) (by omega)
 by_cases c0:((fA aF.sz (a.ak):Nat):Int)<=left
 ·rw[if_pos c0] at e0
  have n0:¬(left-((fA aF.sz (a.ak):Nat):Int)<0):=by omega
  have e1:=aAa (a.bg) (left-((fA aF.sz (a.ak):Nat):Int)) ok1.2.2.1 (by omega) (by omega)
  by_cases c1:((fA aJ.sz (a.bg):Nat):Int)<=left-((fA aF.sz (a.ak):Nat):Int)
  ·rw[if_pos c1] at e1
   have n1:¬(left-((fA aF.sz (a.ak):Nat):Int)-((fA aJ.sz (a.bg):Nat):Int)<0):=by omega
   have q:(a.sz:Int)<=left:=by rw[hs]<;>push_cast<;>omega
   have q2:left-(a.sz:Int)=left-((fA aF.sz (a.ak):Nat):Int)-((fA aJ.sz (a.bg):Nat):Int):=by rw[hs]<;>push_cast<;>omega
   rw[if_pos q,q2];simp[e0,n0,e1,n1]
  ·rw[if_neg c1] at e1
   have q:¬((a.sz:Int)<=left):=by rw[hs]<;>push_cast<;>omega
   rw[if_neg q];simp[e0,n0,e1]
 ·rw[if_neg c0] at e0
  have q:¬((a.sz:Int)<=left):=by rw[hs]<;>push_cast<;>omega
  rw[if_neg q];simp[e0]
theorem ay0 (a:aI) (h:a.sz<=1048576):M.KD a=some (a.ja,a.ak,a.bg):=by
 unfold M.KD;have hs:=aI.dJ a
 try simp only[ae.aB,az.aB,af.aB,aT.aB]
 have e1:=awR (a.ak) (by omega)
 have e2:=aAb (a.bg) (by omega)
 try simp[e1,e2]
theorem ay1 (a:aI) (h:a.sz<=1048576):M.KO a a=some true:=by
 unfold M.KO;have hs:=aI.dJ a
 try simp only[ae.aB,az.aB,af.aB,aT.aB]
 have e1:=awS (a.ak) (by omega)
 have e2:=aAc (a.bg) (by omega)
 try simp[e1,e2]
theorem asA (a:ay) (left:Int) (ok:a.Ok) (h0:0<=left) (h1:left<=1048576):M.tY a left=some (if (a.sz:Int)<=left then left-a.sz else -1):=by
 unfold M.tY;have hs:=ay.dJ a;have ok1:=(ay.ok_eq a).1 ok
 try simp only[ae.aB,az.aB,af.aB,aT.aB]
 have e0:Go.IntKind.wrap .i64 (left-((a.Name).length:Int))=left-((a.Name).length:Int):=wrap_i64 (by have:=ok1.1;unfold gX at this;omega) (by omega)
 by_cases c0:(((a.Name).length:Nat):Int)<=left
 ·skip
  have n0:¬(left-(((a.Name).length:Nat):Int)<0):=by omega
  have e1:Go.IntKind.wrap .i64 (left-(((a.Name).length:Nat):Int)-((a.Version).length:Int))=left-(((a.Name).length:Nat):Int)-((a.Version).length:Int):=wrap_i64 (by have:=ok1.2.1;unfold gX at this;omega) (by omega)
  by_cases c1:(((a.Version).length:Nat):Int)<=left-(((a.Name).length:Nat):Int)
  ·skip
   have n1:¬(left-(((a.Name).length:Nat):Int)-(((a.Version).length:Nat):Int)<0):=by omega
   have e2:=au9 (a.ak) (left-(((a.Name).length:Nat):Int)-(((a.Version).length:Nat):Int)) ok1.2.2.1 (by omega) (by omega)
   by_cases c2:((fA aN.sz (a.ak):Nat):Int)<=left-(((a.Name).length:Nat):Int)-(((a.Version).length:Nat):Int)
   ·rw[if_pos c2] at e2
    have n2:¬(left-(((a.Name).length:Nat):Int)-(((a.Version).length:Nat):Int)-((fA aN.sz (a.ak):Nat):Int)<0):=by omega
    have e3:=au9 (a.bM) (left-(((a.Name).length:Nat):Int)-(((a.Version).length:Nat):Int)-((fA aN.sz (a.ak):Nat):Int)) ok1.2.2.2.1 (by omega) (by omega)
    by_cases c3:((fA aN.sz (a.bM):Nat):Int)<=left-(((a.Name).length:Nat):Int)-(((a.Version).length:Nat):Int)-((fA aN.sz (a.ak):Nat):Int)
    ·rw[if_pos c3] at e3
     have n3:¬(left-(((a.Name).length:Nat):Int)-(((a.Version).length:Nat):Int)-((fA aN.sz (a.ak):Nat):Int)-((fA aN.sz (a.bM):Nat):Int)<0):=by omega
     have e4:=ayZ (a.Module) (left-(((a.Name).length:Nat):Int)-(((a.Version).length:Nat):Int)-((fA aN.sz (a.ak):Nat):Int)-((fA aN.sz (a.bM):Nat):Int)) ok1.2.2.2.2.2.2.1 (by omega) (by omega)
     by_cases c4:(((a.Module).sz:Nat):Int)<=left-(((a.Name).length:Nat):Int)-(((a.Version).length:Nat):Int)-((fA aN.sz (a.ak):Nat):Int)-((fA aN.sz (a.bM):Nat):Int)
     ·rw[if_pos c4] at e4
      have n4:¬(left-(((a.Name).length:Nat):Int)-(((a.Version).length:Nat):Int)-((fA aN.sz (a.ak):Nat):Int)-((fA aN.sz (a.bM):Nat):Int)-(((a.Module).sz:Nat):Int)<0):=by omega
      have e5:=az4 (a.gu) (left-(((a.Name).length:Nat):Int)-(((a.Version).length:Nat):Int)-((fA aN.sz (a.ak):Nat):Int)-((fA aN.sz (a.bM):Nat):Int)-(((a.Module).sz:Nat):Int)) ok1.2.2.2.2.2.2.2.1 (by omega) (by omega)
      by_cases c5:((fA dG.sz (a.gu):Nat):Int)<=left-(((a.Name).length:Nat):Int)-(((a.Version).length:Nat):Int)-((fA aN.sz (a.ak):Nat):Int)-((fA aN.sz (a.bM):Nat):Int)-(((a.Module).sz:Nat):Int)
      ·rw[if_pos c5] at e5
       have n5:¬(left-(((a.Name).length:Nat):Int)-(((a.Version).length:Nat):Int)-((fA aN.sz (a.ak):Nat):Int)-((fA aN.sz (a.bM):Nat):Int)-(((a.Module).sz:Nat):Int)-((fA dG.sz (a.gu):Nat):Int)<0):=by omega
       have e6:=ayT (a.dE) (left-(((a.Name).length:Nat):Int)-(((a.Version).length:Nat):Int)-((fA aN.sz (a.ak):Nat):Int)-((fA aN.sz (a.bM):Nat):Int)-(((a.Module).sz:Nat):Int)-((fA dG.sz (a.gu):Nat):Int)) ok1.2.2.2.2.2.2.2.2.1 (by omega) (by omega)
       by_cases c6:((fA bK.sz (a.dE):Nat):Int)<=left-(((a.Name).length:Nat):Int)-(((a.Version).length:Nat):Int)-((fA aN.sz (a.ak):Nat):Int)-((fA aN.sz (a.bM):Nat):Int)-(((a.Module).sz:Nat):Int)-((fA dG.sz (a.gu):Nat):Int)
       ·rw[if_pos c6] at e6
        have n6:¬(left-(((a.Name).length:Nat):Int)-(((a.Version).length:Nat):Int)-((fA aN.sz (a.ak):Nat):Int)-((fA aN.sz (a.bM):Nat):Int)-(((a.Module).sz:Nat):Int)-((fA dG.sz (a.gu):Nat):Int)-((fA bK.sz (a.dE):Nat):Int)<0):=by omega
        have e7:=au3 (a.Builtins) (left-(((a.Name).length:Nat):Int)-(((a.Version).length:Nat):Int)-((fA aN.sz (a.ak):Nat):Int)-((fA aN.sz (a.bM):Nat):Int)-(((a.Module).sz:Nat):Int)-((fA dG.sz (a.gu):Nat):Int)-((fA bK.sz (a.dE):Nat):Int)) ok1.2.2.2.2.2.2.2.2.2.1 (by omega) (by omega)
        by_cases c7:((fA aK.sz (a.Builtins):Nat):Int)<=left-(((a.Name).length:Nat):Int)-(((a.Version).length:Nat):Int)-((fA aN.sz (a.ak):Nat):Int)-((fA aN.sz (a.bM):Nat):Int)-(((a.Module).sz:Nat):Int)-((fA dG.sz (a.gu):Nat):Int)-((fA bK.sz (a.dE):Nat):Int)
        ·rw[if_pos c7] at e7
         have n7:¬(left-(((a.Name).length:Nat):Int)-(((a.Version).length:Nat):Int)-((fA aN.sz (a.ak):Nat):Int)-((fA aN.sz (a.bM):Nat):Int)-(((a.Module).sz:Nat):Int)-((fA dG.sz (a.gu):Nat):Int)-((fA bK.sz (a.dE):Nat):Int)-((fA aK.sz (a.Builtins):Nat):Int)<0):=by omega
         have q:(a.sz:Int)<=left:=by rw[hs]<;>push_cast<;>omega
         have q2:left-(a.sz:Int)=left-(((a.Name).length:Nat):Int)-(((a.Version).length:Nat):Int)-((fA aN.sz (a.ak):Nat):Int)-((fA aN.sz (a.bM):Nat):Int)-(((a.Module).sz:Nat):Int)-((fA dG.sz (a.gu):Nat):Int)-((fA bK.sz (a.dE):Nat):Int)-((fA aK.sz (a.Builtins):Nat):Int):=by rw[hs]<;>push_cast<;>omega
         rw[if_pos q,q2];simp[e0,n0,e1,n1,e2,n2,e3,n3,e4,n4,e5,n5,e6,n6,e7,n7]
        ·rw[if_neg c7] at e7
         have q:¬((a.sz:Int)<=left):=by rw[hs]<;>push_cast<;>omega
         rw[if_neg q];simp[e0,n0,e1,n1,e2,n2,e3,n3,e4,n4,e5,n5,e6,n6,e7]
       ·rw[if_neg c6] at e6
        have q:¬((a.sz:Int)<=left):=by rw[hs]<;>push_cast<;>omega
        rw[if_neg q];simp[e0,n0,e1,n1,e2,n2,e3,n3,e4,n4,e5,n5,e6]
      ·rw[if_neg c5] at e5
       have q:¬((a.sz:Int)<=left):=by rw[hs]<;>push_cast<;>omega
       rw[if_neg q];simp[e0,n0,e1,n1,e2,n2,e3,n3,e4,n4,e5]
     ·rw[if_neg c4] at e4
      have q:¬((a.sz:Int)<=left):=by rw[hs]<;>push_cast<;>omega
      rw[if_neg q];simp[e0,n0,e1,n1,e2,n2,e3,n3,e4]
    ·rw[if_neg c3] at e3
     have q:¬((a.sz:Int)<=left):=by rw[hs]<;>push_cast<;>omega
     rw[if_neg q];simp[e0,n0,e1,n1,e2,n2,e3]
   ·rw[if_neg c2] at e2
    have q:¬((a.sz:Int)<=left):=by rw[hs]<;>push_cast<;>omega
    rw[if_neg q];simp[e0,n0,e1,n1,e2]
  ·have n1:left-(((a.Name).length:Nat):Int)-(((a.Version).length:Nat):Int)<0:=by omega
   have q:¬((a.sz:Int)<=left):=by rw[hs]<;>push_cast<;>omega
   rw[if_neg q];simp[e0,n0,e1,n1]
 ·have n0:left-(((a.Name).length:Nat):Int)<0:=by omega
  have q:¬((a.sz:Int)<=left):=by rw[hs]<;>push_cast<;>omega
  rw[if_neg q];simp[e0,n0]
theorem asB (a:ay) (h:a.sz<=1048576):M.tZ a=some (a.Name,a.Version,a.ak,a.bM,a.Encoding,a.kz,a.Module.ja,a.Module.ak,a.Module.bg,a.gu,a.dE,a.Builtins):=by
 unfold M.tZ;have hs:=ay.dJ a
 try simp only[ae.aB,az.aB,af.aB,aT.aB]
 have e2:=ava (a.ak) (by omega)
 have e3:=ava (a.bM) (by omega)
 have e6:=ay0 (a.Module) (by omega)
 have e7:=az5 (a.gu) (by omega)
 have e8:=ayU (a.dE) (by omega)
 have e9:=au4 (a.Builtins) (by omega)
 try simp[e2,e3,e6,e7,e8,e9]
theorem asC (a:ay) (h:a.sz<=1048576):M.ui a a=some true:=by
 unfold M.ui;have hs:=ay.dJ a
 try simp only[ae.aB,az.aB,af.aB,aT.aB]
 have e2:=avb (a.ak) (by omega)
 have e3:=avb (a.bM) (by omega)
 have e6:=ay1 (a.Module) (by omega)
 have e7:=az6 (a.gu) (by omega)
 have e8:=ayV (a.dE) (by omega)
 have e9:=au5 (a.Builtins) (by omega)
 try simp[e2,e3,e6,e7,e8,e9]
end M
