/-
  Part of the proof of the claim.
-/
import Derived.Test.YtbeijibjinbgcaaGreatDoorXHZM
import Derived.Test.YtbeijibjinbgcaaGreatDoorXHlaw
import Derived.Test.YtbeijibjinbgcaaGreatDoorXHpl
set_option linter.unusedVariables false
set_option linter.unusedSimpArgs false
namespace M
def mf(s:List UInt8):Prop:=s.length<=9223372036854775807
def dE{α:Type}(p:α->Prop)(l:List α):Prop:=l.length<=9223372036854775807/\∀x∈l,p x
def aw.sz(a:aw):Nat:=0
theorem aw.cT(a:aw):a.sz=0:=rfl
def aw.Ok(a:aw):Prop:=I64 (a.Kind)/\I64 (a.A)/\I64 (a.B)/\True
theorem aw.ok_eq(a:aw):a.Ok↔(I64 (a.Kind)/\I64 (a.A)/\I64 (a.B)/\True):=xc
def az.sz(a:az):Nat:=0
theorem az.cT(a:az):a.sz=0:=rfl
def az.Ok(a:az):Prop:=I64 (a.Task)/\I64 (a.Kind)/\I64 (a.A)/\I64 (a.B)/\True
theorem az.ok_eq(a:az):a.Ok↔(I64 (a.Task)/\I64 (a.Kind)/\I64 (a.A)/\I64 (a.B)/\True):=xc
def ar.sz(a:ar):Nat:=aR aw.sz (a.Ops)
theorem ar.cT(a:ar):a.sz=aR aw.sz (a.Ops):=rfl
def ar.Ok(a:ar):Prop:=I64 (a.dQ)/\dE aw.Ok (a.Ops)/\True
theorem ar.ok_eq(a:ar):a.Ok↔(I64 (a.dQ)/\dE aw.Ok (a.Ops)/\True):=xc
mutual
def aa.sz:aa->Nat
 |.mk v0 v1 v2 v3=>(v1).length+aR List.length (v2)+aa.nk v3
def aa.nk:List aa->Nat
 |[]=>0
 |t::r=>aa.sz t+1+aa.nk r
end
theorem aa.yp:∀l:List aa,aa.nk l=aR aa.sz l
 |[]=>rfl
 |t::r=>by simp only[aa.nk,aR,aa.yp r]
theorem aa.cT(a:aa):a.sz=(a.Name).length+aR List.length (a.bY)+aR aa.sz (a.Kids):=by cases a;simp only[aa.sz,aa.yp];rfl
mutual
def aa.Ok:aa->Prop
 |.mk v0 v1 v2 v3=>I64 (v0)/\mf (v1)/\dE mf (v2)/\(v3.length<=9223372036854775807/\aa.ic v3)/\True
def aa.ic:List aa->Prop
 |[]=>True
 |t::r=>aa.Ok t/\aa.ic r
end
theorem aa.yq:∀l:List aa,aa.ic l↔∀x∈l,aa.Ok x
 |[]=>by simp[aa.ic]
 |t::r=>by simp[aa.ic,aa.yq r]
theorem aa.ok_eq(a:aa):a.Ok↔(I64 (a.Kind)/\mf (a.Name)/\dE mf (a.bY)/\dE aa.Ok (a.Kids)/\True):=by
 cases a;simp only[aa.Ok,aa.yq,dE];exact xc
mutual
def af.sz:af->Nat
 |.mk v0 v1 v2 v3=>(v2).length+af.nk v3
def af.nk:List af->Nat
 |[]=>0
 |t::r=>af.sz t+1+af.nk r
end
theorem af.yp:∀l:List af,af.nk l=aR af.sz l
 |[]=>rfl
 |t::r=>by simp only[af.nk,aR,af.yp r]
theorem af.cT(a:af):a.sz=(a.Text).length+aR af.sz (a.Kids):=by cases a;simp only[af.sz,af.yp];rfl
mutual
def af.Ok:af->Prop
 |.mk v0 v1 v2 v3=>I64 (v0)/\I64 (v1)/\mf (v2)/\(v3.length<=9223372036854775807/\af.ic v3)/\True
def af.ic:List af->Prop
 |[]=>True
 |t::r=>af.Ok t/\af.ic r
end
theorem af.yq:∀l:List af,af.ic l↔∀x∈l,af.Ok x
 |[]=>by simp[af.ic]
 |t::r=>by simp[af.ic,af.yq r]
theorem af.ok_eq(a:af):a.Ok↔(I64 (a.Kind)/\I64 (a.Num)/\mf (a.Text)/\dE af.Ok (a.Kids)/\True):=by
 cases a;simp only[af.Ok,af.yq,dE];exact xc
def ae.sz(a:ae):Nat:=(a.cq).sz+aR af.sz (a.Buffer)
theorem ae.cT(a:ae):a.sz=(a.cq).sz+aR af.sz (a.Buffer):=rfl
def ae.Ok(a:ae):Prop:=aa.Ok (a.cq)/\I64 (a.Room)/\True/\dE af.Ok (a.Buffer)/\I64 (a.Put)/\I64 (a.dz)/\True/\True/\True
theorem ae.ok_eq(a:ae):a.Ok↔(aa.Ok (a.cq)/\I64 (a.Room)/\True/\dE af.Ok (a.Buffer)/\I64 (a.Put)/\I64 (a.dz)/\True/\True/\True):=xc
def ad.sz(a:ad):Nat:=aR (fun _=>0) (a.bg)+aR (fun _=>0) (a.Set)
theorem ad.cT(a:ad):a.sz=aR (fun _=>0) (a.bg)+aR (fun _=>0) (a.Set):=rfl
def ad.Ok(a:ad):Prop:=I64 (a.Id)/\I64 (a.Prog)/\I64 (a.PC)/\I64 (a.dy)/\I64 (a.Status)/\I64 (a.Result)/\True/\True/\True/\dE I64 (a.bg)/\dE I64 (a.Set)/\True
theorem ad.ok_eq(a:ad):a.Ok↔(I64 (a.Id)/\I64 (a.Prog)/\I64 (a.PC)/\I64 (a.dy)/\I64 (a.Status)/\I64 (a.Result)/\True/\True/\True/\dE I64 (a.bg)/\dE I64 (a.Set)/\True):=xc
def ai.sz(a:ai):Nat:=aR ar.sz (a.aT)+aR ae.sz (a.aX)+aR ad.sz (a.aC)+aR (fun _=>0) (a.Back)+aR az.sz (a.Notes)
theorem ai.cT(a:ai):a.sz=aR ar.sz (a.aT)+aR ae.sz (a.aX)+aR ad.sz (a.aC)+aR (fun _=>0) (a.Back)+aR az.sz (a.Notes):=rfl
def ai.Ok(a:ai):Prop:=dE ar.Ok (a.aT)/\dE ae.Ok (a.aX)/\dE ad.Ok (a.aC)/\dE I64 (a.Back)/\dE az.Ok (a.Notes)/\True
theorem ai.ok_eq(a:ai):a.Ok↔(dE ar.Ok (a.aT)/\dE ae.Ok (a.aX)/\dE ad.Ok (a.aC)/\dE I64 (a.Back)/\dE az.Ok (a.Notes)/\True):=xc
theorem aw.ie(a:aw)(h:∀m,Go.V.iU m .cu a):a.Ok:=⟨(h 0).1,(h 0).2.1,(h 0).2.2.1,trivial⟩
theorem az.ie(a:az)(h:∀m,Go.V.iU m .Note a):a.Ok:=⟨(h 0).1,(h 0).2.1,(h 0).2.2.1,(h 0).2.2.2.1,trivial⟩
theorem ar.ie(a:ar)(h:∀m,Go.V.iU m .Prog a):a.Ok:=⟨(h 0).1,⟨((h 0).2.1).1,fun y hy=>aw.ie y (fun m=>((h (m+1)).2.1).2 y hy)⟩,trivial⟩
mutual
theorem aa.ie:∀(a:aa),(∀m,Go.V.iU m .Type a)->a.Ok
 |.mk v0 v1 v2 v3,h=>by
   simp only[aa.Ok];exact⟨(h 0).1,(h 0).2.1,⟨((h 0).2.2.1).1,fun y hy=>((fun m=>((h (m+1)).2.2.1).2 y hy) 0).1⟩,⟨((h 0).2.2.2.1).1,(aa.yt _ fun y hy m=>((h (m+1)).2.2.2.1).2 y hy)⟩,trivial⟩
theorem aa.yt:∀(l:List aa),(∀y∈l,∀m,Go.V.iU m .Type y)->aa.ic l
 |[],_=>by simp only[aa.ic]
 |t::r,h=>by
  simp only[aa.ic];exact⟨aa.ie t (h t (by simp)),aa.yt r fun y hy=>h y (by simp[hy])⟩
end
mutual
theorem af.ie:∀(a:af),(∀m,Go.V.iU m .Value a)->a.Ok
 |.mk v0 v1 v2 v3,h=>by
   simp only[af.Ok];exact⟨(h 0).1,(h 0).2.1,(h 0).2.2.1,⟨((h 0).2.2.2.1).1,(af.yt _ fun y hy m=>((h (m+1)).2.2.2.1).2 y hy)⟩,trivial⟩
theorem af.yt:∀(l:List af),(∀y∈l,∀m,Go.V.iU m .Value y)->af.ic l
 |[],_=>by simp only[af.ic]
 |t::r,h=>by
  simp only[af.ic];exact⟨af.ie t (h t (by simp)),af.yt r fun y hy=>h y (by simp[hy])⟩
end
theorem ae.ie(a:ae)(h:∀m,Go.V.iU m .Stream a):a.Ok:=⟨(aa.ie (a.cq) (fun m=>by cases m with|zero=>exact⟨(h 0).1,(h 0).2.1,(h 0).2.2.1,(h 0).2.2.2.1,trivial⟩|succ m=>exact⟨(h (m+1)).1,(h (m+1)).2.1,(h (m+1)).2.2.1,(h (m+1)).2.2.2.1,trivial⟩)),(h 0).2.2.2.2.1,trivial,⟨((h 0).2.2.2.2.2.2.1).1,fun y hy=>af.ie y (fun m=>((h (m+1)).2.2.2.2.2.2.1).2 y hy)⟩,(h 0).2.2.2.2.2.2.2.1,(h 0).2.2.2.2.2.2.2.2.1,trivial,trivial,trivial⟩
theorem ad.ie(a:ad)(h:∀m,Go.V.iU m .Task a):a.Ok:=⟨(h 0).1,(h 0).2.1,(h 0).2.2.1,(h 0).2.2.2.1,(h 0).2.2.2.2.1,(h 0).2.2.2.2.2.1,trivial,trivial,trivial,⟨((h 0).2.2.2.2.2.2.2.2.2.1).1,fun y hy=>((fun m=>((h (m+1)).2.2.2.2.2.2.2.2.2.1).2 y hy) 0).1⟩,⟨((h 0).2.2.2.2.2.2.2.2.2.2.1).1,fun y hy=>((fun m=>((h (m+1)).2.2.2.2.2.2.2.2.2.2.1).2 y hy) 0).1⟩,trivial⟩
theorem ai.ie(a:ai)(h:∀m,Go.V.iU m .Async a):a.Ok:=⟨⟨((h 0).1).1,fun y hy=>ar.ie y (fun m=>((h (m+1)).1).2 y hy)⟩,⟨((h 0).2.1).1,fun y hy=>ae.ie y (fun m=>((h (m+1)).2.1).2 y hy)⟩,⟨((h 0).2.2.1).1,fun y hy=>ad.ie y (fun m=>((h (m+1)).2.2.1).2 y hy)⟩,⟨((h 0).2.2.2.1).1,fun y hy=>((fun m=>((h (m+1)).2.2.2.1).2 y hy) 0).1⟩,⟨((h 0).2.2.2.2.1).1,fun y hy=>az.ie y (fun m=>((h (m+1)).2.2.2.2.1).2 y hy)⟩,trivial⟩
theorem ah8(a:List (List UInt8))(left:Int)(ok:dE mf a)(h0:0<=left)(h1:left<=1048576):M.u4 a left=some (if(aR List.length a:Int)<=left then left-aR List.length a else -1):=by
 have hl:=ok.1;unfold M.u4;rw[wrap_i64 (by omega) (by omega)];refine vI (f:=List.length) (F:=M.rH  a) a left h0 h1 (fun g k l h2 h3 hk=>?_) (fun g l=>?_)
 ·have hn:k<2^62:=by omega
  rw[M.rH];have w:Go.IntKind.wrap .i64 (l-((a[k]).length:Int))=l-(a[k]).length:=wrap_i64 (by have:=ok.2 a[k] (cn hk);unfold mf at this;omega) (by omega);by_cases d:((a[k]).length:Int)<=l
  ·have n:¬(l-((a[k]).length:Int)<0):=by omega
   rw[aF d];simp[hk,getD_lt hk,w,n,bN hk (show a.length<2^62 by omega)]
  ·have n:l-((a[k]).length:Int)<0:=by omega
   rw[bF d];simp[hk,getD_lt hk,w,n]
 ·rw[M.rH];simp
theorem ah9(a:List (List UInt8))(ha:aR List.length a<=1048576):M.u6 a=some a:=by
 have hl:=di List.length a;have hn:a.length<=1048576:=by omega
 have hi:(a.length:Int)<=1073741824:=by omega
 have q:∀z,z.length=a.length->M.pF  a Go.V.an 0 z=some a:=nq (F:=M.pF  a) a (by omega) (fun f k out h1 h2 hk=>by
  rw[M.pF];simp[hk,h2,getD_lt hk,bN hk (dP hn)]) (fun f out=>by rw[M.pF];simp)
 unfold M.u6;rw[q _ (by simp)];simp[hi]
theorem aia(a:List (List UInt8))(ha:aR List.length a<=1048576):M.u9 a a=some true:=by
 have hl:=di List.length a;have hn:a.length<=1048576:=by omega
 unfold M.u9;refine mg (F:=M.rL  a a) a hn (fun f k hk=>?_) (fun f=>?_)
 ·rw[M.rL];simp[hk,getD_lt hk,bN hk (dP hn)]
 ·rw[M.rL];simp
theorem HK(a:List Int)(left:Int)(ok:dE I64 a)(h0:0<=left)(h1:left<=1048576):M.nj a left=some (if(aR (fun _=>0) a:Int)<=left then left-aR (fun _=>0) a else -1):=by
 have hl:=ok.1;unfold M.nj;rw[wrap_i64 (by omega) (by omega)];exact HL (f:=(fun _=>0)) (fun _=>rfl) a left h0
theorem HM(a:List Int)(ha:aR (fun _=>0) a<=1048576):M.m5 a=some a:=by
 have hl:=di (fun _=>0) a;have hn:a.length<=1048576:=by omega
 have hi:(a.length:Int)<=1073741824:=by omega
 have q:∀z,z.length=a.length->M.pE  a Go.V.an 0 z=some a:=nq (F:=M.pE  a) a (by omega) (fun f k out h1 h2 hk=>by
  rw[M.pE];simp[hk,h2,getD_lt hk,bN hk (dP hn)]) (fun f out=>by rw[M.pE];simp)
 unfold M.m5;rw[q _ (by simp)];simp[hi]
theorem HN(a:List Int)(ha:aR (fun _=>0) a<=1048576):M.m6 a a=some true:=by
 have hl:=di (fun _=>0) a;have hn:a.length<=1048576:=by omega
 unfold M.m6;refine mg (F:=M.rE  a a) a hn (fun f k hk=>?_) (fun f=>?_)
 ·rw[M.rE];simp[hk,getD_lt hk,bN hk (dP hn)]
 ·rw[M.rE];simp
theorem aib(a:aw)(h:a.sz<=1048576):M.xP a=some a:=by
 unfold M.xP;have hs:=aw.cT a
 try simp only[aa.aG,af.aG,ae.aG]
 try simp[]
theorem aic(a:aw)(h:a.sz<=1048576):M.uU a a=some true:=by
 unfold M.uU;have hs:=aw.cT a
 try simp only[aa.aG,af.aG,ae.aG]
 try simp[]
theorem aid(a:List aw)(left:Int)(ok:dE aw.Ok a)(h0:0<=left)(h1:left<=1048576):M.uO a left=some (if(aR aw.sz a:Int)<=left then left-aR aw.sz a else -1):=by
 have hl:=ok.1;unfold M.uO;rw[wrap_i64 (by omega) (by omega)];exact HL (f:=aw.sz) (fun _=>rfl) a left h0
theorem aie(a:List aw)(ha:aR aw.sz a<=1048576):M.uR a=some a:=by
 have hl:=di aw.sz a;have hn:a.length<=1048576:=by omega
 have hi:(a.length:Int)<=1073741824:=by omega
 have q:∀z,z.length=a.length->M.pC  a Go.V.an 0 z=some a:=nq (F:=M.pC  a) a (by omega) (fun f k out h1 h2 hk=>by
  rw[M.pC];have e:=aib a[k] (by have:=dX aw.sz a a[k] (cn hk);omega);simp[hk,h2,getD_lt hk,e,bN hk (dP hn),aa.aG,af.aG,ae.aG]) (fun f out=>by rw[M.pC];simp)
 unfold M.uR;rw[q _ (by simp)];simp[hi]
theorem aif(a:List aw)(ha:aR aw.sz a<=1048576):M.uV a a=some true:=by
 have hl:=di aw.sz a;have hn:a.length<=1048576:=by omega
 unfold M.uV;refine mg (F:=M.rC  a a) a hn (fun f k hk=>?_) (fun f=>?_)
 ·rw[M.rC];have e:=aic a[k] (by have:=dX aw.sz a a[k] (cn hk);omega);simp[hk,getD_lt hk,e,bN hk (dP hn),aa.aG,af.aG,ae.aG]
 ·rw[M.rC];simp
theorem aih(a:az)(h:a.sz<=1048576):M.yo a=some a:=by
 unfold M.yo;have hs:=az.cT a
 try simp only[aa.aG,af.aG,ae.aG]
 try simp[]
theorem aii(a:az)(h:a.sz<=1048576):M.u0 a a=some true:=by
 unfold M.u0;have hs:=az.cT a
 try simp only[aa.aG,af.aG,ae.aG]
 try simp[]
theorem aij(a:List az)(left:Int)(ok:dE az.Ok a)(h0:0<=left)(h1:left<=1048576):M.vx a left=some (if(aR az.sz a:Int)<=left then left-aR az.sz a else -1):=by
 have hl:=ok.1;unfold M.vx;rw[wrap_i64 (by omega) (by omega)];exact HL (f:=az.sz) (fun _=>rfl) a left h0
theorem aik(a:List az)(ha:aR az.sz a<=1048576):M.vC a=some a:=by
 have hl:=di az.sz a;have hn:a.length<=1048576:=by omega
 have hi:(a.length:Int)<=1073741824:=by omega
 have q:∀z,z.length=a.length->M.pL  a Go.V.an 0 z=some a:=nq (F:=M.pL  a) a (by omega) (fun f k out h1 h2 hk=>by
  rw[M.pL];have e:=aih a[k] (by have:=dX az.sz a a[k] (cn hk);omega);simp[hk,h2,getD_lt hk,e,bN hk (dP hn),aa.aG,af.aG,ae.aG]) (fun f out=>by rw[M.pL];simp)
 unfold M.vC;rw[q _ (by simp)];simp[hi]
theorem ail(a:List az)(ha:aR az.sz a<=1048576):M.u3 a a=some true:=by
 have hl:=di az.sz a;have hn:a.length<=1048576:=by omega
 unfold M.u3;refine mg (F:=M.rG  a a) a hn (fun f k hk=>?_) (fun f=>?_)
 ·rw[M.rG];have e:=aii a[k] (by have:=dX az.sz a a[k] (cn hk);omega);simp[hk,getD_lt hk,e,bN hk (dP hn),aa.aG,af.aG,ae.aG]
 ·rw[M.rG];simp
theorem aim(a:ar)(left:Int)(ok:a.Ok)(h0:0<=left)(h1:left<=1048576):M.uP a left=some (if(a.sz:Int)<=left then left-a.sz else -1):=by
 unfold M.uP;have hs:=ar.cT a;have ok1:=(ar.ok_eq a).1 ok
 try simp only[aa.aG,af.aG,ae.aG]
 have e0:=aid (a.Ops) (left) ok1.2.1 (by omega) (by omega);by_cases c0:((aR aw.sz (a.Ops):Nat):Int)<=left
 ·rw[aF c0]at e0;have n0:¬(left-((aR aw.sz (a.Ops):Nat):Int)<0):=by omega
  have q:(a.sz:Int)<=left:=by rw[hs]<;>push_cast<;>omega
  have q2:left-(a.sz:Int)=left-((aR aw.sz (a.Ops):Nat):Int):=by rw[hs]<;>push_cast<;>omega
  rw[aF q,q2];simp[e0,n0]
 ·rw[bF c0]at e0;have q:¬((a.sz:Int)<=left):=by rw[hs]<;>push_cast<;>omega
  rw[bF q];simp[e0]
theorem ain(a:ar)(h:a.sz<=1048576):M.uS a=some (a.dQ,a.Ops):=by
 unfold M.uS;have hs:=ar.cT a
 try simp only[aa.aG,af.aG,ae.aG]
 have e1:=aie (a.Ops) (by omega)
 try simp[e1]
theorem aio(a:ar)(h:a.sz<=1048576):M.uW a a=some true:=by
 unfold M.uW;have hs:=ar.cT a
 try simp only[aa.aG,af.aG,ae.aG]
 have e1:=aif (a.Ops) (by omega)
 try simp[e1]
theorem aip(a:List ar)(left:Int)(ok:dE ar.Ok a)(h0:0<=left)(h1:left<=1048576):M.uQ a left=some (if(aR ar.sz a:Int)<=left then left-aR ar.sz a else -1):=by
 have hl:=ok.1;unfold M.uQ;rw[wrap_i64 (by omega) (by omega)];refine vI (f:=ar.sz) (F:=M.rB  a) a left h0 h1 (fun g k l h2 h3 hk=>?_) (fun g l=>?_)
 ·have hn:k<2^62:=by omega
  rw[M.rB];have e:=aim a[k] l (ok.2 _ (cn hk)) h2 (by omega);by_cases d:((ar.sz a[k]:Nat):Int)<=l
  ·have n:¬(l-((ar.sz a[k]:Nat):Int)<0):=by omega
   rw[aF d]at e⊢;simp[hk,getD_lt hk,e,n,bN hk (show a.length<2^62 by omega),aa.aG,af.aG,ae.aG]
  ·rw[bF d]at e⊢;simp[hk,getD_lt hk,e,aa.aG,af.aG,ae.aG]
 ·rw[M.rB];simp
theorem aiq(a:List ar)(ha:aR ar.sz a<=1048576):M.uT a=some a:=by
 have hl:=di ar.sz a;have hn:a.length<=1048576:=by omega
 have hi:(a.length:Int)<=1073741824:=by omega
 have q:∀z,z.length=a.length->M.pD  a Go.V.an 0 z=some a:=nq (F:=M.pD  a) a (by omega) (fun f k out h1 h2 hk=>by
  rw[M.pD];have e:=ain a[k] (by have:=dX ar.sz a a[k] (cn hk);omega);simp[hk,h2,getD_lt hk,e,bN hk (dP hn),aa.aG,af.aG,ae.aG]) (fun f out=>by rw[M.pD];simp)
 unfold M.uT;rw[q _ (by simp)];simp[hi]
theorem air(a:List ar)(ha:aR ar.sz a<=1048576):M.uX a a=some true:=by
 have hl:=di ar.sz a;have hn:a.length<=1048576:=by omega
 unfold M.uX;refine mg (F:=M.rD  a a) a hn (fun f k hk=>?_) (fun f=>?_)
 ·rw[M.rD];have e:=aio a[k] (by have:=dX ar.sz a a[k] (cn hk);omega);simp[hk,getD_lt hk,e,bN hk (dP hn),aa.aG,af.aG,ae.aG]
 ·rw[M.rD];simp
theorem ais(r:aa->Int->Option Int)(a:List aa)(left:Int)(ok:dE aa.Ok a)(h0:0<=left)(h1:left<=1048576)(hr:∀x l,x∈a->0<=l->l<left->r x l=some (if(x.sz:Int)<=l then l-x.sz else -1)):M.u5 r a left=some (if(aR aa.sz a:Int)<=left then left-aR aa.sz a else -1):=by
 have hl:=ok.1;unfold M.u5;rw[wrap_i64 (by omega) (by omega)];refine vI (f:=aa.sz) (F:=M.rI r  a) a left h0 h1 (fun g k l h2 h3 hk=>?_) (fun g l=>?_)
 ·have hn:k<2^62:=by omega
  rw[M.rI];have e:=hr a[k] l (cn hk) h2 (by omega);by_cases d:((aa.sz a[k]:Nat):Int)<=l
  ·have n:¬(l-((aa.sz a[k]:Nat):Int)<0):=by omega
   rw[aF d]at e⊢;simp[hk,getD_lt hk,e,n,bN hk (show a.length<2^62 by omega),aa.aG,af.aG,ae.aG]
  ·rw[bF d]at e⊢;simp[hk,getD_lt hk,e,aa.aG,af.aG,ae.aG]
 ·rw[M.rI];simp
theorem ait(r:aa->Option (Int×(List UInt8)×(List (List UInt8))×(List aa)))(a:List aa)(ha:a.length<=1048576)(hr:∀x∈a,r x=some (x.Kind,x.Name,x.bY,x.Kids)):M.u7 r a=some a:=by
 have hn:a.length<=1048576:=by omega
 have hi:(a.length:Int)<=1073741824:=by omega
 have q:∀z,z.length=a.length->M.pG r  a Go.V.an 0 z=some a:=nq (F:=M.pG r  a) a (by omega) (fun f k out h1 h2 hk=>by
  rw[M.pG];have e:=hr a[k] (cn hk);simp[hk,h2,getD_lt hk,e,bN hk (dP hn),aa.aG,af.aG,ae.aG,aa.eta]) (fun f out=>by rw[M.pG];simp)
 unfold M.u7;rw[q _ (by simp)];simp[hi]
theorem aiu(r:aa->aa->Option Bool)(a:List aa)(ha:a.length<=1048576)(hr:∀x∈a,r x x=some true):M.va r a a=some true:=by
 have hn:a.length<=1048576:=by omega
 unfold M.va;refine mg (F:=M.rM r  a a) a hn (fun f k hk=>?_) (fun f=>?_)
 ·rw[M.rM];have e:=hr a[k] (cn hk);simp[hk,getD_lt hk,e,bN hk (dP hn),aa.aG,af.aG,ae.aG]
 ·rw[M.rM];simp
theorem UC:∀(n:Nat)(a:aa)(left:Int),a.Ok->0<=left->left<n->left<=1048576->M.rJ n a left=some (if(a.sz:Int)<=left then left-a.sz else -1)
 |0,a,left,ok,h0,h2,h1=>by omega
 |n+1,a,left,ok,h0,h2,h1=>by
  show M.xU (M.rJ n) a left=_
  unfold M.xU;have hs:=aa.cT a;have ok1:=(aa.ok_eq a).1 ok
  try simp only[aa.aG,af.aG,ae.aG]
  have e0:Go.IntKind.wrap .i64 (left-((a.Name).length:Int))=left-((a.Name).length:Int):=wrap_i64 (by have:=ok1.2.1;unfold mf at this;omega) (by omega);by_cases c0:(((a.Name).length:Nat):Int)<=left
  ·skip
   have n0:¬(left-(((a.Name).length:Nat):Int)<0):=by omega
   have e1:=ah8 (a.bY) (left-(((a.Name).length:Nat):Int)) ok1.2.2.1 (by omega) (by omega);by_cases c1:((aR List.length (a.bY):Nat):Int)<=left-(((a.Name).length:Nat):Int)
   ·rw[aF c1]at e1;have n1:¬(left-(((a.Name).length:Nat):Int)-((aR List.length (a.bY):Nat):Int)<0):=by omega
    have e2:=ais (M.rJ n) (a.Kids) (left-(((a.Name).length:Nat):Int)-((aR List.length (a.bY):Nat):Int)) ok1.2.2.2.1 (by omega) (by omega) (fun x l hx q0 q1=>UC n x l ((ok1.2.2.2.1).2 x hx) q0 (by omega) (by omega));by_cases c2:((aR aa.sz (a.Kids):Nat):Int)<=left-(((a.Name).length:Nat):Int)-((aR List.length (a.bY):Nat):Int)
    ·rw[aF c2]at e2;have n2:¬(left-(((a.Name).length:Nat):Int)-((aR List.length (a.bY):Nat):Int)-((aR aa.sz (a.Kids):Nat):Int)<0):=by omega
     have q:(a.sz:Int)<=left:=by rw[hs]<;>push_cast<;>omega
     have q2:left-(a.sz:Int)=left-(((a.Name).length:Nat):Int)-((aR List.length (a.bY):Nat):Int)-((aR aa.sz (a.Kids):Nat):Int):=by rw[hs]<;>push_cast<;>omega
     rw[aF q,q2];simp[e0,n0,e1,n1,e2,n2]
    ·rw[bF c2]at e2;have q:¬((a.sz:Int)<=left):=by rw[hs]<;>push_cast<;>omega
     rw[bF q];simp[e0,n0,e1,n1,e2]
   ·rw[bF c1]at e1;have q:¬((a.sz:Int)<=left):=by rw[hs]<;>push_cast<;>omega
    rw[bF q];simp[e0,n0,e1]
  ·have n0:left-(((a.Name).length:Nat):Int)<0:=by omega
   have q:¬((a.sz:Int)<=left):=by rw[hs]<;>push_cast<;>omega
   rw[bF q];simp[e0,n0]
theorem aiv(a:aa)(left:Int)(ok:a.Ok)(h0:0<=left)(h1:left<=1048576):M.Ao a left=some (if(a.sz:Int)<=left then left-a.sz else -1):=
 UC _ a left ok h0 (by have:=Go.V.cJ;omega) h1
theorem UD:∀(n:Nat)(a:aa),a.sz<n->a.sz<=1048576->M.rK n a=some (a.Kind,a.Name,a.bY,a.Kids)
 |0,a,h2,h=>by omega
 |n+1,a,h2,h=>by
  show M.xW (M.rK n) a=_
  unfold M.xW;have hs:=aa.cT a
  try simp only[aa.aG,af.aG,ae.aG]
  have e2:=ah9 (a.bY) (by omega);have hk3:=di aa.sz (a.Kids);have e3:=ait (M.rK n) (a.Kids) (by omega) (fun x hx=>UD n x (by have:=dX aa.sz (a.Kids) x hx;have:=oa aa.sz (a.Kids) x hx;omega) (by have:=dX aa.sz (a.Kids) x hx;omega))
  try simp[e2,e3,aa.eta]
theorem aiw(a:aa)(h:a.sz<=1048576):M.Ar a=some (a.Kind,a.Name,a.bY,a.Kids):=
 UD _ a (by have:=Go.V.cJ;omega) h
theorem UE:∀(n:Nat)(a:aa),a.sz<n->a.sz<=1048576->M.rN n a a=some true
 |0,a,h2,h=>by omega
 |n+1,a,h2,h=>by
  show M.xX (M.rN n) a a=_
  unfold M.xX;have hs:=aa.cT a
  try simp only[aa.aG,af.aG,ae.aG]
  have e2:=aia (a.bY) (by omega);have hk3:=di aa.sz (a.Kids);have e3:=aiu (M.rN n) (a.Kids) (by omega) (fun x hx=>UE n x (by have:=dX aa.sz (a.Kids) x hx;have:=oa aa.sz (a.Kids) x hx;omega) (by have:=dX aa.sz (a.Kids) x hx;omega))
  try simp[e2,e3,aa.eta]
theorem aix(a:aa)(h:a.sz<=1048576):M.Av a a=some true:=
 UE _ a (by have:=Go.V.cJ;omega) h
theorem UF(r:af->Int->Option Int)(a:List af)(left:Int)(ok:dE af.Ok a)(h0:0<=left)(h1:left<=1048576)(hr:∀x l,x∈a->0<=l->l<left->r x l=some (if(x.sz:Int)<=l then l-x.sz else -1)):M.ng r a left=some (if(aR af.sz a:Int)<=left then left-aR af.sz a else -1):=by
 have hl:=ok.1;unfold M.ng;rw[wrap_i64 (by omega) (by omega)];refine vI (f:=af.sz) (F:=M.rO r  a) a left h0 h1 (fun g k l h2 h3 hk=>?_) (fun g l=>?_)
 ·have hn:k<2^62:=by omega
  rw[M.rO];have e:=hr a[k] l (cn hk) h2 (by omega);by_cases d:((af.sz a[k]:Nat):Int)<=l
  ·have n:¬(l-((af.sz a[k]:Nat):Int)<0):=by omega
   rw[aF d]at e⊢;simp[hk,getD_lt hk,e,n,bN hk (show a.length<2^62 by omega),aa.aG,af.aG,ae.aG]
  ·rw[bF d]at e⊢;simp[hk,getD_lt hk,e,aa.aG,af.aG,ae.aG]
 ·rw[M.rO];simp
theorem UG(r:af->Option (Int×Int×(List UInt8)×(List af)))(a:List af)(ha:a.length<=1048576)(hr:∀x∈a,r x=some (x.Kind,x.Num,x.Text,x.Kids)):M.ni r a=some a:=by
 have hn:a.length<=1048576:=by omega
 have hi:(a.length:Int)<=1073741824:=by omega
 have q:∀z,z.length=a.length->M.pH r  a Go.V.an 0 z=some a:=nq (F:=M.pH r  a) a (by omega) (fun f k out h1 h2 hk=>by
  rw[M.pH];have e:=hr a[k] (cn hk);simp[hk,h2,getD_lt hk,e,bN hk (dP hn),aa.aG,af.aG,ae.aG,af.eta]) (fun f out=>by rw[M.pH];simp)
 unfold M.ni;rw[q _ (by simp)];simp[hi]
theorem aiy(r:af->af->Option Bool)(a:List af)(ha:a.length<=1048576)(hr:∀x∈a,r x x=some true):M.uN r a a=some true:=by
 have hn:a.length<=1048576:=by omega
 unfold M.uN;refine mg (F:=M.rz r  a a) a hn (fun f k hk=>?_) (fun f=>?_)
 ·rw[M.rz];have e:=hr a[k] (cn hk);simp[hk,getD_lt hk,e,bN hk (dP hn),aa.aG,af.aG,ae.aG]
 ·rw[M.rz];simp
theorem UH:∀(n:Nat)(a:af)(left:Int),a.Ok->0<=left->left<n->left<=1048576->M.rP n a left=some (if(a.sz:Int)<=left then left-a.sz else -1)
 |0,a,left,ok,h0,h2,h1=>by omega
 |n+1,a,left,ok,h0,h2,h1=>by
  show M.x9 (M.rP n) a left=_
  unfold M.x9;have hs:=af.cT a;have ok1:=(af.ok_eq a).1 ok
  try simp only[aa.aG,af.aG,ae.aG]
  have e0:Go.IntKind.wrap .i64 (left-((a.Text).length:Int))=left-((a.Text).length:Int):=wrap_i64 (by have:=ok1.2.2.1;unfold mf at this;omega) (by omega);by_cases c0:(((a.Text).length:Nat):Int)<=left
  ·skip
   have n0:¬(left-(((a.Text).length:Nat):Int)<0):=by omega
   have e1:=UF (M.rP n) (a.Kids) (left-(((a.Text).length:Nat):Int)) ok1.2.2.2.1 (by omega) (by omega) (fun x l hx q0 q1=>UH n x l ((ok1.2.2.2.1).2 x hx) q0 (by omega) (by omega));by_cases c1:((aR af.sz (a.Kids):Nat):Int)<=left-(((a.Text).length:Nat):Int)
   ·rw[aF c1]at e1;have n1:¬(left-(((a.Text).length:Nat):Int)-((aR af.sz (a.Kids):Nat):Int)<0):=by omega
    have q:(a.sz:Int)<=left:=by rw[hs]<;>push_cast<;>omega
    have q2:left-(a.sz:Int)=left-(((a.Text).length:Nat):Int)-((aR af.sz (a.Kids):Nat):Int):=by rw[hs]<;>push_cast<;>omega
    rw[aF q,q2];simp[e0,n0,e1,n1]
   ·rw[bF c1]at e1;have q:¬((a.sz:Int)<=left):=by rw[hs]<;>push_cast<;>omega
    rw[bF q];simp[e0,n0,e1]
  ·have n0:left-(((a.Text).length:Nat):Int)<0:=by omega
   have q:¬((a.sz:Int)<=left):=by rw[hs]<;>push_cast<;>omega
   rw[bF q];simp[e0,n0]
theorem aiz(a:af)(left:Int)(ok:a.Ok)(h0:0<=left)(h1:left<=1048576):M.vk a left=some (if(a.sz:Int)<=left then left-a.sz else -1):=
 UH _ a left ok h0 (by have:=Go.V.cJ;omega) h1
theorem aiA(a:List af)(left:Int)(ok:dE af.Ok a)(h0:0<=left)(h1:left<=1048576):M.ng M.vk a left=some (if(aR af.sz a:Int)<=left then left-aR af.sz a else -1):=
 UF _ a left ok h0 h1 fun x l hx q0 q1=>aiz x l (ok.2 x hx) q0 (by omega)
theorem UI:∀(n:Nat)(a:af),a.sz<n->a.sz<=1048576->M.rQ n a=some (a.Kind,a.Num,a.Text,a.Kids)
 |0,a,h2,h=>by omega
 |n+1,a,h2,h=>by
  show M.ya (M.rQ n) a=_
  unfold M.ya;have hs:=af.cT a
  try simp only[aa.aG,af.aG,ae.aG]
  have hk3:=di af.sz (a.Kids);have e3:=UG (M.rQ n) (a.Kids) (by omega) (fun x hx=>UI n x (by have:=dX af.sz (a.Kids) x hx;have:=oa af.sz (a.Kids) x hx;omega) (by have:=dX af.sz (a.Kids) x hx;omega))
  try simp[e3,af.eta]
theorem aiB(a:af)(h:a.sz<=1048576):M.vl a=some (a.Kind,a.Num,a.Text,a.Kids):=
 UI _ a (by have:=Go.V.cJ;omega) h
theorem aiC(a:List af)(ha:aR af.sz a<=1048576):M.ni M.vl a=some a:=
 UG _ a (by have:=di af.sz a;omega) fun x hx=>aiB x (by have:=dX af.sz a x hx;omega)
theorem UJ:∀(n:Nat)(a:af),a.sz<n->a.sz<=1048576->M.rA n a a=some true
 |0,a,h2,h=>by omega
 |n+1,a,h2,h=>by
  show M.xO (M.rA n) a a=_
  unfold M.xO;have hs:=af.cT a
  try simp only[aa.aG,af.aG,ae.aG]
  have hk3:=di af.sz (a.Kids);have e3:=aiy (M.rA n) (a.Kids) (by omega) (fun x hx=>UJ n x (by have:=dX af.sz (a.Kids) x hx;have:=oa af.sz (a.Kids) x hx;omega) (by have:=dX af.sz (a.Kids) x hx;omega))
  try simp[e3,af.eta]
theorem aiD(a:af)(h:a.sz<=1048576):M.zY a a=some true:=
 UJ _ a (by have:=Go.V.cJ;omega) h
theorem aiE(a:ae)(left:Int)(ok:a.Ok)(h0:0<=left)(h1:left<=1048576):M.vm a left=some (if(a.sz:Int)<=left then left-a.sz else -1):=by
 unfold M.vm;have hs:=ae.cT a;have ok1:=(ae.ok_eq a).1 ok
 try simp only[aa.aG,af.aG,ae.aG]
 have e0:=aiv (a.cq) (left) ok1.1 (by omega) (by omega);by_cases c0:(((a.cq).sz:Nat):Int)<=left
 ·rw[aF c0]at e0;have n0:¬(left-(((a.cq).sz:Nat):Int)<0):=by omega
  have e1:=aiA (a.Buffer) (left-(((a.cq).sz:Nat):Int)) ok1.2.2.2.1 (by omega) (by omega);by_cases c1:((aR af.sz (a.Buffer):Nat):Int)<=left-(((a.cq).sz:Nat):Int)
  ·rw[aF c1]at e1;have n1:¬(left-(((a.cq).sz:Nat):Int)-((aR af.sz (a.Buffer):Nat):Int)<0):=by omega
   have q:(a.sz:Int)<=left:=by rw[hs]<;>push_cast<;>omega
   have q2:left-(a.sz:Int)=left-(((a.cq).sz:Nat):Int)-((aR af.sz (a.Buffer):Nat):Int):=by rw[hs]<;>push_cast<;>omega
   rw[aF q,q2];simp[e0,n0,e1,n1]
  ·rw[bF c1]at e1;have q:¬((a.sz:Int)<=left):=by rw[hs]<;>push_cast<;>omega
   rw[bF q];simp[e0,n0,e1]
 ·rw[bF c0]at e0;have q:¬((a.sz:Int)<=left):=by rw[hs]<;>push_cast<;>omega
  rw[bF q];simp[e0]
theorem aiF(a:ae)(h:a.sz<=1048576):M.vn a=some (a.cq.Kind,a.cq.Name,a.Room,a.cR,a.Put,a.dz,a.Shut,a.Gone,a.cq.bY,a.cq.Kids,a.Buffer):=by
 unfold M.vn;have hs:=ae.cT a
 try simp only[aa.aG,af.aG,ae.aG]
 have e0:=aiw (a.cq) (by omega);have e3:=aiC (a.Buffer) (by omega)
 try simp[e0,e3]
theorem aiG(a:List af)(ha:aR af.sz a<=1048576):M.vE a a=some true:=by
 have hl:=di af.sz a;have hn:a.length<=1048576:=by omega
 unfold M.vE;refine mg (F:=M.rV a a) a hn (fun f k hk=>?_) (fun f=>?_)
 ·rw[M.rV];have e:=aiD a[k] (by have:=dX af.sz a a[k] (cn hk);omega);simp[hk,getD_lt hk,e,bN hk (dP hn),aa.aG,af.aG,ae.aG]
 ·rw[M.rV];simp
theorem aiH(a:ae)(h:a.sz<=1048576):M.vF a a=some true:=by
 unfold M.vF;have hs:=ae.cT a
 try simp only[aa.aG,af.aG,ae.aG]
 have e0:=aix (a.cq) (by omega);have e3:=aiG (a.Buffer) (by omega)
 try simp[e0,e3]
theorem aiI(a:List ae)(left:Int)(ok:dE ae.Ok a)(h0:0<=left)(h1:left<=1048576):M.vt a left=some (if(aR ae.sz a:Int)<=left then left-aR ae.sz a else -1):=by
 have hl:=ok.1;unfold M.vt;rw[wrap_i64 (by omega) (by omega)];refine vI (f:=ae.sz) (F:=M.rT  a) a left h0 h1 (fun g k l h2 h3 hk=>?_) (fun g l=>?_)
 ·have hn:k<2^62:=by omega
  rw[M.rT];have e:=aiE a[k] l (ok.2 _ (cn hk)) h2 (by omega);by_cases d:((ae.sz a[k]:Nat):Int)<=l
  ·have n:¬(l-((ae.sz a[k]:Nat):Int)<0):=by omega
   rw[aF d]at e⊢;simp[hk,getD_lt hk,e,n,bN hk (show a.length<2^62 by omega),aa.aG,af.aG,ae.aG]
  ·rw[bF d]at e⊢;simp[hk,getD_lt hk,e,aa.aG,af.aG,ae.aG]
 ·rw[M.rT];simp
theorem aiJ(a:List ae)(ha:aR ae.sz a<=1048576):M.vz a=some a:=by
 have hl:=di ae.sz a;have hn:a.length<=1048576:=by omega
 have hi:(a.length:Int)<=1073741824:=by omega
 have q:∀z,z.length=a.length->M.pJ  a Go.V.an 0 z=some a:=nq (F:=M.pJ  a) a (by omega) (fun f k out h1 h2 hk=>by
  rw[M.pJ];have e:=aiF a[k] (by have:=dX ae.sz a a[k] (cn hk);omega);simp[hk,h2,getD_lt hk,e,bN hk (dP hn),aa.aG,af.aG,ae.aG,aa.eta]) (fun f out=>by rw[M.pJ];simp)
 unfold M.vz;rw[q _ (by simp)];simp[hi]
theorem aiK(a:List ae)(ha:aR ae.sz a<=1048576):M.vG a a=some true:=by
 have hl:=di ae.sz a;have hn:a.length<=1048576:=by omega
 unfold M.vG;refine mg (F:=M.rW  a a) a hn (fun f k hk=>?_) (fun f=>?_)
 ·rw[M.rW];have e:=aiH a[k] (by have:=dX ae.sz a a[k] (cn hk);omega);simp[hk,getD_lt hk,e,bN hk (dP hn),aa.aG,af.aG,ae.aG]
 ·rw[M.rW];simp
theorem aiL(a:ad)(left:Int)(ok:a.Ok)(h0:0<=left)(h1:left<=1048576):M.vu a left=some (if(a.sz:Int)<=left then left-a.sz else -1):=by
 unfold M.vu;have hs:=ad.cT a;have ok1:=(ad.ok_eq a).1 ok
 try simp only[aa.aG,af.aG,ae.aG]
 have e0:=HK (a.bg) (left) ok1.2.2.2.2.2.2.2.2.2.1 (by omega) (by omega);by_cases c0:((aR (fun _=>0) (a.bg):Nat):Int)<=left
 ·rw[aF c0]at e0;have n0:¬(left-((aR (fun _=>0) (a.bg):Nat):Int)<0):=by omega
  have e1:=HK (a.Set) (left-((aR (fun _=>0) (a.bg):Nat):Int)) ok1.2.2.2.2.2.2.2.2.2.2.1 (by omega) (by omega);by_cases c1:((aR (fun _=>0) (a.Set):Nat):Int)<=left-((aR (fun _=>0) (a.bg):Nat):Int)
  ·rw[aF c1]at e1;have n1:¬(left-((aR (fun _=>0) (a.bg):Nat):Int)-((aR (fun _=>0) (a.Set):Nat):Int)<0):=by omega
   have q:(a.sz:Int)<=left:=by rw[hs]<;>push_cast<;>omega
   have q2:left-(a.sz:Int)=left-((aR (fun _=>0) (a.bg):Nat):Int)-((aR (fun _=>0) (a.Set):Nat):Int):=by rw[hs]<;>push_cast<;>omega
   rw[aF q,q2];simp[e0,n0,e1,n1]
  ·rw[bF c1]at e1;have q:¬((a.sz:Int)<=left):=by rw[hs]<;>push_cast<;>omega
   rw[bF q];simp[e0,n0,e1]
 ·rw[bF c0]at e0;have q:¬((a.sz:Int)<=left):=by rw[hs]<;>push_cast<;>omega
  rw[bF q];simp[e0]
theorem aiM(a:ad)(h:a.sz<=1048576):M.vA a=some (a.Id,a.Prog,a.PC,a.dy,a.Status,a.Result,a.bU,a.Asked,a.Told,a.bg,a.Set):=by
 unfold M.vA;have hs:=ad.cT a
 try simp only[aa.aG,af.aG,ae.aG]
 have e9:=HM (a.bg) (by omega);have e10:=HM (a.Set) (by omega)
 try simp[e9,e10]
theorem aiN(a:ad)(h:a.sz<=1048576):M.uY a a=some true:=by
 unfold M.uY;have hs:=ad.cT a
 try simp only[aa.aG,af.aG,ae.aG]
 have e9:=HN (a.bg) (by omega);have e10:=HN (a.Set) (by omega)
 try simp[e9,e10]
theorem aiO(a:List ad)(left:Int)(ok:dE ad.Ok a)(h0:0<=left)(h1:left<=1048576):M.vv a left=some (if(aR ad.sz a:Int)<=left then left-aR ad.sz a else -1):=by
 have hl:=ok.1;unfold M.vv;rw[wrap_i64 (by omega) (by omega)];refine vI (f:=ad.sz) (F:=M.rU  a) a left h0 h1 (fun g k l h2 h3 hk=>?_) (fun g l=>?_)
 ·have hn:k<2^62:=by omega
  rw[M.rU];have e:=aiL a[k] l (ok.2 _ (cn hk)) h2 (by omega);by_cases d:((ad.sz a[k]:Nat):Int)<=l
  ·have n:¬(l-((ad.sz a[k]:Nat):Int)<0):=by omega
   rw[aF d]at e⊢;simp[hk,getD_lt hk,e,n,bN hk (show a.length<2^62 by omega),aa.aG,af.aG,ae.aG]
  ·rw[bF d]at e⊢;simp[hk,getD_lt hk,e,aa.aG,af.aG,ae.aG]
 ·rw[M.rU];simp
theorem aiP(a:List ad)(ha:aR ad.sz a<=1048576):M.vB a=some a:=by
 have hl:=di ad.sz a;have hn:a.length<=1048576:=by omega
 have hi:(a.length:Int)<=1073741824:=by omega
 have q:∀z,z.length=a.length->M.pK  a Go.V.an 0 z=some a:=nq (F:=M.pK  a) a (by omega) (fun f k out h1 h2 hk=>by
  rw[M.pK];have e:=aiM a[k] (by have:=dX ad.sz a a[k] (cn hk);omega);simp[hk,h2,getD_lt hk,e,bN hk (dP hn),aa.aG,af.aG,ae.aG]) (fun f out=>by rw[M.pK];simp)
 unfold M.vB;rw[q _ (by simp)];simp[hi]
theorem aiQ(a:List ad)(ha:aR ad.sz a<=1048576):M.uZ a a=some true:=by
 have hl:=di ad.sz a;have hn:a.length<=1048576:=by omega
 unfold M.uZ;refine mg (F:=M.rF  a a) a hn (fun f k hk=>?_) (fun f=>?_)
 ·rw[M.rF];have e:=aiN a[k] (by have:=dX ad.sz a a[k] (cn hk);omega);simp[hk,getD_lt hk,e,bN hk (dP hn),aa.aG,af.aG,ae.aG]
 ·rw[M.rF];simp
theorem Y7(a:ai)(left:Int)(ok:a.Ok)(h0:0<=left)(h1:left<=1048576):M.vy a left=some (if(a.sz:Int)<=left then left-a.sz else -1):=by
 unfold M.vy;have hs:=ai.cT a;have ok1:=(ai.ok_eq a).1 ok
 try simp only[aa.aG,af.aG,ae.aG]
 have e0:=aip (a.aT) (left) ok1.1 (by omega) (by omega);by_cases c0:((aR ar.sz (a.aT):Nat):Int)<=left
 ·rw[aF c0]at e0;have n0:¬(left-((aR ar.sz (a.aT):Nat):Int)<0):=by omega
  have e1:=aiI (a.aX) (left-((aR ar.sz (a.aT):Nat):Int)) ok1.2.1 (by omega) (by omega);by_cases c1:((aR ae.sz (a.aX):Nat):Int)<=left-((aR ar.sz (a.aT):Nat):Int)
  ·rw[aF c1]at e1;have n1:¬(left-((aR ar.sz (a.aT):Nat):Int)-((aR ae.sz (a.aX):Nat):Int)<0):=by omega
   have e2:=aiO (a.aC) (left-((aR ar.sz (a.aT):Nat):Int)-((aR ae.sz (a.aX):Nat):Int)) ok1.2.2.1 (by omega) (by omega);by_cases c2:((aR ad.sz (a.aC):Nat):Int)<=left-((aR ar.sz (a.aT):Nat):Int)-((aR ae.sz (a.aX):Nat):Int)
   ·rw[aF c2]at e2;have n2:¬(left-((aR ar.sz (a.aT):Nat):Int)-((aR ae.sz (a.aX):Nat):Int)-((aR ad.sz (a.aC):Nat):Int)<0):=by omega
    have e3:=HK (a.Back) (left-((aR ar.sz (a.aT):Nat):Int)-((aR ae.sz (a.aX):Nat):Int)-((aR ad.sz (a.aC):Nat):Int)) ok1.2.2.2.1 (by omega) (by omega);by_cases c3:((aR (fun _=>0) (a.Back):Nat):Int)<=left-((aR ar.sz (a.aT):Nat):Int)-((aR ae.sz (a.aX):Nat):Int)-((aR ad.sz (a.aC):Nat):Int)
    ·rw[aF c3]at e3;have n3:¬(left-((aR ar.sz (a.aT):Nat):Int)-((aR ae.sz (a.aX):Nat):Int)-((aR ad.sz (a.aC):Nat):Int)-((aR (fun _=>0) (a.Back):Nat):Int)<0):=by omega
     have e4:=aij (a.Notes) (left-((aR ar.sz (a.aT):Nat):Int)-((aR ae.sz (a.aX):Nat):Int)-((aR ad.sz (a.aC):Nat):Int)-((aR (fun _=>0) (a.Back):Nat):Int)) ok1.2.2.2.2.1 (by omega) (by omega);by_cases c4:((aR az.sz (a.Notes):Nat):Int)<=left-((aR ar.sz (a.aT):Nat):Int)-((aR ae.sz (a.aX):Nat):Int)-((aR ad.sz (a.aC):Nat):Int)-((aR (fun _=>0) (a.Back):Nat):Int)
     ·rw[aF c4]at e4;have n4:¬(left-((aR ar.sz (a.aT):Nat):Int)-((aR ae.sz (a.aX):Nat):Int)-((aR ad.sz (a.aC):Nat):Int)-((aR (fun _=>0) (a.Back):Nat):Int)-((aR az.sz (a.Notes):Nat):Int)<0):=by omega
      have q:(a.sz:Int)<=left:=by rw[hs]<;>push_cast<;>omega
      have q2:left-(a.sz:Int)=left-((aR ar.sz (a.aT):Nat):Int)-((aR ae.sz (a.aX):Nat):Int)-((aR ad.sz (a.aC):Nat):Int)-((aR (fun _=>0) (a.Back):Nat):Int)-((aR az.sz (a.Notes):Nat):Int):=by rw[hs]<;>push_cast<;>omega
      rw[aF q,q2];simp[e0,n0,e1,n1,e2,n2,e3,n3,e4,n4]
     ·rw[bF c4]at e4;have q:¬((a.sz:Int)<=left):=by rw[hs]<;>push_cast<;>omega
      rw[bF q];simp[e0,n0,e1,n1,e2,n2,e3,n3,e4]
    ·rw[bF c3]at e3;have q:¬((a.sz:Int)<=left):=by rw[hs]<;>push_cast<;>omega
     rw[bF q];simp[e0,n0,e1,n1,e2,n2,e3]
   ·rw[bF c2]at e2;have q:¬((a.sz:Int)<=left):=by rw[hs]<;>push_cast<;>omega
    rw[bF q];simp[e0,n0,e1,n1,e2]
  ·rw[bF c1]at e1;have q:¬((a.sz:Int)<=left):=by rw[hs]<;>push_cast<;>omega
   rw[bF q];simp[e0,n0,e1]
 ·rw[bF c0]at e0;have q:¬((a.sz:Int)<=left):=by rw[hs]<;>push_cast<;>omega
  rw[bF q];simp[e0]
theorem Y8(a:ai)(h:a.sz<=1048576):M.vD a=some (a.aT,a.aX,a.aC,a.Back,a.Notes):=by
 unfold M.vD;have hs:=ai.cT a
 try simp only[aa.aG,af.aG,ae.aG]
 have e0:=aiq (a.aT) (by omega);have e1:=aiJ (a.aX) (by omega);have e2:=aiP (a.aC) (by omega);have e3:=HM (a.Back) (by omega);have e4:=aik (a.Notes) (by omega)
 try simp[e0,e1,e2,e3,e4]
theorem Y9(a:ai)(h:a.sz<=1048576):M.vH a a=some true:=by
 unfold M.vH;have hs:=ai.cT a
 try simp only[aa.aG,af.aG,ae.aG]
 have e0:=air (a.aT) (by omega);have e1:=aiK (a.aX) (by omega);have e2:=aiQ (a.aC) (by omega);have e3:=HN (a.Back) (by omega);have e4:=ail (a.Notes) (by omega)
 try simp[e0,e1,e2,e3,e4]
end M
