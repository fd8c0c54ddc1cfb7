/-
  Part of the proof of the claim.
-/
import Derived.Test.YtgonjnjoklpegaaGreatDoorXONM
import Derived.Test.YtgonjnjoklpegaaGreatDoorXOlaw
import Derived.Test.YtgonjnjoklpegaaGreatDoorXOpl
set_option linter.unusedVariables false
set_option linter.unusedSimpArgs false
namespace M
def kV(s:List UInt8):Prop:=s.length<=9223372036854775807
def dn{α:Type}(p:α->Prop)(l:List α):Prop:=l.length<=9223372036854775807/\∀x∈l,p x
def aG.sz(a:aG):Nat:=0
theorem aG.cy(a:aG):a.sz=0:=rfl
def aG.Ok(a:aG):Prop:=I64 (a.Kind)/\I64 (a.A)/\I64 (a.B)/\True
theorem aG.ok_eq(a:aG):a.Ok↔(I64 (a.Kind)/\I64 (a.A)/\I64 (a.B)/\True):=i9
def ay.sz(a:ay):Nat:=0
theorem ay.cy(a:ay):a.sz=0:=rfl
def ay.Ok(a:ay):Prop:=I64 (a.Task)/\I64 (a.Kind)/\I64 (a.A)/\I64 (a.B)/\True
theorem ay.ok_eq(a:ay):a.Ok↔(I64 (a.Task)/\I64 (a.Kind)/\I64 (a.A)/\I64 (a.B)/\True):=i9
def aD.sz(a:aD):Nat:=aF aG.sz (a.Ops)
theorem aD.cy(a:aD):a.sz=aF aG.sz (a.Ops):=rfl
def aD.Ok(a:aD):Prop:=I64 (a.fp)/\dn aG.Ok (a.Ops)/\True
theorem aD.ok_eq(a:aD):a.Ok↔(I64 (a.fp)/\dn aG.Ok (a.Ops)/\True):=i9
mutual
def aa.sz:aa->Nat
 |.mk v0 v1 v2 v3=>(v1).length+aF List.length (v2)+aa.mb v3
def aa.mb:List aa->Nat
 |[]=>0
 |t::r=>aa.sz t+1+aa.mb r
end
theorem aa.vP:∀l:List aa,aa.mb l=aF aa.sz l
 |[]=>rfl
 |t::r=>by simp only[aa.mb,aF,aa.vP r]
theorem aa.cy(a:aa):a.sz=(a.Name).length+aF List.length (a.bK)+aF aa.sz (a.Kids):=by cases a;simp only[aa.sz,aa.vP];rfl
mutual
def aa.Ok:aa->Prop
 |.mk v0 v1 v2 v3=>I64 (v0)/\kV (v1)/\dn kV (v2)/\(v3.length<=9223372036854775807/\aa.gm v3)/\True
def aa.gm:List aa->Prop
 |[]=>True
 |t::r=>aa.Ok t/\aa.gm r
end
theorem aa.vQ:∀l:List aa,aa.gm l↔∀x∈l,aa.Ok x
 |[]=>by simp[aa.gm]
 |t::r=>by simp[aa.gm,aa.vQ r]
theorem aa.ok_eq(a:aa):a.Ok↔(I64 (a.Kind)/\kV (a.Name)/\dn kV (a.bK)/\dn aa.Ok (a.Kids)/\True):=by
 cases a;simp only[aa.Ok,aa.vQ,dn];exact i9
mutual
def ae.sz:ae->Nat
 |.mk v0 v1 v2 v3=>(v2).length+ae.mb v3
def ae.mb:List ae->Nat
 |[]=>0
 |t::r=>ae.sz t+1+ae.mb r
end
theorem ae.vP:∀l:List ae,ae.mb l=aF ae.sz l
 |[]=>rfl
 |t::r=>by simp only[ae.mb,aF,ae.vP r]
theorem ae.cy(a:ae):a.sz=(a.Text).length+aF ae.sz (a.Kids):=by cases a;simp only[ae.sz,ae.vP];rfl
mutual
def ae.Ok:ae->Prop
 |.mk v0 v1 v2 v3=>I64 (v0)/\I64 (v1)/\kV (v2)/\(v3.length<=9223372036854775807/\ae.gm v3)/\True
def ae.gm:List ae->Prop
 |[]=>True
 |t::r=>ae.Ok t/\ae.gm r
end
theorem ae.vQ:∀l:List ae,ae.gm l↔∀x∈l,ae.Ok x
 |[]=>by simp[ae.gm]
 |t::r=>by simp[ae.gm,ae.vQ r]
theorem ae.ok_eq(a:ae):a.Ok↔(I64 (a.Kind)/\I64 (a.Num)/\kV (a.Text)/\dn ae.Ok (a.Kids)/\True):=by
 cases a;simp only[ae.Ok,ae.vQ,dn];exact i9
def ah.sz(a:ah):Nat:=(a.bR).sz+aF ae.sz (a.Buffer)
theorem ah.cy(a:ah):a.sz=(a.bR).sz+aF ae.sz (a.Buffer):=rfl
def ah.Ok(a:ah):Prop:=aa.Ok (a.bR)/\I64 (a.Room)/\True/\dn ae.Ok (a.Buffer)/\I64 (a.Put)/\I64 (a.dx)/\True/\True/\True
theorem ah.ok_eq(a:ah):a.Ok↔(aa.Ok (a.bR)/\I64 (a.Room)/\True/\dn ae.Ok (a.Buffer)/\I64 (a.Put)/\I64 (a.dx)/\True/\True/\True):=i9
def af.sz(a:af):Nat:=aF (fun _=>0) (a.aZ)+aF (fun _=>0) (a.Set)
theorem af.cy(a:af):a.sz=aF (fun _=>0) (a.aZ)+aF (fun _=>0) (a.Set):=rfl
def af.Ok(a:af):Prop:=I64 (a.Id)/\I64 (a.Prog)/\I64 (a.PC)/\I64 (a.dI)/\I64 (a.Status)/\I64 (a.Result)/\True/\True/\True/\dn I64 (a.aZ)/\dn I64 (a.Set)/\True
theorem af.ok_eq(a:af):a.Ok↔(I64 (a.Id)/\I64 (a.Prog)/\I64 (a.PC)/\I64 (a.dI)/\I64 (a.Status)/\I64 (a.Result)/\True/\True/\True/\dn I64 (a.aZ)/\dn I64 (a.Set)/\True):=i9
def ar.sz(a:ar):Nat:=aF aD.sz (a.bp)+aF ah.sz (a.bS)+aF af.sz (a.aH)+aF (fun _=>0) (a.Back)+aF ay.sz (a.Notes)
theorem ar.cy(a:ar):a.sz=aF aD.sz (a.bp)+aF ah.sz (a.bS)+aF af.sz (a.aH)+aF (fun _=>0) (a.Back)+aF ay.sz (a.Notes):=rfl
def ar.Ok(a:ar):Prop:=dn aD.Ok (a.bp)/\dn ah.Ok (a.bS)/\dn af.Ok (a.aH)/\dn I64 (a.Back)/\dn ay.Ok (a.Notes)/\True
theorem ar.ok_eq(a:ar):a.Ok↔(dn aD.Ok (a.bp)/\dn ah.Ok (a.bS)/\dn af.Ok (a.aH)/\dn I64 (a.Back)/\dn ay.Ok (a.Notes)/\True):=i9
theorem aG.gn(a:aG)(h:∀m,Go.V.hP m .cb a):a.Ok:=⟨(h 0).1,(h 0).2.1,(h 0).2.2.1,trivial⟩
theorem ay.gn(a:ay)(h:∀m,Go.V.hP m .Note a):a.Ok:=⟨(h 0).1,(h 0).2.1,(h 0).2.2.1,(h 0).2.2.2.1,trivial⟩
theorem aD.gn(a:aD)(h:∀m,Go.V.hP m .Prog a):a.Ok:=⟨(h 0).1,⟨((h 0).2.1).1,fun y hy=>aG.gn y (fun m=>((h (m+1)).2.1).2 y hy)⟩,trivial⟩
mutual
theorem aa.gn:∀(a:aa),(∀m,Go.V.hP m .Type a)->a.Ok
 |.mk v0 v1 v2 v3,h=>by
   simp only[aa.Ok];exact⟨(h 0).1,(h 0).2.1,⟨((h 0).2.2.1).1,fun y hy=>((fun m=>((h (m+1)).2.2.1).2 y hy) 0).1⟩,⟨((h 0).2.2.2.1).1,(aa.vR _ fun y hy m=>((h (m+1)).2.2.2.1).2 y hy)⟩,trivial⟩
theorem aa.vR:∀(l:List aa),(∀y∈l,∀m,Go.V.hP m .Type y)->aa.gm l
 |[],_=>by simp only[aa.gm]
 |t::r,h=>by
  simp only[aa.gm];exact⟨aa.gn t (h t (by simp)),aa.vR r fun y hy=>h y (by simp[hy])⟩
end
mutual
theorem ae.gn:∀(a:ae),(∀m,Go.V.hP m .Value a)->a.Ok
 |.mk v0 v1 v2 v3,h=>by
   simp only[ae.Ok];exact⟨(h 0).1,(h 0).2.1,(h 0).2.2.1,⟨((h 0).2.2.2.1).1,(ae.vR _ fun y hy m=>((h (m+1)).2.2.2.1).2 y hy)⟩,trivial⟩
theorem ae.vR:∀(l:List ae),(∀y∈l,∀m,Go.V.hP m .Value y)->ae.gm l
 |[],_=>by simp only[ae.gm]
 |t::r,h=>by
  simp only[ae.gm];exact⟨ae.gn t (h t (by simp)),ae.vR r fun y hy=>h y (by simp[hy])⟩
end
theorem ah.gn(a:ah)(h:∀m,Go.V.hP m .Stream a):a.Ok:=⟨(aa.gn (a.bR) (fun m=>by cases m with|zero=>exact⟨(h 0).1,(h 0).2.1,(h 0).2.2.1,(h 0).2.2.2.1,trivial⟩|succ m=>exact⟨(h (m+1)).1,(h (m+1)).2.1,(h (m+1)).2.2.1,(h (m+1)).2.2.2.1,trivial⟩)),(h 0).2.2.2.2.1,trivial,⟨((h 0).2.2.2.2.2.2.1).1,fun y hy=>ae.gn y (fun m=>((h (m+1)).2.2.2.2.2.2.1).2 y hy)⟩,(h 0).2.2.2.2.2.2.2.1,(h 0).2.2.2.2.2.2.2.2.1,trivial,trivial,trivial⟩
theorem af.gn(a:af)(h:∀m,Go.V.hP m .Task a):a.Ok:=⟨(h 0).1,(h 0).2.1,(h 0).2.2.1,(h 0).2.2.2.1,(h 0).2.2.2.2.1,(h 0).2.2.2.2.2.1,trivial,trivial,trivial,⟨((h 0).2.2.2.2.2.2.2.2.2.1).1,fun y hy=>((fun m=>((h (m+1)).2.2.2.2.2.2.2.2.2.1).2 y hy) 0).1⟩,⟨((h 0).2.2.2.2.2.2.2.2.2.2.1).1,fun y hy=>((fun m=>((h (m+1)).2.2.2.2.2.2.2.2.2.2.1).2 y hy) 0).1⟩,trivial⟩
theorem ar.gn(a:ar)(h:∀m,Go.V.hP m .Async a):a.Ok:=⟨⟨((h 0).1).1,fun y hy=>aD.gn y (fun m=>((h (m+1)).1).2 y hy)⟩,⟨((h 0).2.1).1,fun y hy=>ah.gn y (fun m=>((h (m+1)).2.1).2 y hy)⟩,⟨((h 0).2.2.1).1,fun y hy=>af.gn y (fun m=>((h (m+1)).2.2.1).2 y hy)⟩,⟨((h 0).2.2.2.1).1,fun y hy=>((fun m=>((h (m+1)).2.2.2.1).2 y hy) 0).1⟩,⟨((h 0).2.2.2.2.1).1,fun y hy=>ay.gn y (fun m=>((h (m+1)).2.2.2.2.1).2 y hy)⟩,trivial⟩
theorem abV(a:List (List UInt8))(left:Int)(ok:dn kV a)(h0:0<=left)(h1:left<=1048576):M.rV a left=some (if(aF List.length a:Int)<=left then left-aF List.length a else -1):=by
 have hl:=ok.1;unfold M.rV;rw[wrap_i64 (by omega) (by omega)];refine tR (f:=List.length) (F:=M.pz  a) a left h0 h1 (fun g k l h2 h3 hk=>?_) (fun g l=>?_)
 ·have hn:k<2^62:=by omega
  rw[M.pz];have w:Go.IntKind.wrap .i64 (l-((a[k]).length:Int))=l-(a[k]).length:=wrap_i64 (by have:=ok.2 a[k] (ca hk);unfold kV at this;omega) (by omega);by_cases d:((a[k]).length:Int)<=l
  ·have n:¬(l-((a[k]).length:Int)<0):=by omega
   rw[aC d];simp[hk,getD_lt hk,w,n,bM hk (show a.length<2^62 by omega)]
  ·have n:l-((a[k]).length:Int)<0:=by omega
   rw[ax d];simp[hk,getD_lt hk,w,n]
 ·rw[M.pz];simp
theorem abW(a:List (List UInt8))(ha:aF List.length a<=1048576):M.rX a=some a:=by
 have hl:=da List.length a;have hn:a.length<=1048576:=by omega
 have hi:(a.length:Int)<=1073741824:=by omega
 have q:∀z,z.length=a.length->M.nc  a Go.V.al 0 z=some a:=mc (F:=M.nc  a) a (by omega) (fun f k out h1 h2 hk=>by
  rw[M.nc];simp[hk,h2,getD_lt hk,bM hk (dj hn)]) (fun f out=>by rw[M.nc];simp)
 unfold M.rX;rw[q _ (by simp)];simp[hi]
theorem abX(a:List (List UInt8))(ha:aF List.length a<=1048576):M.rZ a a=some true:=by
 have hl:=da List.length a;have hn:a.length<=1048576:=by omega
 unfold M.rZ;refine kW (F:=M.pD  a a) a hn (fun f k hk=>?_) (fun f=>?_)
 ·rw[M.pD];simp[hk,getD_lt hk,bM hk (dj hn)]
 ·rw[M.pD];simp
theorem DR(a:List Int)(left:Int)(ok:dn I64 a)(h0:0<=left)(h1:left<=1048576):M.ma a left=some (if(aF (fun _=>0) a:Int)<=left then left-aF (fun _=>0) a else -1):=by
 have hl:=ok.1;unfold M.ma;rw[wrap_i64 (by omega) (by omega)];exact DT (f:=(fun _=>0)) (fun _=>rfl) a left h0
theorem DU(a:List Int)(ha:aF (fun _=>0) a<=1048576):M.lO a=some a:=by
 have hl:=da (fun _=>0) a;have hn:a.length<=1048576:=by omega
 have hi:(a.length:Int)<=1073741824:=by omega
 have q:∀z,z.length=a.length->M.na  a Go.V.al 0 z=some a:=mc (F:=M.na  a) a (by omega) (fun f k out h1 h2 hk=>by
  rw[M.na];simp[hk,h2,getD_lt hk,bM hk (dj hn)]) (fun f out=>by rw[M.na];simp)
 unfold M.lO;rw[q _ (by simp)];simp[hi]
theorem DV(a:List Int)(ha:aF (fun _=>0) a<=1048576):M.lP a a=some true:=by
 have hl:=da (fun _=>0) a;have hn:a.length<=1048576:=by omega
 unfold M.lP;refine kW (F:=M.pw  a a) a hn (fun f k hk=>?_) (fun f=>?_)
 ·rw[M.pw];simp[hk,getD_lt hk,bM hk (dj hn)]
 ·rw[M.pw];simp
theorem abY(a:aG)(h:a.sz<=1048576):M.vh a=some a:=by
 unfold M.vh;have hs:=aG.cy a
 try simp only[aa.aE,ae.aE,ah.aE]
 try simp[]
theorem abZ(a:aG)(h:a.sz<=1048576):M.rO a a=some true:=by
 unfold M.rO;have hs:=aG.cy a
 try simp only[aa.aE,ae.aE,ah.aE]
 try simp[]
theorem ab1(a:List aG)(left:Int)(ok:dn aG.Ok a)(h0:0<=left)(h1:left<=1048576):M.rI a left=some (if(aF aG.sz a:Int)<=left then left-aF aG.sz a else -1):=by
 have hl:=ok.1;unfold M.rI;rw[wrap_i64 (by omega) (by omega)];exact DT (f:=aG.sz) (fun _=>rfl) a left h0
theorem ab2(a:List aG)(ha:aF aG.sz a<=1048576):M.rL a=some a:=by
 have hl:=da aG.sz a;have hn:a.length<=1048576:=by omega
 have hi:(a.length:Int)<=1073741824:=by omega
 have q:∀z,z.length=a.length->M.m8  a Go.V.al 0 z=some a:=mc (F:=M.m8  a) a (by omega) (fun f k out h1 h2 hk=>by
  rw[M.m8];have e:=abY a[k] (by have:=dQ aG.sz a a[k] (ca hk);omega);simp[hk,h2,getD_lt hk,e,bM hk (dj hn),aa.aE,ae.aE,ah.aE]) (fun f out=>by rw[M.m8];simp)
 unfold M.rL;rw[q _ (by simp)];simp[hi]
theorem ab3(a:List aG)(ha:aF aG.sz a<=1048576):M.rP a a=some true:=by
 have hl:=da aG.sz a;have hn:a.length<=1048576:=by omega
 unfold M.rP;refine kW (F:=M.pt  a a) a hn (fun f k hk=>?_) (fun f=>?_)
 ·rw[M.pt];have e:=abZ a[k] (by have:=dQ aG.sz a a[k] (ca hk);omega);simp[hk,getD_lt hk,e,bM hk (dj hn),aa.aE,ae.aE,ah.aE]
 ·rw[M.pt];simp
theorem ab4(a:ay)(h:a.sz<=1048576):M.vJ a=some a:=by
 unfold M.vJ;have hs:=ay.cy a
 try simp only[aa.aE,ae.aE,ah.aE]
 try simp[]
theorem ab5(a:ay)(h:a.sz<=1048576):M.rU a a=some true:=by
 unfold M.rU;have hs:=ay.cy a
 try simp only[aa.aE,ae.aE,ah.aE]
 try simp[]
theorem ab6(a:List ay)(left:Int)(ok:dn ay.Ok a)(h0:0<=left)(h1:left<=1048576):M.ta a left=some (if(aF ay.sz a:Int)<=left then left-aF ay.sz a else -1):=by
 have hl:=ok.1;unfold M.ta;rw[wrap_i64 (by omega) (by omega)];exact DT (f:=ay.sz) (fun _=>rfl) a left h0
theorem ab7(a:List ay)(ha:aF ay.sz a<=1048576):M.ti a=some a:=by
 have hl:=da ay.sz a;have hn:a.length<=1048576:=by omega
 have hi:(a.length:Int)<=1073741824:=by omega
 have q:∀z,z.length=a.length->M.nH  a Go.V.al 0 z=some a:=mc (F:=M.nH  a) a (by omega) (fun f k out h1 h2 hk=>by
  rw[M.nH];have e:=ab4 a[k] (by have:=dQ ay.sz a a[k] (ca hk);omega);simp[hk,h2,getD_lt hk,e,bM hk (dj hn),aa.aE,ae.aE,ah.aE]) (fun f out=>by rw[M.nH];simp)
 unfold M.ti;rw[q _ (by simp)];simp[hi]
theorem Hz(a:List ay)(ha:aF ay.sz a<=1048576):M.nb a a=some true:=by
 have hl:=da ay.sz a;have hn:a.length<=1048576:=by omega
 unfold M.nb;refine kW (F:=M.py  a a) a hn (fun f k hk=>?_) (fun f=>?_)
 ·rw[M.py];have e:=ab5 a[k] (by have:=dQ ay.sz a a[k] (ca hk);omega);simp[hk,getD_lt hk,e,bM hk (dj hn),aa.aE,ae.aE,ah.aE]
 ·rw[M.py];simp
theorem ab8(a:aD)(left:Int)(ok:a.Ok)(h0:0<=left)(h1:left<=1048576):M.rJ a left=some (if(a.sz:Int)<=left then left-a.sz else -1):=by
 unfold M.rJ;have hs:=aD.cy a;have ok1:=(aD.ok_eq a).1 ok
 try simp only[aa.aE,ae.aE,ah.aE]
 have e0:=ab1 (a.Ops) (left) ok1.2.1 (by omega) (by omega);by_cases c0:((aF aG.sz (a.Ops):Nat):Int)<=left
 ·rw[aC c0]at e0;have n0:¬(left-((aF aG.sz (a.Ops):Nat):Int)<0):=by omega
  have q:(a.sz:Int)<=left:=by rw[hs]<;>push_cast<;>omega
  have q2:left-(a.sz:Int)=left-((aF aG.sz (a.Ops):Nat):Int):=by rw[hs]<;>push_cast<;>omega
  rw[aC q,q2];simp[e0,n0]
 ·rw[ax c0]at e0;have q:¬((a.sz:Int)<=left):=by rw[hs]<;>push_cast<;>omega
  rw[ax q];simp[e0]
theorem ab9(a:aD)(h:a.sz<=1048576):M.rM a=some (a.fp,a.Ops):=by
 unfold M.rM;have hs:=aD.cy a
 try simp only[aa.aE,ae.aE,ah.aE]
 have e1:=ab2 (a.Ops) (by omega)
 try simp[e1]
theorem aca(a:aD)(h:a.sz<=1048576):M.rQ a a=some true:=by
 unfold M.rQ;have hs:=aD.cy a
 try simp only[aa.aE,ae.aE,ah.aE]
 have e1:=ab3 (a.Ops) (by omega)
 try simp[e1]
theorem acb(a:List aD)(left:Int)(ok:dn aD.Ok a)(h0:0<=left)(h1:left<=1048576):M.rK a left=some (if(aF aD.sz a:Int)<=left then left-aF aD.sz a else -1):=by
 have hl:=ok.1;unfold M.rK;rw[wrap_i64 (by omega) (by omega)];refine tR (f:=aD.sz) (F:=M.pr  a) a left h0 h1 (fun g k l h2 h3 hk=>?_) (fun g l=>?_)
 ·have hn:k<2^62:=by omega
  rw[M.pr];have e:=ab8 a[k] l (ok.2 _ (ca hk)) h2 (by omega);by_cases d:((aD.sz a[k]:Nat):Int)<=l
  ·have n:¬(l-((aD.sz a[k]:Nat):Int)<0):=by omega
   rw[aC d]at e⊢;simp[hk,getD_lt hk,e,n,bM hk (show a.length<2^62 by omega),aa.aE,ae.aE,ah.aE]
  ·rw[ax d]at e⊢;simp[hk,getD_lt hk,e,aa.aE,ae.aE,ah.aE]
 ·rw[M.pr];simp
theorem acd(a:List aD)(ha:aF aD.sz a<=1048576):M.rN a=some a:=by
 have hl:=da aD.sz a;have hn:a.length<=1048576:=by omega
 have hi:(a.length:Int)<=1073741824:=by omega
 have q:∀z,z.length=a.length->M.m9  a Go.V.al 0 z=some a:=mc (F:=M.m9  a) a (by omega) (fun f k out h1 h2 hk=>by
  rw[M.m9];have e:=ab9 a[k] (by have:=dQ aD.sz a a[k] (ca hk);omega);simp[hk,h2,getD_lt hk,e,bM hk (dj hn),aa.aE,ae.aE,ah.aE]) (fun f out=>by rw[M.m9];simp)
 unfold M.rN;rw[q _ (by simp)];simp[hi]
theorem ace(a:List aD)(ha:aF aD.sz a<=1048576):M.rR a a=some true:=by
 have hl:=da aD.sz a;have hn:a.length<=1048576:=by omega
 unfold M.rR;refine kW (F:=M.pv  a a) a hn (fun f k hk=>?_) (fun f=>?_)
 ·rw[M.pv];have e:=aca a[k] (by have:=dQ aD.sz a a[k] (ca hk);omega);simp[hk,getD_lt hk,e,bM hk (dj hn),aa.aE,ae.aE,ah.aE]
 ·rw[M.pv];simp
theorem acf(r:aa->Int->Option Int)(a:List aa)(left:Int)(ok:dn aa.Ok a)(h0:0<=left)(h1:left<=1048576)(hr:∀x l,x∈a->0<=l->l<left->r x l=some (if(x.sz:Int)<=l then l-x.sz else -1)):M.rW r a left=some (if(aF aa.sz a:Int)<=left then left-aF aa.sz a else -1):=by
 have hl:=ok.1;unfold M.rW;rw[wrap_i64 (by omega) (by omega)];refine tR (f:=aa.sz) (F:=M.pA r  a) a left h0 h1 (fun g k l h2 h3 hk=>?_) (fun g l=>?_)
 ·have hn:k<2^62:=by omega
  rw[M.pA];have e:=hr a[k] l (ca hk) h2 (by omega);by_cases d:((aa.sz a[k]:Nat):Int)<=l
  ·have n:¬(l-((aa.sz a[k]:Nat):Int)<0):=by omega
   rw[aC d]at e⊢;simp[hk,getD_lt hk,e,n,bM hk (show a.length<2^62 by omega),aa.aE,ae.aE,ah.aE]
  ·rw[ax d]at e⊢;simp[hk,getD_lt hk,e,aa.aE,ae.aE,ah.aE]
 ·rw[M.pA];simp
theorem acg(r:aa->Option (Int×(List UInt8)×(List (List UInt8))×(List aa)))(a:List aa)(ha:a.length<=1048576)(hr:∀x∈a,r x=some (x.Kind,x.Name,x.bK,x.Kids)):M.rY r a=some a:=by
 have hn:a.length<=1048576:=by omega
 have hi:(a.length:Int)<=1073741824:=by omega
 have q:∀z,z.length=a.length->M.nf r  a Go.V.al 0 z=some a:=mc (F:=M.nf r  a) a (by omega) (fun f k out h1 h2 hk=>by
  rw[M.nf];have e:=hr a[k] (ca hk);simp[hk,h2,getD_lt hk,e,bM hk (dj hn),aa.aE,ae.aE,ah.aE,aa.eta]) (fun f out=>by rw[M.nf];simp)
 unfold M.rY;rw[q _ (by simp)];simp[hi]
theorem ach(r:aa->aa->Option Bool)(a:List aa)(ha:a.length<=1048576)(hr:∀x∈a,r x x=some true):M.r5 r a a=some true:=by
 have hn:a.length<=1048576:=by omega
 unfold M.r5;refine kW (F:=M.pE r  a a) a hn (fun f k hk=>?_) (fun f=>?_)
 ·rw[M.pE];have e:=hr a[k] (ca hk);simp[hk,getD_lt hk,e,bM hk (dj hn),aa.aE,ae.aE,ah.aE]
 ·rw[M.pE];simp
theorem OQ:∀(n:Nat)(a:aa)(left:Int),a.Ok->0<=left->left<n->left<=1048576->M.pB n a left=some (if(a.sz:Int)<=left then left-a.sz else -1)
 |0,a,left,ok,h0,h2,h1=>by omega
 |n+1,a,left,ok,h0,h2,h1=>by
  show M.vi (M.pB n) a left=_
  unfold M.vi;have hs:=aa.cy a;have ok1:=(aa.ok_eq a).1 ok
  try simp only[aa.aE,ae.aE,ah.aE]
  have e0:Go.IntKind.wrap .i64 (left-((a.Name).length:Int))=left-((a.Name).length:Int):=wrap_i64 (by have:=ok1.2.1;unfold kV at this;omega) (by omega);by_cases c0:(((a.Name).length:Nat):Int)<=left
  ·skip
   have n0:¬(left-(((a.Name).length:Nat):Int)<0):=by omega
   have e1:=abV (a.bK) (left-(((a.Name).length:Nat):Int)) ok1.2.2.1 (by omega) (by omega);by_cases c1:((aF List.length (a.bK):Nat):Int)<=left-(((a.Name).length:Nat):Int)
   ·rw[aC c1]at e1;have n1:¬(left-(((a.Name).length:Nat):Int)-((aF List.length (a.bK):Nat):Int)<0):=by omega
    have e2:=acf (M.pB n) (a.Kids) (left-(((a.Name).length:Nat):Int)-((aF List.length (a.bK):Nat):Int)) ok1.2.2.2.1 (by omega) (by omega) (fun x l hx q0 q1=>OQ n x l ((ok1.2.2.2.1).2 x hx) q0 (by omega) (by omega));by_cases c2:((aF aa.sz (a.Kids):Nat):Int)<=left-(((a.Name).length:Nat):Int)-((aF List.length (a.bK):Nat):Int)
    ·rw[aC c2]at e2;have n2:¬(left-(((a.Name).length:Nat):Int)-((aF List.length (a.bK):Nat):Int)-((aF aa.sz (a.Kids):Nat):Int)<0):=by omega
     have q:(a.sz:Int)<=left:=by rw[hs]<;>push_cast<;>omega
     have q2:left-(a.sz:Int)=left-(((a.Name).length:Nat):Int)-((aF List.length (a.bK):Nat):Int)-((aF aa.sz (a.Kids):Nat):Int):=by rw[hs]<;>push_cast<;>omega
     rw[aC q,q2];simp[e0,n0,e1,n1,e2,n2]
    ·rw[ax c2]at e2;have q:¬((a.sz:Int)<=left):=by rw[hs]<;>push_cast<;>omega
     rw[ax q];simp[e0,n0,e1,n1,e2]
   ·rw[ax c1]at e1;have q:¬((a.sz:Int)<=left):=by rw[hs]<;>push_cast<;>omega
    rw[ax q];simp[e0,n0,e1]
  ·have n0:left-(((a.Name).length:Nat):Int)<0:=by omega
   have q:¬((a.sz:Int)<=left):=by rw[hs]<;>push_cast<;>omega
   rw[ax q];simp[e0,n0]
theorem aci(a:aa)(left:Int)(ok:a.Ok)(h0:0<=left)(h1:left<=1048576):M.xG a left=some (if(a.sz:Int)<=left then left-a.sz else -1):=
 OQ _ a left ok h0 (by have:=Go.V.cE;omega) h1
theorem OR:∀(n:Nat)(a:aa),a.sz<n->a.sz<=1048576->M.pC n a=some (a.Kind,a.Name,a.bK,a.Kids)
 |0,a,h2,h=>by omega
 |n+1,a,h2,h=>by
  show M.vj (M.pC n) a=_
  unfold M.vj;have hs:=aa.cy a
  try simp only[aa.aE,ae.aE,ah.aE]
  have e2:=abW (a.bK) (by omega);have hk3:=da aa.sz (a.Kids);have e3:=acg (M.pC n) (a.Kids) (by omega) (fun x hx=>OR n x (by have:=dQ aa.sz (a.Kids) x hx;have:=lL aa.sz (a.Kids) x hx;omega) (by have:=dQ aa.sz (a.Kids) x hx;omega))
  try simp[e2,e3,aa.eta]
theorem acj(a:aa)(h:a.sz<=1048576):M.xJ a=some (a.Kind,a.Name,a.bK,a.Kids):=
 OR _ a (by have:=Go.V.cE;omega) h
theorem OS:∀(n:Nat)(a:aa),a.sz<n->a.sz<=1048576->M.pF n a a=some true
 |0,a,h2,h=>by omega
 |n+1,a,h2,h=>by
  show M.vk (M.pF n) a a=_
  unfold M.vk;have hs:=aa.cy a
  try simp only[aa.aE,ae.aE,ah.aE]
  have e2:=abX (a.bK) (by omega);have hk3:=da aa.sz (a.Kids);have e3:=ach (M.pF n) (a.Kids) (by omega) (fun x hx=>OS n x (by have:=dQ aa.sz (a.Kids) x hx;have:=lL aa.sz (a.Kids) x hx;omega) (by have:=dQ aa.sz (a.Kids) x hx;omega))
  try simp[e2,e3,aa.eta]
theorem ack(a:aa)(h:a.sz<=1048576):M.xN a a=some true:=
 OS _ a (by have:=Go.V.cE;omega) h
theorem OT(r:ae->Int->Option Int)(a:List ae)(left:Int)(ok:dn ae.Ok a)(h0:0<=left)(h1:left<=1048576)(hr:∀x l,x∈a->0<=l->l<left->r x l=some (if(x.sz:Int)<=l then l-x.sz else -1)):M.l8 r a left=some (if(aF ae.sz a:Int)<=left then left-aF ae.sz a else -1):=by
 have hl:=ok.1;unfold M.l8;rw[wrap_i64 (by omega) (by omega)];refine tR (f:=ae.sz) (F:=M.pS r  a) a left h0 h1 (fun g k l h2 h3 hk=>?_) (fun g l=>?_)
 ·have hn:k<2^62:=by omega
  rw[M.pS];have e:=hr a[k] l (ca hk) h2 (by omega);by_cases d:((ae.sz a[k]:Nat):Int)<=l
  ·have n:¬(l-((ae.sz a[k]:Nat):Int)<0):=by omega
   rw[aC d]at e⊢;simp[hk,getD_lt hk,e,n,bM hk (show a.length<2^62 by omega),aa.aE,ae.aE,ah.aE]
  ·rw[ax d]at e⊢;simp[hk,getD_lt hk,e,aa.aE,ae.aE,ah.aE]
 ·rw[M.pS];simp
theorem OU(r:ae->Option (Int×Int×(List UInt8)×(List ae)))(a:List ae)(ha:a.length<=1048576)(hr:∀x∈a,r x=some (x.Kind,x.Num,x.Text,x.Kids)):M.l9 r a=some a:=by
 have hn:a.length<=1048576:=by omega
 have hi:(a.length:Int)<=1073741824:=by omega
 have q:∀z,z.length=a.length->M.nE r  a Go.V.al 0 z=some a:=mc (F:=M.nE r  a) a (by omega) (fun f k out h1 h2 hk=>by
  rw[M.nE];have e:=hr a[k] (ca hk);simp[hk,h2,getD_lt hk,e,bM hk (dj hn),aa.aE,ae.aE,ah.aE,ae.eta]) (fun f out=>by rw[M.nE];simp)
 unfold M.l9;rw[q _ (by simp)];simp[hi]
theorem acm(r:ae->ae->Option Bool)(a:List ae)(ha:a.length<=1048576)(hr:∀x∈a,r x x=some true):M.rH r a a=some true:=by
 have hn:a.length<=1048576:=by omega
 unfold M.rH;refine kW (F:=M.po r  a a) a hn (fun f k hk=>?_) (fun f=>?_)
 ·rw[M.po];have e:=hr a[k] (ca hk);simp[hk,getD_lt hk,e,bM hk (dj hn),aa.aE,ae.aE,ah.aE]
 ·rw[M.po];simp
theorem OV:∀(n:Nat)(a:ae)(left:Int),a.Ok->0<=left->left<n->left<=1048576->M.pT n a left=some (if(a.sz:Int)<=left then left-a.sz else -1)
 |0,a,left,ok,h0,h2,h1=>by omega
 |n+1,a,left,ok,h0,h2,h1=>by
  show M.vH (M.pT n) a left=_
  unfold M.vH;have hs:=ae.cy a;have ok1:=(ae.ok_eq a).1 ok
  try simp only[aa.aE,ae.aE,ah.aE]
  have e0:Go.IntKind.wrap .i64 (left-((a.Text).length:Int))=left-((a.Text).length:Int):=wrap_i64 (by have:=ok1.2.2.1;unfold kV at this;omega) (by omega);by_cases c0:(((a.Text).length:Nat):Int)<=left
  ·skip
   have n0:¬(left-(((a.Text).length:Nat):Int)<0):=by omega
   have e1:=OT (M.pT n) (a.Kids) (left-(((a.Text).length:Nat):Int)) ok1.2.2.2.1 (by omega) (by omega) (fun x l hx q0 q1=>OV n x l ((ok1.2.2.2.1).2 x hx) q0 (by omega) (by omega));by_cases c1:((aF ae.sz (a.Kids):Nat):Int)<=left-(((a.Text).length:Nat):Int)
   ·rw[aC c1]at e1;have n1:¬(left-(((a.Text).length:Nat):Int)-((aF ae.sz (a.Kids):Nat):Int)<0):=by omega
    have q:(a.sz:Int)<=left:=by rw[hs]<;>push_cast<;>omega
    have q2:left-(a.sz:Int)=left-(((a.Text).length:Nat):Int)-((aF ae.sz (a.Kids):Nat):Int):=by rw[hs]<;>push_cast<;>omega
    rw[aC q,q2];simp[e0,n0,e1,n1]
   ·rw[ax c1]at e1;have q:¬((a.sz:Int)<=left):=by rw[hs]<;>push_cast<;>omega
    rw[ax q];simp[e0,n0,e1]
  ·have n0:left-(((a.Text).length:Nat):Int)<0:=by omega
   have q:¬((a.sz:Int)<=left):=by rw[hs]<;>push_cast<;>omega
   rw[ax q];simp[e0,n0]
theorem acn(a:ae)(left:Int)(ok:a.Ok)(h0:0<=left)(h1:left<=1048576):M.sX a left=some (if(a.sz:Int)<=left then left-a.sz else -1):=
 OV _ a left ok h0 (by have:=Go.V.cE;omega) h1
theorem aco(a:List ae)(left:Int)(ok:dn ae.Ok a)(h0:0<=left)(h1:left<=1048576):M.l8 M.sX a left=some (if(aF ae.sz a:Int)<=left then left-aF ae.sz a else -1):=
 OT _ a left ok h0 h1 fun x l hx q0 q1=>acn x l (ok.2 x hx) q0 (by omega)
theorem OW:∀(n:Nat)(a:ae),a.sz<n->a.sz<=1048576->M.pU n a=some (a.Kind,a.Num,a.Text,a.Kids)
 |0,a,h2,h=>by omega
 |n+1,a,h2,h=>by
  show M.vI (M.pU n) a=_
  unfold M.vI;have hs:=ae.cy a
  try simp only[aa.aE,ae.aE,ah.aE]
  have hk3:=da ae.sz (a.Kids);have e3:=OU (M.pU n) (a.Kids) (by omega) (fun x hx=>OW n x (by have:=dQ ae.sz (a.Kids) x hx;have:=lL ae.sz (a.Kids) x hx;omega) (by have:=dQ ae.sz (a.Kids) x hx;omega))
  try simp[e3,ae.eta]
theorem acp(a:ae)(h:a.sz<=1048576):M.sY a=some (a.Kind,a.Num,a.Text,a.Kids):=
 OW _ a (by have:=Go.V.cE;omega) h
theorem acr(a:List ae)(ha:aF ae.sz a<=1048576):M.l9 M.sY a=some a:=
 OU _ a (by have:=da ae.sz a;omega) fun x hx=>acp x (by have:=dQ ae.sz a x hx;omega)
theorem OX:∀(n:Nat)(a:ae),a.sz<n->a.sz<=1048576->M.pq n a a=some true
 |0,a,h2,h=>by omega
 |n+1,a,h2,h=>by
  show M.vg (M.pq n) a a=_
  unfold M.vg;have hs:=ae.cy a
  try simp only[aa.aE,ae.aE,ah.aE]
  have hk3:=da ae.sz (a.Kids);have e3:=acm (M.pq n) (a.Kids) (by omega) (fun x hx=>OX n x (by have:=dQ ae.sz (a.Kids) x hx;have:=lL ae.sz (a.Kids) x hx;omega) (by have:=dQ ae.sz (a.Kids) x hx;omega))
  try simp[e3,ae.eta]
theorem acs(a:ae)(h:a.sz<=1048576):M.xe a a=some true:=
 OX _ a (by have:=Go.V.cE;omega) h
theorem acu(a:ah)(left:Int)(ok:a.Ok)(h0:0<=left)(h1:left<=1048576):M.sZ a left=some (if(a.sz:Int)<=left then left-a.sz else -1):=by
 unfold M.sZ;have hs:=ah.cy a;have ok1:=(ah.ok_eq a).1 ok
 try simp only[aa.aE,ae.aE,ah.aE]
 have e0:=aci (a.bR) (left) ok1.1 (by omega) (by omega);by_cases c0:(((a.bR).sz:Nat):Int)<=left
 ·rw[aC c0]at e0;have n0:¬(left-(((a.bR).sz:Nat):Int)<0):=by omega
  have e1:=aco (a.Buffer) (left-(((a.bR).sz:Nat):Int)) ok1.2.2.2.1 (by omega) (by omega);by_cases c1:((aF ae.sz (a.Buffer):Nat):Int)<=left-(((a.bR).sz:Nat):Int)
  ·rw[aC c1]at e1;have n1:¬(left-(((a.bR).sz:Nat):Int)-((aF ae.sz (a.Buffer):Nat):Int)<0):=by omega
   have q:(a.sz:Int)<=left:=by rw[hs]<;>push_cast<;>omega
   have q2:left-(a.sz:Int)=left-(((a.bR).sz:Nat):Int)-((aF ae.sz (a.Buffer):Nat):Int):=by rw[hs]<;>push_cast<;>omega
   rw[aC q,q2];simp[e0,n0,e1,n1]
  ·rw[ax c1]at e1;have q:¬((a.sz:Int)<=left):=by rw[hs]<;>push_cast<;>omega
   rw[ax q];simp[e0,n0,e1]
 ·rw[ax c0]at e0;have q:¬((a.sz:Int)<=left):=by rw[hs]<;>push_cast<;>omega
  rw[ax q];simp[e0]
theorem acv(a:ah)(h:a.sz<=1048576):M.s6 a=some (a.bR.Kind,a.bR.Name,a.Room,a.db,a.Put,a.dx,a.Shut,a.Gone,a.bR.bK,a.bR.Kids,a.Buffer):=by
 unfold M.s6;have hs:=ah.cy a
 try simp only[aa.aE,ae.aE,ah.aE]
 have e0:=acj (a.bR) (by omega);have e3:=acr (a.Buffer) (by omega)
 try simp[e0,e3]
theorem acw(a:List ae)(ha:aF ae.sz a<=1048576):M.tN a a=some true:=by
 have hl:=da ae.sz a;have hn:a.length<=1048576:=by omega
 unfold M.tN;refine kW (F:=M.qk a a) a hn (fun f k hk=>?_) (fun f=>?_)
 ·rw[M.qk];have e:=acs a[k] (by have:=dQ ae.sz a a[k] (ca hk);omega);simp[hk,getD_lt hk,e,bM hk (dj hn),aa.aE,ae.aE,ah.aE]
 ·rw[M.qk];simp
theorem acx(a:ah)(h:a.sz<=1048576):M.tO a a=some true:=by
 unfold M.tO;have hs:=ah.cy a
 try simp only[aa.aE,ae.aE,ah.aE]
 have e0:=ack (a.bR) (by omega);have e3:=acw (a.Buffer) (by omega)
 try simp[e0,e3]
theorem acy(a:List ah)(left:Int)(ok:dn ah.Ok a)(h0:0<=left)(h1:left<=1048576):M.s7 a left=some (if(aF ah.sz a:Int)<=left then left-aF ah.sz a else -1):=by
 have hl:=ok.1;unfold M.s7;rw[wrap_i64 (by omega) (by omega)];refine tR (f:=ah.sz) (F:=M.pV  a) a left h0 h1 (fun g k l h2 h3 hk=>?_) (fun g l=>?_)
 ·have hn:k<2^62:=by omega
  rw[M.pV];have e:=acu a[k] l (ok.2 _ (ca hk)) h2 (by omega);by_cases d:((ah.sz a[k]:Nat):Int)<=l
  ·have n:¬(l-((ah.sz a[k]:Nat):Int)<0):=by omega
   rw[aC d]at e⊢;simp[hk,getD_lt hk,e,n,bM hk (show a.length<2^62 by omega),aa.aE,ae.aE,ah.aE]
  ·rw[ax d]at e⊢;simp[hk,getD_lt hk,e,aa.aE,ae.aE,ah.aE]
 ·rw[M.pV];simp
theorem acz(a:List ah)(ha:aF ah.sz a<=1048576):M.te a=some a:=by
 have hl:=da ah.sz a;have hn:a.length<=1048576:=by omega
 have hi:(a.length:Int)<=1073741824:=by omega
 have q:∀z,z.length=a.length->M.nF  a Go.V.al 0 z=some a:=mc (F:=M.nF  a) a (by omega) (fun f k out h1 h2 hk=>by
  rw[M.nF];have e:=acv a[k] (by have:=dQ ah.sz a a[k] (ca hk);omega);simp[hk,h2,getD_lt hk,e,bM hk (dj hn),aa.aE,ae.aE,ah.aE,aa.eta]) (fun f out=>by rw[M.nF];simp)
 unfold M.te;rw[q _ (by simp)];simp[hi]
theorem acA(a:List ah)(ha:aF ah.sz a<=1048576):M.tP a a=some true:=by
 have hl:=da ah.sz a;have hn:a.length<=1048576:=by omega
 unfold M.tP;refine kW (F:=M.ql  a a) a hn (fun f k hk=>?_) (fun f=>?_)
 ·rw[M.ql];have e:=acx a[k] (by have:=dQ ah.sz a a[k] (ca hk);omega);simp[hk,getD_lt hk,e,bM hk (dj hn),aa.aE,ae.aE,ah.aE]
 ·rw[M.ql];simp
theorem acB(a:af)(left:Int)(ok:a.Ok)(h0:0<=left)(h1:left<=1048576):M.s8 a left=some (if(a.sz:Int)<=left then left-a.sz else -1):=by
 unfold M.s8;have hs:=af.cy a;have ok1:=(af.ok_eq a).1 ok
 try simp only[aa.aE,ae.aE,ah.aE]
 have e0:=DR (a.aZ) (left) ok1.2.2.2.2.2.2.2.2.2.1 (by omega) (by omega);by_cases c0:((aF (fun _=>0) (a.aZ):Nat):Int)<=left
 ·rw[aC c0]at e0;have n0:¬(left-((aF (fun _=>0) (a.aZ):Nat):Int)<0):=by omega
  have e1:=DR (a.Set) (left-((aF (fun _=>0) (a.aZ):Nat):Int)) ok1.2.2.2.2.2.2.2.2.2.2.1 (by omega) (by omega);by_cases c1:((aF (fun _=>0) (a.Set):Nat):Int)<=left-((aF (fun _=>0) (a.aZ):Nat):Int)
  ·rw[aC c1]at e1;have n1:¬(left-((aF (fun _=>0) (a.aZ):Nat):Int)-((aF (fun _=>0) (a.Set):Nat):Int)<0):=by omega
   have q:(a.sz:Int)<=left:=by rw[hs]<;>push_cast<;>omega
   have q2:left-(a.sz:Int)=left-((aF (fun _=>0) (a.aZ):Nat):Int)-((aF (fun _=>0) (a.Set):Nat):Int):=by rw[hs]<;>push_cast<;>omega
   rw[aC q,q2];simp[e0,n0,e1,n1]
  ·rw[ax c1]at e1;have q:¬((a.sz:Int)<=left):=by rw[hs]<;>push_cast<;>omega
   rw[ax q];simp[e0,n0,e1]
 ·rw[ax c0]at e0;have q:¬((a.sz:Int)<=left):=by rw[hs]<;>push_cast<;>omega
  rw[ax q];simp[e0]
theorem acC(a:af)(h:a.sz<=1048576):M.tf a=some (a.Id,a.Prog,a.PC,a.dI,a.Status,a.Result,a.cJ,a.Asked,a.Told,a.aZ,a.Set):=by
 unfold M.tf;have hs:=af.cy a
 try simp only[aa.aE,ae.aE,ah.aE]
 have e9:=DU (a.aZ) (by omega);have e10:=DU (a.Set) (by omega)
 try simp[e9,e10]
theorem acD(a:af)(h:a.sz<=1048576):M.rS a a=some true:=by
 unfold M.rS;have hs:=af.cy a
 try simp only[aa.aE,ae.aE,ah.aE]
 have e9:=DV (a.aZ) (by omega);have e10:=DV (a.Set) (by omega)
 try simp[e9,e10]
theorem acE(a:List af)(left:Int)(ok:dn af.Ok a)(h0:0<=left)(h1:left<=1048576):M.s9 a left=some (if(aF af.sz a:Int)<=left then left-aF af.sz a else -1):=by
 have hl:=ok.1;unfold M.s9;rw[wrap_i64 (by omega) (by omega)];refine tR (f:=af.sz) (F:=M.pW  a) a left h0 h1 (fun g k l h2 h3 hk=>?_) (fun g l=>?_)
 ·have hn:k<2^62:=by omega
  rw[M.pW];have e:=acB a[k] l (ok.2 _ (ca hk)) h2 (by omega);by_cases d:((af.sz a[k]:Nat):Int)<=l
  ·have n:¬(l-((af.sz a[k]:Nat):Int)<0):=by omega
   rw[aC d]at e⊢;simp[hk,getD_lt hk,e,n,bM hk (show a.length<2^62 by omega),aa.aE,ae.aE,ah.aE]
  ·rw[ax d]at e⊢;simp[hk,getD_lt hk,e,aa.aE,ae.aE,ah.aE]
 ·rw[M.pW];simp
theorem acF(a:List af)(ha:aF af.sz a<=1048576):M.tg a=some a:=by
 have hl:=da af.sz a;have hn:a.length<=1048576:=by omega
 have hi:(a.length:Int)<=1073741824:=by omega
 have q:∀z,z.length=a.length->M.nG  a Go.V.al 0 z=some a:=mc (F:=M.nG  a) a (by omega) (fun f k out h1 h2 hk=>by
  rw[M.nG];have e:=acC a[k] (by have:=dQ af.sz a a[k] (ca hk);omega);simp[hk,h2,getD_lt hk,e,bM hk (dj hn),aa.aE,ae.aE,ah.aE]) (fun f out=>by rw[M.nG];simp)
 unfold M.tg;rw[q _ (by simp)];simp[hi]
theorem acG(a:List af)(ha:aF af.sz a<=1048576):M.rT a a=some true:=by
 have hl:=da af.sz a;have hn:a.length<=1048576:=by omega
 unfold M.rT;refine kW (F:=M.px  a a) a hn (fun f k hk=>?_) (fun f=>?_)
 ·rw[M.px];have e:=acD a[k] (by have:=dQ af.sz a a[k] (ca hk);omega);simp[hk,getD_lt hk,e,bM hk (dj hn),aa.aE,ae.aE,ah.aE]
 ·rw[M.px];simp
theorem U2(a:ar)(left:Int)(ok:a.Ok)(h0:0<=left)(h1:left<=1048576):M.tc a left=some (if(a.sz:Int)<=left then left-a.sz else -1):=by
 unfold M.tc;have hs:=ar.cy a;have ok1:=(ar.ok_eq a).1 ok
 try simp only[aa.aE,ae.aE,ah.aE]
 have e0:=acb (a.bp) (left) ok1.1 (by omega) (by omega);by_cases c0:((aF aD.sz (a.bp):Nat):Int)<=left
 ·rw[aC c0]at e0;have n0:¬(left-((aF aD.sz (a.bp):Nat):Int)<0):=by omega
  have e1:=acy (a.bS) (left-((aF aD.sz (a.bp):Nat):Int)) ok1.2.1 (by omega) (by omega);by_cases c1:((aF ah.sz (a.bS):Nat):Int)<=left-((aF aD.sz (a.bp):Nat):Int)
  ·rw[aC c1]at e1;have n1:¬(left-((aF aD.sz (a.bp):Nat):Int)-((aF ah.sz (a.bS):Nat):Int)<0):=by omega
   have e2:=acE (a.aH) (left-((aF aD.sz (a.bp):Nat):Int)-((aF ah.sz (a.bS):Nat):Int)) ok1.2.2.1 (by omega) (by omega);by_cases c2:((aF af.sz (a.aH):Nat):Int)<=left-((aF aD.sz (a.bp):Nat):Int)-((aF ah.sz (a.bS):Nat):Int)
   ·rw[aC c2]at e2;have n2:¬(left-((aF aD.sz (a.bp):Nat):Int)-((aF ah.sz (a.bS):Nat):Int)-((aF af.sz (a.aH):Nat):Int)<0):=by omega
    have e3:=DR (a.Back) (left-((aF aD.sz (a.bp):Nat):Int)-((aF ah.sz (a.bS):Nat):Int)-((aF af.sz (a.aH):Nat):Int)) ok1.2.2.2.1 (by omega) (by omega);by_cases c3:((aF (fun _=>0) (a.Back):Nat):Int)<=left-((aF aD.sz (a.bp):Nat):Int)-((aF ah.sz (a.bS):Nat):Int)-((aF af.sz (a.aH):Nat):Int)
    ·rw[aC c3]at e3;have n3:¬(left-((aF aD.sz (a.bp):Nat):Int)-((aF ah.sz (a.bS):Nat):Int)-((aF af.sz (a.aH):Nat):Int)-((aF (fun _=>0) (a.Back):Nat):Int)<0):=by omega
     have e4:=ab6 (a.Notes) (left-((aF aD.sz (a.bp):Nat):Int)-((aF ah.sz (a.bS):Nat):Int)-((aF af.sz (a.aH):Nat):Int)-((aF (fun _=>0) (a.Back):Nat):Int)) ok1.2.2.2.2.1 (by omega) (by omega);by_cases c4:((aF ay.sz (a.Notes):Nat):Int)<=left-((aF aD.sz (a.bp):Nat):Int)-((aF ah.sz (a.bS):Nat):Int)-((aF af.sz (a.aH):Nat):Int)-((aF (fun _=>0) (a.Back):Nat):Int)
     ·rw[aC c4]at e4;have n4:¬(left-((aF aD.sz (a.bp):Nat):Int)-((aF ah.sz (a.bS):Nat):Int)-((aF af.sz (a.aH):Nat):Int)-((aF (fun _=>0) (a.Back):Nat):Int)-((aF ay.sz (a.Notes):Nat):Int)<0):=by omega
      have q:(a.sz:Int)<=left:=by rw[hs]<;>push_cast<;>omega
      have q2:left-(a.sz:Int)=left-((aF aD.sz (a.bp):Nat):Int)-((aF ah.sz (a.bS):Nat):Int)-((aF af.sz (a.aH):Nat):Int)-((aF (fun _=>0) (a.Back):Nat):Int)-((aF ay.sz (a.Notes):Nat):Int):=by rw[hs]<;>push_cast<;>omega
      rw[aC q,q2];simp[e0,n0,e1,n1,e2,n2,e3,n3,e4,n4]
     ·rw[ax c4]at e4;have q:¬((a.sz:Int)<=left):=by rw[hs]<;>push_cast<;>omega
      rw[ax q];simp[e0,n0,e1,n1,e2,n2,e3,n3,e4]
    ·rw[ax c3]at e3;have q:¬((a.sz:Int)<=left):=by rw[hs]<;>push_cast<;>omega
     rw[ax q];simp[e0,n0,e1,n1,e2,n2,e3]
   ·rw[ax c2]at e2;have q:¬((a.sz:Int)<=left):=by rw[hs]<;>push_cast<;>omega
    rw[ax q];simp[e0,n0,e1,n1,e2]
  ·rw[ax c1]at e1;have q:¬((a.sz:Int)<=left):=by rw[hs]<;>push_cast<;>omega
   rw[ax q];simp[e0,n0,e1]
 ·rw[ax c0]at e0;have q:¬((a.sz:Int)<=left):=by rw[hs]<;>push_cast<;>omega
  rw[ax q];simp[e0]
theorem U3(a:ar)(h:a.sz<=1048576):M.tj a=some (a.bp,a.bS,a.aH,a.Back,a.Notes):=by
 unfold M.tj;have hs:=ar.cy a
 try simp only[aa.aE,ae.aE,ah.aE]
 have e0:=acd (a.bp) (by omega);have e1:=acz (a.bS) (by omega);have e2:=acF (a.aH) (by omega);have e3:=DU (a.Back) (by omega);have e4:=ab7 (a.Notes) (by omega)
 try simp[e0,e1,e2,e3,e4]
theorem U4(a:ar)(h:a.sz<=1048576):M.tQ a a=some true:=by
 unfold M.tQ;have hs:=ar.cy a
 try simp only[aa.aE,ae.aE,ah.aE]
 have e0:=ace (a.bp) (by omega);have e1:=acA (a.bS) (by omega);have e2:=acG (a.aH) (by omega);have e3:=DV (a.Back) (by omega);have e4:=Hz (a.Notes) (by omega)
 try simp[e0,e1,e2,e3,e4]
end M
