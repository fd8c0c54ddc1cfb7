/-
  Part of the proof of the claim.
-/
import Derived.Test.YtjdnmlhfiblhdaaGreatXNZM
import Derived.Test.YtjdnmlhfiblhdaaGreatXNlaw
import Derived.Test.YtjdnmlhfiblhdaaGreatXNpl
set_option linter.unusedVariables false
set_option linter.unusedSimpArgs false
namespace M
def Yg (s:List UInt8):Prop:=s.length<=9223372036854775807
def QP {α:Type} (p:α->Prop) (l:List α):Prop:=l.length<=9223372036854775807 /\ ∀x∈l,p x
def aT.sz (a:aT):Nat:=0
theorem aT.pz (a:aT):a.sz=0:=rfl
def aT.Ok (a:aT):Prop:=I64 (a.Kind) /\ I64 (a.A) /\ I64 (a.B) /\ True
theorem aT.ok_eq (a:aT):a.Ok↔(I64 (a.Kind) /\ I64 (a.A) /\ I64 (a.B) /\ True):=Iff.rfl
def aK.sz (a:aK):Nat:=0
theorem aK.pz (a:aK):a.sz=0:=rfl
def aK.Ok (a:aK):Prop:=I64 (a.Task) /\ I64 (a.Kind) /\ I64 (a.A) /\ I64 (a.B) /\ True
theorem aK.ok_eq (a:aK):a.Ok↔(I64 (a.Task) /\ I64 (a.Kind) /\ I64 (a.A) /\ I64 (a.B) /\ True):=Iff.rfl
def ak.sz (a:ak):Nat:=lC aT.sz (a.Ops)
theorem ak.pz (a:ak):a.sz=lC aT.sz (a.Ops):=rfl
def ak.Ok (a:ak):Prop:=I64 (a.Ai) /\ QP aT.Ok (a.Ops) /\ True
theorem ak.ok_eq (a:ak):a.Ok↔(I64 (a.Ai) /\ QP aT.Ok (a.Ops) /\ True):=Iff.rfl
mutual
def ae.sz :ae->Nat
 | .mk v0 v1 v2 v3=>(v1).length+lC List.length (v2)+ae.szs v3
def ae.szs :List ae->Nat
 | []=>0
 |t::r=>ae.sz t+1+ae.szs r
end
theorem ae.VT :∀l:List ae,ae.szs l=lC ae.sz l
 | []=>rfl
 |t::r=>by simp only[ae.szs,lC,ae.VT r]
theorem ae.pz (a:ae):a.sz=(a.Name).length+lC List.length (a.bV)+lC ae.sz (a.Kids):=by cases a;simp only[ae.sz,ae.VT];rfl
mutual
def ae.Ok :ae->Prop
 | .mk v0 v1 v2 v3=>I64 (v0) /\ Yg (v1) /\ QP Yg (v2) /\ (v3.length<=9223372036854775807 /\ ae.Oks v3) /\ True
def ae.Oks :List ae->Prop
 | []=>True
 |t::r=>ae.Ok t /\ ae.Oks r
end
theorem ae.Qb :∀l:List ae,ae.Oks l↔∀x∈l,ae.Ok x
 | []=>by simp[ae.Oks]
 |t::r=>by simp[ae.Oks,ae.Qb r]
theorem ae.ok_eq (a:ae):a.Ok↔(I64 (a.Kind) /\ Yg (a.Name) /\ QP Yg (a.bV) /\ QP ae.Ok (a.Kids) /\ True):=by
 cases a;simp only[ae.Ok,ae.Qb,QP];exact Iff.rfl
mutual
def ah.sz :ah->Nat
 | .mk v0 v1 v2 v3=>(v2).length+ah.szs v3
def ah.szs :List ah->Nat
 | []=>0
 |t::r=>ah.sz t+1+ah.szs r
end
theorem ah.VT :∀l:List ah,ah.szs l=lC ah.sz l
 | []=>rfl
 |t::r=>by simp only[ah.szs,lC,ah.VT r]
theorem ah.pz (a:ah):a.sz=(a.Text).length+lC ah.sz (a.Kids):=by cases a;simp only[ah.sz,ah.VT];rfl
mutual
def ah.Ok :ah->Prop
 | .mk v0 v1 v2 v3=>I64 (v0) /\ I64 (v1) /\ Yg (v2) /\ (v3.length<=9223372036854775807 /\ ah.Oks v3) /\ True
def ah.Oks :List ah->Prop
 | []=>True
 |t::r=>ah.Ok t /\ ah.Oks r
end
theorem ah.Qb :∀l:List ah,ah.Oks l↔∀x∈l,ah.Ok x
 | []=>by simp[ah.Oks]
 |t::r=>by simp[ah.Oks,ah.Qb r]
theorem ah.ok_eq (a:ah):a.Ok↔(I64 (a.Kind) /\ I64 (a.Num) /\ Yg (a.Text) /\ QP ah.Ok (a.Kids) /\ True):=by
 cases a;simp only[ah.Ok,ah.Qb,QP];exact Iff.rfl
def af.sz (a:af):Nat:=(a.iw).sz+lC ah.sz (a.Buffer)
theorem af.pz (a:af):a.sz=(a.iw).sz+lC ah.sz (a.Buffer):=rfl
def af.Ok (a:af):Prop:=ae.Ok (a.iw) /\ I64 (a.Room) /\ True /\ QP ah.Ok (a.Buffer) /\ I64 (a.Put) /\ I64 (a.ZC) /\ True /\ True /\ True
theorem af.ok_eq (a:af):a.Ok↔(ae.Ok (a.iw) /\ I64 (a.Room) /\ True /\ QP ah.Ok (a.Buffer) /\ I64 (a.Put) /\ I64 (a.ZC) /\ True /\ True /\ True):=Iff.rfl
def aj.sz (a:aj):Nat:=lC (fun _=>0) (a.EG)+lC (fun _=>0) (a.Set)
theorem aj.pz (a:aj):a.sz=lC (fun _=>0) (a.EG)+lC (fun _=>0) (a.Set):=rfl
def aj.Ok (a:aj):Prop:=I64 (a.Id) /\ I64 (a.Prog) /\ I64 (a.PC) /\ I64 (a.qN) /\ I64 (a.Status) /\ I64 (a.Result) /\ True /\ True /\ True /\ QP I64 (a.EG) /\ QP I64 (a.Set) /\ True
theorem aj.ok_eq (a:aj):a.Ok↔(I64 (a.Id) /\ I64 (a.Prog) /\ I64 (a.PC) /\ I64 (a.qN) /\ I64 (a.Status) /\ I64 (a.Result) /\ True /\ True /\ True /\ QP I64 (a.EG) /\ QP I64 (a.Set) /\ True):=Iff.rfl
def aX.sz (a:aX):Nat:=lC ak.sz (a.qp)+lC af.sz (a.gW)+lC aj.sz (a.BA)+lC (fun _=>0) (a.Back)+lC aK.sz (a.Notes)
theorem aX.pz (a:aX):a.sz=lC ak.sz (a.qp)+lC af.sz (a.gW)+lC aj.sz (a.BA)+lC (fun _=>0) (a.Back)+lC aK.sz (a.Notes):=rfl
def aX.Ok (a:aX):Prop:=QP ak.Ok (a.qp) /\ QP af.Ok (a.gW) /\ QP aj.Ok (a.BA) /\ QP I64 (a.Back) /\ QP aK.Ok (a.Notes) /\ True
theorem aX.ok_eq (a:aX):a.Ok↔(QP ak.Ok (a.qp) /\ QP af.Ok (a.gW) /\ QP aj.Ok (a.BA) /\ QP I64 (a.Back) /\ QP aK.Ok (a.Notes) /\ True):=Iff.rfl
theorem aT.zo (a:aT) (h:∀m,Go.V.Qc m .rP a):a.Ok:=⟨(h 0).1,(h 0).2.1,(h 0).2.2.1,trivial⟩
theorem aK.zo (a:aK) (h:∀m,Go.V.Qc m .Note a):a.Ok:=⟨(h 0).1,(h 0).2.1,(h 0).2.2.1,(h 0).2.2.2.1,trivial⟩
theorem ak.zo (a:ak) (h:∀m,Go.V.Qc m .Prog a):a.Ok:=⟨(h 0).1,⟨((h 0).2.1).1,fun y hy=>aT.zo y (fun m=>((h (m+1)).2.1).2 y hy)⟩,trivial⟩
mutual
theorem ae.zo :∀(a:ae),(∀m,Go.V.Qc m .Type a)->a.Ok
 | .mk v0 v1 v2 v3,h=>by
   simp only[ae.Ok];exact ⟨(h 0).1,(h 0).2.1,⟨((h 0).2.2.1).1,fun y hy=>((fun m=>((h (m+1)).2.2.1).2 y hy) 0).1⟩,⟨((h 0).2.2.2.1).1,(ae.VU _ fun y hy m=>((h (m+1)).2.2.2.1).2 y hy)⟩,trivial⟩
theorem ae.VU :∀(l:List ae),(∀y∈l,∀m,Go.V.Qc m .Type y)->ae.Oks l
 | [],_=>by simp only[ae.Oks]
 |t::r,h=>by
  simp only[ae.Oks];exact ⟨ae.zo t (h t (by simp)),ae.VU r fun y hy=>h y (by simp[hy])⟩
end
mutual
theorem ah.zo :∀(a:ah),(∀m,Go.V.Qc m .Value a)->a.Ok
 | .mk v0 v1 v2 v3,h=>by
   simp only[ah.Ok];exact ⟨(h 0).1,(h 0).2.1,(h 0).2.2.1,⟨((h 0).2.2.2.1).1,(ah.VU _ fun y hy m=>((h (m+1)).2.2.2.1).2 y hy)⟩,trivial⟩
theorem ah.VU :∀(l:List ah),(∀y∈l,∀m,Go.V.Qc m .Value y)->ah.Oks l
 | [],_=>by simp only[ah.Oks]
 |t::r,h=>by
  simp only[ah.Oks];exact ⟨ah.zo t (h t (by simp)),ah.VU r fun y hy=>h y (by simp[hy])⟩
end
theorem af.zo (a:af) (h:∀m,Go.V.Qc m .Stream a):a.Ok:=⟨(ae.zo (a.iw) (fun m=>by cases m with |zero=>exact ⟨(h 0).1,(h 0).2.1,(h 0).2.2.1,(h 0).2.2.2.1,trivial⟩ |succ m=>exact ⟨(h (m+1)).1,(h (m+1)).2.1,(h (m+1)).2.2.1,(h (m+1)).2.2.2.1,trivial⟩)),(h 0).2.2.2.2.1,trivial,⟨((h 0).2.2.2.2.2.2.1).1,fun y hy=>ah.zo y (fun m=>((h (m+1)).2.2.2.2.2.2.1).2 y hy)⟩,(h 0).2.2.2.2.2.2.2.1,(h 0).2.2.2.2.2.2.2.2.1,trivial,trivial,trivial⟩
theorem aj.zo (a:aj) (h:∀m,Go.V.Qc m .Task a):a.Ok:=⟨(h 0).1,(h 0).2.1,(h 0).2.2.1,(h 0).2.2.2.1,(h 0).2.2.2.2.1,(h 0).2.2.2.2.2.1,trivial,trivial,trivial,⟨((h 0).2.2.2.2.2.2.2.2.2.1).1,fun y hy=>((fun m=>((h (m+1)).2.2.2.2.2.2.2.2.2.1).2 y hy) 0).1⟩,⟨((h 0).2.2.2.2.2.2.2.2.2.2.1).1,fun y hy=>((fun m=>((h (m+1)).2.2.2.2.2.2.2.2.2.2.1).2 y hy) 0).1⟩,trivial⟩
theorem aX.zo (a:aX) (h:∀m,Go.V.Qc m .Async a):a.Ok:=⟨⟨((h 0).1).1,fun y hy=>ak.zo y (fun m=>((h (m+1)).1).2 y hy)⟩,⟨((h 0).2.1).1,fun y hy=>af.zo y (fun m=>((h (m+1)).2.1).2 y hy)⟩,⟨((h 0).2.2.1).1,fun y hy=>aj.zo y (fun m=>((h (m+1)).2.2.1).2 y hy)⟩,⟨((h 0).2.2.2.1).1,fun y hy=>((fun m=>((h (m+1)).2.2.2.1).2 y hy) 0).1⟩,⟨((h 0).2.2.2.2.1).1,fun y hy=>aK.zo y (fun m=>((h (m+1)).2.2.2.2.1).2 y hy)⟩,trivial⟩
theorem abB (a:List (List UInt8)) (ha:lC List.length a<=1048576):M.uM a a=some true:=by
 have hl:=iL List.length a;have hn:a.length<=1048576:=by omega
 unfold M.uM;refine Ht (F:=M.kS  a a) a hn (fun f k hk=> ?_) (fun f=> ?_)
 ·rw[M.kS]
  simp[hk,getD_lt hk,gp hk (iD hn)]
 ·rw[M.kS];simp
theorem adk (a:List Int) (ha:lC (fun _=>0) a<=1048576):M.xM a=some a:=by
 have hl:=iL (fun _=>0) a
 have hn:a.length<=1048576:=by omega
 have hi:(a.length:Int)<=1073741824:=by omega
 have q:∀z,z.length=a.length->M.jZ  a Go.V.aF 0 z=some a:=RH (F:=M.jZ  a) a (by omega) (fun f k out h1 h2 hk=>by
  rw[M.jZ];simp[hk,h2,getD_lt hk,gp hk (iD hn)]) (fun f out=>by rw[M.jZ];simp)
 unfold M.xM;rw[q _ (by simp)]
 simp[hi]
theorem Lr (a:List Int) (ha:lC (fun _=>0) a<=1048576):M.kW a a=some true:=by
 have hl:=iL (fun _=>0) a
 have hn:a.length<=1048576:=by omega
 unfold M.kW;refine Ht (F:=M.mV  a a) a hn (fun f k hk=> ?_) (fun f=> ?_)
 ·rw[M.mV]
  simp[hk,getD_lt hk,gp hk (iD hn)]
 ·rw[M.mV];simp
theorem agp (a:aT) (h:a.sz<=1048576):M.PI a=some a:=by
 unfold M.PI;have hs:=aT.pz a
 try simp only[ae.bI,ah.bI,af.bI]
 try simp[]
theorem agq (a:aT) (h:a.sz<=1048576):M.Lt a a=some true:=by
 unfold M.Lt;have hs:=aT.pz a
 try simp only[ae.bI,ah.bI,af.bI]
 try simp[]
theorem afu (a:List aT) (left:Int) (ok:QP aT.Ok a) (h0:0<=left) (h1:left<=1048576):M.FD a left=some (if (lC aT.sz a:Int)<=left then left-lC aT.sz a else -1):=by
 have hl:=ok.1;unfold M.FD;rw[wrap_i64 (by omega) (by omega)]
 exact afv (f:=aT.sz) (fun _=>rfl) a left h0
theorem afw (a:List aT) (ha:lC aT.sz a<=1048576):M.FK a=some a:=by
 have hl:=iL aT.sz a;have hn:a.length<=1048576:=by omega
 have hi:(a.length:Int)<=1073741824:=by omega
 have q:∀z,z.length=a.length->M.oI  a Go.V.aF 0 z=some a:=RH (F:=M.oI  a) a (by omega) (fun f k out h1 h2 hk=>by
  rw[M.oI];have e:=agp a[k] (by have:=jL aT.sz a a[k] (List.getElem_mem hk);omega)
  simp[hk,h2,getD_lt hk,e,gp hk (iD hn),ae.bI,ah.bI,af.bI]) (fun f out=>by rw[M.oI];simp)
 unfold M.FK;rw[q _ (by simp)]
 simp[hi]
theorem afx (a:List aT) (ha:lC aT.sz a<=1048576):M.FT a a=some true:=by
 have hl:=iL aT.sz a;have hn:a.length<=1048576:=by omega
 unfold M.FT;refine Ht (F:=M.qL  a a) a hn (fun f k hk=> ?_) (fun f=> ?_)
 ·rw[M.qL]
  have e:=agq a[k] (by have:=jL aT.sz a a[k] (List.getElem_mem hk);omega)
  simp[hk,getD_lt hk,e,gp hk (iD hn),ae.bI,ah.bI,af.bI]
 ·rw[M.qL];simp
theorem afy (a:aK) (h:a.sz<=1048576):M.F5 a a=some true:=by
 unfold M.F5;have hs:=aK.pz a
 try simp only[ae.bI,ah.bI,af.bI]
 try simp[]
theorem aef (a:List aK) (ha:lC aK.sz a<=1048576):M.Bd a a=some true:=by
 have hl:=iL aK.sz a;have hn:a.length<=1048576:=by omega
 unfold M.Bd;refine Ht (F:=M.oZ  a a) a hn (fun f k hk=> ?_) (fun f=> ?_)
 ·rw[M.oZ]
  have e:=afy a[k] (by have:=jL aK.sz a a[k] (List.getElem_mem hk);omega)
  simp[hk,getD_lt hk,e,gp hk (iD hn),ae.bI,ah.bI,af.bI]
 ·rw[M.oZ];simp
theorem afz (a:ak) (left:Int) (ok:a.Ok) (h0:0<=left) (h1:left<=1048576):M.FH a left=some (if (a.sz:Int)<=left then left-a.sz else -1):=by
 unfold M.FH;have hs:=ak.pz a;have ok1:=(ak.ok_eq a).1 ok
 try simp only[ae.bI,ah.bI,af.bI]
 have e0:=afu (a.Ops) (left) ok1.2.1 (by omega) (by omega)
 by_cases c0:((lC aT.sz (a.Ops):Nat):Int)<=left
 ·rw[if_pos c0] at e0
  have n0:¬(left-((lC aT.sz (a.Ops):Nat):Int)<0):=by omega
  have q:(a.sz:Int)<=left:=by rw[hs]<;>push_cast<;>omega
  have q2:left-(a.sz:Int)=left-((lC aT.sz (a.Ops):Nat):Int):=by rw[hs]<;>push_cast<;>omega
  rw[if_pos q,q2];simp[e0,n0]
 ·rw[if_neg c0] at e0
  have q:¬((a.sz:Int)<=left):=by rw[hs]<;>push_cast<;>omega
  rw[if_neg q];simp[e0]
theorem afA (a:ak) (h:a.sz<=1048576):M.FM a=some (a.Ai,a.Ops):=by
 unfold M.FM;have hs:=ak.pz a
 try simp only[ae.bI,ah.bI,af.bI]
 have e1:=afw (a.Ops) (by omega)
 try simp[e1]
theorem afB (a:ak) (h:a.sz<=1048576):M.FU a a=some true:=by
 unfold M.FU;have hs:=ak.pz a
 try simp only[ae.bI,ah.bI,af.bI]
 have e1:=afx (a.Ops) (by omega)
 try simp[e1]
theorem aec (a:List ak) (left:Int) (ok:QP ak.Ok a) (h0:0<=left) (h1:left<=1048576):M.A8 a left=some (if (lC ak.sz a:Int)<=left then left-lC ak.sz a else -1):=by
 have hl:=ok.1;unfold M.A8;rw[wrap_i64 (by omega) (by omega)]
 refine agr (f:=ak.sz) (F:=M.oU  a) a left h0 h1 (fun g k l h2 h3 hk=> ?_) (fun g l=> ?_)
 ·have hn:k<2^62:=by omega
  rw[M.oU];have e:=afz a[k] l (ok.2 _ (List.getElem_mem hk)) h2 (by omega)
  by_cases d:((ak.sz a[k]:Nat):Int)<=l
  ·have n:¬(l-((ak.sz a[k]:Nat):Int)<0):=by omega
   rw[if_pos d] at e ⊢;simp[hk,getD_lt hk,e,n,gp hk (show a.length<2^62 by omega),ae.bI,ah.bI,af.bI]
  ·rw[if_neg d] at e ⊢;simp[hk,getD_lt hk,e,ae.bI,ah.bI,af.bI]
 ·rw[M.oU];simp
theorem aed (a:List ak) (ha:lC ak.sz a<=1048576):M.Ba a=some a:=by
 have hl:=iL ak.sz a;have hn:a.length<=1048576:=by omega
 have hi:(a.length:Int)<=1073741824:=by omega
 have q:∀z,z.length=a.length->M.l7  a Go.V.aF 0 z=some a:=RH (F:=M.l7  a) a (by omega) (fun f k out h1 h2 hk=>by
  rw[M.l7];have e:=afA a[k] (by have:=jL ak.sz a a[k] (List.getElem_mem hk);omega)
  simp[hk,h2,getD_lt hk,e,gp hk (iD hn),ae.bI,ah.bI,af.bI]) (fun f out=>by rw[M.l7];simp)
 unfold M.Ba;rw[q _ (by simp)]
 simp[hi]
theorem Z5 (a:List ak) (ha:lC ak.sz a<=1048576):M.uP a a=some true:=by
 have hl:=iL ak.sz a;have hn:a.length<=1048576:=by omega
 unfold M.uP;refine Ht (F:=M.oV  a a) a hn (fun f k hk=> ?_) (fun f=> ?_)
 ·rw[M.oV]
  have e:=afB a[k] (by have:=jL ak.sz a a[k] (List.getElem_mem hk);omega)
  simp[hk,getD_lt hk,e,gp hk (iD hn),ae.bI,ah.bI,af.bI]
 ·rw[M.oV];simp
theorem abC (r:ae->ae->Option Bool) (a:List ae) (ha:a.length<=1048576) (hr:∀x∈a,r x x=some true):M.AZ r a a=some true:=by
 have hn:a.length<=1048576:=by omega
 unfold M.AZ;refine Ht (F:=M.oO r  a a) a hn (fun f k hk=> ?_) (fun f=> ?_)
 ·rw[M.oO]
  have e:=hr a[k] (List.getElem_mem hk);simp[hk,getD_lt hk,e,gp hk (iD hn),ae.bI,ah.bI,af.bI]
 ·rw[M.oO];simp
theorem Yh : ∀(n:Nat) (a:ae),a.sz<n->a.sz<=1048576->M.tN n a a=some true
 |0,a,h2,h=>by omega
 |n+1,a,h2,h=>by
  show M.BD (M.tN n) a a=_
  unfold M.BD;have hs:=ae.pz a
  try simp only[ae.bI,ah.bI,af.bI]
  have e2:=abB (a.bV) (by omega)
  have hk3:=iL ae.sz (a.Kids);have e3:=abC (M.tN n) (a.Kids) (by omega) (fun x hx=>Yh n x (by have:=jL ae.sz (a.Kids) x hx;have:=OV ae.sz (a.Kids) x hx;omega) (by have:=jL ae.sz (a.Kids) x hx;omega))
  try simp[e2,e3,ae.eta]
theorem afC (a:ae) (h:a.sz<=1048576):M.OZ a a=some true:=
 Yh _ a (by have:=Go.V.dL;omega) h
theorem TA (r:ah->ah->Option Bool) (a:List ah) (ha:a.length<=1048576) (hr:∀x∈a,r x x=some true):M.oQ r a a=some true:=by
 have hn:a.length<=1048576:=by omega
 unfold M.oQ;refine Ht (F:=M.mQ r  a a) a hn (fun f k hk=> ?_) (fun f=> ?_)
 ·rw[M.mQ]
  have e:=hr a[k] (List.getElem_mem hk);simp[hk,getD_lt hk,e,gp hk (iD hn),ae.bI,ah.bI,af.bI]
 ·rw[M.mQ];simp
theorem VV : ∀(n:Nat) (a:ah),a.sz<n->a.sz<=1048576->M.qK n a a=some true
 |0,a,h2,h=>by omega
 |n+1,a,h2,h=>by
  show M.zg (M.qK n) a a=_
  unfold M.zg;have hs:=ah.pz a
  try simp only[ae.bI,ah.bI,af.bI]
  have hk3:=iL ah.sz (a.Kids);have e3:=TA (M.qK n) (a.Kids) (by omega) (fun x hx=>VV n x (by have:=jL ah.sz (a.Kids) x hx;have:=OV ah.sz (a.Kids) x hx;omega) (by have:=jL ah.sz (a.Kids) x hx;omega))
  try simp[e3,ah.eta]
theorem aeg (a:ah) (h:a.sz<=1048576):M.A7 a a=some true:=
 VV _ a (by have:=Go.V.dL;omega) h
theorem adm (a:List ah) (ha:lC ah.sz a<=1048576):M.oQ M.A7 a a=some true:=
 TA _ a (by have:=iL ah.sz a;omega) fun x hx=>aeg x (by have:=jL ah.sz a x hx;omega)
theorem adn (a:af) (h:a.sz<=1048576):M.xK a a=some true:=by
 unfold M.xK;have hs:=af.pz a
 try simp only[ae.bI,ah.bI,af.bI]
 have e0:=afC (a.iw) (by omega)
 have e3:=adm (a.Buffer) (by omega)
 try simp[e0,e3]
theorem abD (a:List af) (ha:lC af.sz a<=1048576):M.uQ a a=some true:=by
 have hl:=iL af.sz a;have hn:a.length<=1048576:=by omega
 unfold M.uQ;refine Ht (F:=M.kV  a a) a hn (fun f k hk=> ?_) (fun f=> ?_)
 ·rw[M.kV]
  have e:=adn a[k] (by have:=jL af.sz a a[k] (List.getElem_mem hk);omega)
  simp[hk,getD_lt hk,e,gp hk (iD hn),ae.bI,ah.bI,af.bI]
 ·rw[M.kV];simp
theorem afD (a:aj) (h:a.sz<=1048576):M.FY a a=some true:=by
 unfold M.FY;have hs:=aj.pz a
 try simp only[ae.bI,ah.bI,af.bI]
 have e9:=Lr (a.EG) (by omega)
 have e10:=Lr (a.Set) (by omega)
 try simp[e9,e10]
theorem aeh (a:List aj) (ha:lC aj.sz a<=1048576):M.Bc a a=some true:=by
 have hl:=iL aj.sz a;have hn:a.length<=1048576:=by omega
 unfold M.Bc;refine Ht (F:=M.oW  a a) a hn (fun f k hk=> ?_) (fun f=> ?_)
 ·rw[M.oW]
  have e:=afD a[k] (by have:=jL aj.sz a a[k] (List.getElem_mem hk);omega)
  simp[hk,getD_lt hk,e,gp hk (iD hn),ae.bI,ah.bI,af.bI]
 ·rw[M.oW];simp
theorem aee (a:aX) (h:a.sz<=1048576):M.Be a a=some true:=by
 unfold M.Be;have hs:=aX.pz a
 try simp only[ae.bI,ah.bI,af.bI]
 have e0:=Z5 (a.qp) (by omega)
 have e1:=abD (a.gW) (by omega)
 have e2:=aeh (a.BA) (by omega)
 have e3:=Lr (a.Back) (by omega)
 have e4:=aef (a.Notes) (by omega)
 try simp[e0,e1,e2,e3,e4]
end M
