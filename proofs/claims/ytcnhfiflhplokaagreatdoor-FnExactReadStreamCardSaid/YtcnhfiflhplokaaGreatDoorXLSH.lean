/-
  Part of the proof of the claim.
-/
import Derived.Test.YtcnhfiflhplokaaGreatDoorXLSM
import Derived.Test.YtcnhfiflhplokaaGreatDoorXQlaw
import Derived.Test.YtcnhfiflhplokaaGreatDoorXQpl
set_option linter.unusedVariables false
set_option linter.unusedSimpArgs false
namespace M
def L8 (s:List UInt8):Prop:=s.length<=9223372036854775807
def LOk {α:Type} (p:α->Prop) (l:List α):Prop:=l.length<=9223372036854775807 /\ ∀x∈l,p x
mutual
def ae.sz :ae->Nat
 | .mk v0 v1 v2 v3=>(v1).length+jv List.length (v2)+ae.szs v3
def ae.szs :List ae->Nat
 | []=>0
 |t::r=>ae.sz t+1+ae.szs r
end
theorem ae.Nq :∀l:List ae,ae.szs l=jv ae.sz l
 | []=>rfl
 |t::r=>by simp only[ae.szs,jv,ae.Nq r]
theorem ae.jP (a:ae):a.sz=(a.Name).length+jv List.length (a.aQ)+jv ae.sz (a.Kids):=by cases a;simp only[ae.sz,ae.Nq];rfl
mutual
def ae.Ok :ae->Prop
 | .mk v0 v1 v2 v3=>I64 (v0) /\ L8 (v1) /\ LOk L8 (v2) /\ (v3.length<=9223372036854775807 /\ ae.Oks v3) /\ True
def ae.Oks :List ae->Prop
 | []=>True
 |t::r=>ae.Ok t /\ ae.Oks r
end
theorem ae.OY :∀l:List ae,ae.Oks l↔∀x∈l,ae.Ok x
 | []=>by simp[ae.Oks]
 |t::r=>by simp[ae.Oks,ae.OY r]
theorem ae.ok_eq (a:ae):a.Ok↔(I64 (a.Kind) /\ L8 (a.Name) /\ LOk L8 (a.aQ) /\ LOk ae.Ok (a.Kids) /\ True):=by
 cases a;simp only[ae.Ok,ae.OY,LOk];exact Iff.rfl
mutual
def af.sz :af->Nat
 | .mk v0 v1 v2 v3=>(v2).length+af.szs v3
def af.szs :List af->Nat
 | []=>0
 |t::r=>af.sz t+1+af.szs r
end
theorem af.Nq :∀l:List af,af.szs l=jv af.sz l
 | []=>rfl
 |t::r=>by simp only[af.szs,jv,af.Nq r]
theorem af.jP (a:af):a.sz=(a.Text).length+jv af.sz (a.Kids):=by cases a;simp only[af.sz,af.Nq];rfl
mutual
def af.Ok :af->Prop
 | .mk v0 v1 v2 v3=>I64 (v0) /\ I64 (v1) /\ L8 (v2) /\ (v3.length<=9223372036854775807 /\ af.Oks v3) /\ True
def af.Oks :List af->Prop
 | []=>True
 |t::r=>af.Ok t /\ af.Oks r
end
theorem af.OY :∀l:List af,af.Oks l↔∀x∈l,af.Ok x
 | []=>by simp[af.Oks]
 |t::r=>by simp[af.Oks,af.OY r]
theorem af.ok_eq (a:af):a.Ok↔(I64 (a.Kind) /\ I64 (a.Num) /\ L8 (a.Text) /\ LOk af.Ok (a.Kids) /\ True):=by
 cases a;simp only[af.Ok,af.OY,LOk];exact Iff.rfl
def ah.sz (a:ah):Nat:=(a.cu).sz+jv af.sz (a.Buffer)
theorem ah.jP (a:ah):a.sz=(a.cu).sz+jv af.sz (a.Buffer):=rfl
def ah.Ok (a:ah):Prop:=ae.Ok (a.cu) /\ I64 (a.Room) /\ True /\ LOk af.Ok (a.Buffer) /\ I64 (a.Put) /\ I64 (a.L9) /\ True /\ True /\ True
theorem ah.ok_eq (a:ah):a.Ok↔(ae.Ok (a.cu) /\ I64 (a.Room) /\ True /\ LOk af.Ok (a.Buffer) /\ I64 (a.Put) /\ I64 (a.L9) /\ True /\ True /\ True):=Iff.rfl
def aK.sz (a:aK):Nat:=0
theorem aK.jP (a:aK):a.sz=0:=rfl
def aK.Ok (a:aK):Prop:=True /\ True /\ I64 (a.aeH) /\ True
theorem aK.ok_eq (a:aK):a.Ok↔(True /\ True /\ I64 (a.aeH) /\ True):=Iff.rfl
mutual
theorem ae.RD :∀(a:ae),(∀m,Go.V.U8 m .Type a)->a.Ok
 | .mk v0 v1 v2 v3,h=>by
   simp only[ae.Ok];exact ⟨(h 0).1,(h 0).2.1,⟨((h 0).2.2.1).1,fun y hy=>((fun m=>((h (m+1)).2.2.1).2 y hy) 0).1⟩,⟨((h 0).2.2.2.1).1,(ae.U9 _ fun y hy m=>((h (m+1)).2.2.2.1).2 y hy)⟩,trivial⟩
theorem ae.U9 :∀(l:List ae),(∀y∈l,∀m,Go.V.U8 m .Type y)->ae.Oks l
 | [],_=>by simp only[ae.Oks]
 |t::r,h=>by
  simp only[ae.Oks];exact ⟨ae.RD t (h t (by simp)),ae.U9 r fun y hy=>h y (by simp[hy])⟩
end
mutual
theorem af.RD :∀(a:af),(∀m,Go.V.U8 m .Value a)->a.Ok
 | .mk v0 v1 v2 v3,h=>by
   simp only[af.Ok];exact ⟨(h 0).1,(h 0).2.1,(h 0).2.2.1,⟨((h 0).2.2.2.1).1,(af.U9 _ fun y hy m=>((h (m+1)).2.2.2.1).2 y hy)⟩,trivial⟩
theorem af.U9 :∀(l:List af),(∀y∈l,∀m,Go.V.U8 m .Value y)->af.Oks l
 | [],_=>by simp only[af.Oks]
 |t::r,h=>by
  simp only[af.Oks];exact ⟨af.RD t (h t (by simp)),af.U9 r fun y hy=>h y (by simp[hy])⟩
end
theorem ah.RD (a:ah) (h:∀m,Go.V.U8 m .Stream a):a.Ok:=⟨(ae.RD (a.cu) (fun m=>by cases m with |zero=>exact ⟨(h 0).1,(h 0).2.1,(h 0).2.2.1,(h 0).2.2.2.1,trivial⟩ |succ m=>exact ⟨(h (m+1)).1,(h (m+1)).2.1,(h (m+1)).2.2.1,(h (m+1)).2.2.2.1,trivial⟩)),(h 0).2.2.2.2.1,trivial,⟨((h 0).2.2.2.2.2.2.1).1,fun y hy=>af.RD y (fun m=>((h (m+1)).2.2.2.2.2.2.1).2 y hy)⟩,(h 0).2.2.2.2.2.2.2.1,(h 0).2.2.2.2.2.2.2.2.1,trivial,trivial,trivial⟩
theorem aK.RD (a:aK) (h:∀m,Go.V.U8 m .lI a):a.Ok:=⟨trivial,trivial,(h 0).2.2.1,trivial⟩
theorem abV (a:List (List UInt8)) (left:Int) (ok:LOk L8 a) (h0:0<=left) (h1:left<=1048576):M.uK a left=some (if (jv List.length a:Int)<=left then left-jv List.length a else -1):=by
 have hl:=ok.1;unfold M.uK;rw[wrap_i64 (by omega) (by omega)]
 refine abW (f:=List.length) (F:=M.lM  a) a left h0 h1 (fun g k l h2 h3 hk=> ?_) (fun g l=> ?_)
 ·have hn:k<2^62:=by omega
  rw[M.lM];have w:Go.IntKind.wrap .i64 (l-((a[k]).length:Int))=l-(a[k]).length:=wrap_i64 (by have:=ok.2 a[k] (List.getElem_mem hk);unfold L8 at this;omega) (by omega)
  by_cases d:((a[k]).length:Int)<=l
  ·have n:¬(l-((a[k]).length:Int)<0):=by omega
   rw[if_pos d];simp[hk,getD_lt hk,w,n,gW hk (show a.length<2^62 by omega)]
  ·have n:l-((a[k]).length:Int)<0:=by omega
   rw[if_neg d];simp[hk,getD_lt hk,w,n]
 ·rw[M.lM];simp
theorem abX (a:List (List UInt8)) (ha:jv List.length a<=1048576):M.uM a=some a:=by
 have hl:=dV List.length a;have hn:a.length<=1048576:=by omega
 have hi:(a.length:Int)<=1073741824:=by omega
 have q:∀z,z.length=a.length->M.jM  a Go.V.aG 0 z=some a:=Fg (F:=M.jM  a) a (by omega) (fun f k out h1 h2 hk=>by
  rw[M.jM];simp[hk,h2,getD_lt hk,gW hk (kQ hn)]) (fun f out=>by rw[M.jM];simp)
 unfold M.uM;rw[q _ (by simp)]
 simp[hi]
theorem abY (a:List (List UInt8)) (ha:jv List.length a<=1048576):M.uN a a=some true:=by
 have hl:=dV List.length a;have hn:a.length<=1048576:=by omega
 unfold M.uN;refine Y7 (F:=M.lN  a a) a hn (fun f k hk=> ?_) (fun f=> ?_)
 ·rw[M.lN]
  simp[hk,getD_lt hk,gW hk (kQ hn)]
 ·rw[M.lN];simp
theorem Va (r:ae->Int->Option Int) (a:List ae) (left:Int) (ok:LOk ae.Ok a) (h0:0<=left) (h1:left<=1048576) (hr:∀x l,x∈a->0<=l->l<left->r x l=some (if (x.sz:Int)<=l then l-x.sz else -1)):M.xA r a left=some (if (jv ae.sz a:Int)<=left then left-jv ae.sz a else -1):=by
 have hl:=ok.1;unfold M.xA;rw[wrap_i64 (by omega) (by omega)]
 refine abW (f:=ae.sz) (F:=M.pM r  a) a left h0 h1 (fun g k l h2 h3 hk=> ?_) (fun g l=> ?_)
 ·have hn:k<2^62:=by omega
  rw[M.pM];have e:=hr a[k] l (List.getElem_mem hk) h2 (by omega)
  by_cases d:((ae.sz a[k]:Nat):Int)<=l
  ·have n:¬(l-((ae.sz a[k]:Nat):Int)<0):=by omega
   rw[if_pos d] at e ⊢;simp[hk,getD_lt hk,e,n,gW hk (show a.length<2^62 by omega),ae.aU,af.aU,ah.aU]
  ·rw[if_neg d] at e ⊢;simp[hk,getD_lt hk,e,ae.aU,af.aU,ah.aU]
 ·rw[M.pM];simp
theorem Vb (r:ae->Option (Int×(List UInt8)×(List (List UInt8))×(List ae))) (a:List ae) (ha:a.length<=1048576) (hr:∀x∈a,r x=some (x.Kind,x.Name,x.aQ,x.Kids)):M.xB r a=some a:=by
 have hn:a.length<=1048576:=by omega
 have hi:(a.length:Int)<=1073741824:=by omega
 have q:∀z,z.length=a.length->M.nz r  a Go.V.aG 0 z=some a:=Fg (F:=M.nz r  a) a (by omega) (fun f k out h1 h2 hk=>by
  rw[M.nz];have e:=hr a[k] (List.getElem_mem hk);simp[hk,h2,getD_lt hk,e,gW hk (kQ hn),ae.aU,af.aU,ah.aU,ae.eta]) (fun f out=>by rw[M.nz];simp)
 unfold M.xB;rw[q _ (by simp)]
 simp[hi]
theorem Vd (r:ae->ae->Option Bool) (a:List ae) (ha:a.length<=1048576) (hr:∀x∈a,r x x=some true):M.xC r a a=some true:=by
 have hn:a.length<=1048576:=by omega
 unfold M.xC;refine Y7 (F:=M.pO r  a a) a hn (fun f k hk=> ?_) (fun f=> ?_)
 ·rw[M.pO]
  have e:=hr a[k] (List.getElem_mem hk);simp[hk,getD_lt hk,e,gW hk (kQ hn),ae.aU,af.aU,ah.aU]
 ·rw[M.pO];simp
theorem X9 : ∀(n:Nat) (a:ae) (left:Int),a.Ok->0<=left->left<n->left<=1048576->M.uf n a left=some (if (a.sz:Int)<=left then left-a.sz else -1)
 |0,a,left,ok,h0,h2,h1=>by omega
 |n+1,a,left,ok,h0,h2,h1=>by
  show M.AB (M.uf n) a left=_
  unfold M.AB;have hs:=ae.jP a;have ok1:=(ae.ok_eq a).1 ok
  try simp only[ae.aU,af.aU,ah.aU]
  have e0:Go.IntKind.wrap .i64 (left-((a.Name).length:Int))=left-((a.Name).length:Int):=wrap_i64 (by have:=ok1.2.1;unfold L8 at this;omega) (by omega)
  by_cases c0:(((a.Name).length:Nat):Int)<=left
  ·skip
   have n0:¬(left-(((a.Name).length:Nat):Int)<0):=by omega
   have e1:=abV (a.aQ) (left-(((a.Name).length:Nat):Int)) ok1.2.2.1 (by omega) (by omega)
   by_cases c1:((jv List.length (a.aQ):Nat):Int)<=left-(((a.Name).length:Nat):Int)
   ·rw[if_pos c1] at e1
    have n1:¬(left-(((a.Name).length:Nat):Int)-((jv List.length (a.aQ):Nat):Int)<0):=by omega
    have e2:=Va (M.uf n) (a.Kids) (left-(((a.Name).length:Nat):Int)-((jv List.length (a.aQ):Nat):Int)) ok1.2.2.2.1 (by omega) (by omega) (fun x l hx q0 q1=>X9 n x l ((ok1.2.2.2.1).2 x hx) q0 (by omega) (by omega))
    by_cases c2:((jv ae.sz (a.Kids):Nat):Int)<=left-(((a.Name).length:Nat):Int)-((jv List.length (a.aQ):Nat):Int)
    ·rw[if_pos c2] at e2
     have n2:¬(left-(((a.Name).length:Nat):Int)-((jv List.length (a.aQ):Nat):Int)-((jv ae.sz (a.Kids):Nat):Int)<0):=by omega
     have q:(a.sz:Int)<=left:=by rw[hs]<;>push_cast<;>omega
     have q2:left-(a.sz:Int)=left-(((a.Name).length:Nat):Int)-((jv List.length (a.aQ):Nat):Int)-((jv ae.sz (a.Kids):Nat):Int):=by rw[hs]<;>push_cast<;>omega
     rw[if_pos q,q2];simp[e0,n0,e1,n1,e2,n2]
    ·rw[if_neg c2] at e2
     have q:¬((a.sz:Int)<=left):=by rw[hs]<;>push_cast<;>omega
     rw[if_neg q];simp[e0,n0,e1,n1,e2]
   ·rw[if_neg c1] at e1
    have q:¬((a.sz:Int)<=left):=by rw[hs]<;>push_cast<;>omega
    rw[if_neg q];simp[e0,n0,e1]
  ·have n0:left-(((a.Name).length:Nat):Int)<0:=by omega
   have q:¬((a.sz:Int)<=left):=by rw[hs]<;>push_cast<;>omega
   rw[if_neg q];simp[e0,n0]
theorem ac1 (a:ae) (left:Int) (ok:a.Ok) (h0:0<=left) (h1:left<=1048576):M.IJ a left=some (if (a.sz:Int)<=left then left-a.sz else -1):=
 X9 _ a left ok h0 (by have:=Go.V.cZ;omega) h1
theorem aiw (a:List ae) (left:Int) (ok:LOk ae.Ok a) (h0:0<=left) (h1:left<=1048576):M.xA M.IJ a left=some (if (jv ae.sz a:Int)<=left then left-jv ae.sz a else -1):=
 Va _ a left ok h0 h1 fun x l hx q0 q1=>ac1 x l (ok.2 x hx) q0 (by omega)
theorem Ya : ∀(n:Nat) (a:ae),a.sz<n->a.sz<=1048576->M.ug n a=some (a.Kind,a.Name,a.aQ,a.Kids)
 |0,a,h2,h=>by omega
 |n+1,a,h2,h=>by
  show M.AO (M.ug n) a=_
  unfold M.AO;have hs:=ae.jP a
  try simp only[ae.aU,af.aU,ah.aU]
  have e2:=abX (a.aQ) (by omega)
  have hk3:=dV ae.sz (a.Kids);have e3:=Vb (M.ug n) (a.Kids) (by omega) (fun x hx=>Ya n x (by have:=gK ae.sz (a.Kids) x hx;have:=qL ae.sz (a.Kids) x hx;omega) (by have:=gK ae.sz (a.Kids) x hx;omega))
  try simp[e2,e3,ae.eta]
theorem ac2 (a:ae) (h:a.sz<=1048576):M.IM a=some (a.Kind,a.Name,a.aQ,a.Kids):=
 Ya _ a (by have:=Go.V.cZ;omega) h
theorem aix (a:List ae) (ha:jv ae.sz a<=1048576):M.xB M.IM a=some a:=
 Vb _ a (by have:=dV ae.sz a;omega) fun x hx=>ac2 x (by have:=gK ae.sz a x hx;omega)
theorem Yb : ∀(n:Nat) (a:ae),a.sz<n->a.sz<=1048576->M.uh n a a=some true
 |0,a,h2,h=>by omega
 |n+1,a,h2,h=>by
  show M.AQ (M.uh n) a a=_
  unfold M.AQ;have hs:=ae.jP a
  try simp only[ae.aU,af.aU,ah.aU]
  have e2:=abY (a.aQ) (by omega)
  have hk3:=dV ae.sz (a.Kids);have e3:=Vd (M.uh n) (a.Kids) (by omega) (fun x hx=>Yb n x (by have:=gK ae.sz (a.Kids) x hx;have:=qL ae.sz (a.Kids) x hx;omega) (by have:=gK ae.sz (a.Kids) x hx;omega))
  try simp[e2,e3,ae.eta]
theorem ac3 (a:ae) (h:a.sz<=1048576):M.IU a a=some true:=
 Yb _ a (by have:=Go.V.cZ;omega) h
theorem aiy (a:List ae) (ha:jv ae.sz a<=1048576):M.xC M.IU a a=some true:=
 Vd _ a (by have:=dV ae.sz a;omega) fun x hx=>ac3 x (by have:=gK ae.sz a x hx;omega)
theorem RF (r:af->Int->Option Int) (a:List af) (left:Int) (ok:LOk af.Ok a) (h0:0<=left) (h1:left<=1048576) (hr:∀x l,x∈a->0<=l->l<left->r x l=some (if (x.sz:Int)<=l then l-x.sz else -1)):M.pR r a left=some (if (jv af.sz a:Int)<=left then left-jv af.sz a else -1):=by
 have hl:=ok.1;unfold M.pR;rw[wrap_i64 (by omega) (by omega)]
 refine abW (f:=af.sz) (F:=M.nY r  a) a left h0 h1 (fun g k l h2 h3 hk=> ?_) (fun g l=> ?_)
 ·have hn:k<2^62:=by omega
  rw[M.nY];have e:=hr a[k] l (List.getElem_mem hk) h2 (by omega)
  by_cases d:((af.sz a[k]:Nat):Int)<=l
  ·have n:¬(l-((af.sz a[k]:Nat):Int)<0):=by omega
   rw[if_pos d] at e ⊢;simp[hk,getD_lt hk,e,n,gW hk (show a.length<2^62 by omega),ae.aU,af.aU,ah.aU]
  ·rw[if_neg d] at e ⊢;simp[hk,getD_lt hk,e,ae.aU,af.aU,ah.aU]
 ·rw[M.nY];simp
theorem RG (r:af->Option (Int×Int×(List UInt8)×(List af))) (a:List af) (ha:a.length<=1048576) (hr:∀x∈a,r x=some (x.Kind,x.Num,x.Text,x.Kids)):M.pU r a=some a:=by
 have hn:a.length<=1048576:=by omega
 have hi:(a.length:Int)<=1073741824:=by omega
 have q:∀z,z.length=a.length->M.kS r  a Go.V.aG 0 z=some a:=Fg (F:=M.kS r  a) a (by omega) (fun f k out h1 h2 hk=>by
  rw[M.kS];have e:=hr a[k] (List.getElem_mem hk);simp[hk,h2,getD_lt hk,e,gW hk (kQ hn),ae.aU,af.aU,ah.aU,af.eta]) (fun f out=>by rw[M.kS];simp)
 unfold M.pU;rw[q _ (by simp)]
 simp[hi]
theorem RH (r:af->af->Option Bool) (a:List af) (ha:a.length<=1048576) (hr:∀x∈a,r x x=some true):M.pV r a a=some true:=by
 have hn:a.length<=1048576:=by omega
 unfold M.pV;refine Y7 (F:=M.nZ r  a a) a hn (fun f k hk=> ?_) (fun f=> ?_)
 ·rw[M.nZ]
  have e:=hr a[k] (List.getElem_mem hk);simp[hk,getD_lt hk,e,gW hk (kQ hn),ae.aU,af.aU,ah.aU]
 ·rw[M.nZ];simp
theorem Ve : ∀(n:Nat) (a:af) (left:Int),a.Ok->0<=left->left<n->left<=1048576->M.qO n a left=some (if (a.sz:Int)<=left then left-a.sz else -1)
 |0,a,left,ok,h0,h2,h1=>by omega
 |n+1,a,left,ok,h0,h2,h1=>by
  show M.yN (M.qO n) a left=_
  unfold M.yN;have hs:=af.jP a;have ok1:=(af.ok_eq a).1 ok
  try simp only[ae.aU,af.aU,ah.aU]
  have e0:Go.IntKind.wrap .i64 (left-((a.Text).length:Int))=left-((a.Text).length:Int):=wrap_i64 (by have:=ok1.2.2.1;unfold L8 at this;omega) (by omega)
  by_cases c0:(((a.Text).length:Nat):Int)<=left
  ·skip
   have n0:¬(left-(((a.Text).length:Nat):Int)<0):=by omega
   have e1:=RF (M.qO n) (a.Kids) (left-(((a.Text).length:Nat):Int)) ok1.2.2.2.1 (by omega) (by omega) (fun x l hx q0 q1=>Ve n x l ((ok1.2.2.2.1).2 x hx) q0 (by omega) (by omega))
   by_cases c1:((jv af.sz (a.Kids):Nat):Int)<=left-(((a.Text).length:Nat):Int)
   ·rw[if_pos c1] at e1
    have n1:¬(left-(((a.Text).length:Nat):Int)-((jv af.sz (a.Kids):Nat):Int)<0):=by omega
    have q:(a.sz:Int)<=left:=by rw[hs]<;>push_cast<;>omega
    have q2:left-(a.sz:Int)=left-(((a.Text).length:Nat):Int)-((jv af.sz (a.Kids):Nat):Int):=by rw[hs]<;>push_cast<;>omega
    rw[if_pos q,q2];simp[e0,n0,e1,n1]
   ·rw[if_neg c1] at e1
    have q:¬((a.sz:Int)<=left):=by rw[hs]<;>push_cast<;>omega
    rw[if_neg q];simp[e0,n0,e1]
  ·have n0:left-(((a.Text).length:Nat):Int)<0:=by omega
   have q:¬((a.sz:Int)<=left):=by rw[hs]<;>push_cast<;>omega
   rw[if_neg q];simp[e0,n0]
theorem aeI (a:af) (left:Int) (ok:a.Ok) (h0:0<=left) (h1:left<=1048576):M.Ak a left=some (if (a.sz:Int)<=left then left-a.sz else -1):=
 Ve _ a left ok h0 (by have:=Go.V.cZ;omega) h1
theorem adU (a:List af) (left:Int) (ok:LOk af.Ok a) (h0:0<=left) (h1:left<=1048576):M.pR M.Ak a left=some (if (jv af.sz a:Int)<=left then left-jv af.sz a else -1):=
 RF _ a left ok h0 h1 fun x l hx q0 q1=>aeI x l (ok.2 x hx) q0 (by omega)
theorem Vf : ∀(n:Nat) (a:af),a.sz<n->a.sz<=1048576->M.qP n a=some (a.Kind,a.Num,a.Text,a.Kids)
 |0,a,h2,h=>by omega
 |n+1,a,h2,h=>by
  show M.yO (M.qP n) a=_
  unfold M.yO;have hs:=af.jP a
  try simp only[ae.aU,af.aU,ah.aU]
  have hk3:=dV af.sz (a.Kids);have e3:=RG (M.qP n) (a.Kids) (by omega) (fun x hx=>Vf n x (by have:=gK af.sz (a.Kids) x hx;have:=qL af.sz (a.Kids) x hx;omega) (by have:=gK af.sz (a.Kids) x hx;omega))
  try simp[e3,af.eta]
theorem aeJ (a:af) (h:a.sz<=1048576):M.Am a=some (a.Kind,a.Num,a.Text,a.Kids):=
 Vf _ a (by have:=Go.V.cZ;omega) h
theorem adV (a:List af) (ha:jv af.sz a<=1048576):M.pU M.Am a=some a:=
 RG _ a (by have:=dV af.sz a;omega) fun x hx=>aeJ x (by have:=gK af.sz a x hx;omega)
theorem Vg : ∀(n:Nat) (a:af),a.sz<n->a.sz<=1048576->M.qQ n a a=some true
 |0,a,h2,h=>by omega
 |n+1,a,h2,h=>by
  show M.yP (M.qQ n) a a=_
  unfold M.yP;have hs:=af.jP a
  try simp only[ae.aU,af.aU,ah.aU]
  have hk3:=dV af.sz (a.Kids);have e3:=RH (M.qQ n) (a.Kids) (by omega) (fun x hx=>Vg n x (by have:=gK af.sz (a.Kids) x hx;have:=qL af.sz (a.Kids) x hx;omega) (by have:=gK af.sz (a.Kids) x hx;omega))
  try simp[e3,af.eta]
theorem aeK (a:af) (h:a.sz<=1048576):M.Ap a a=some true:=
 Vg _ a (by have:=Go.V.cZ;omega) h
theorem adW (a:List af) (ha:jv af.sz a<=1048576):M.pV M.Ap a a=some true:=
 RH _ a (by have:=dV af.sz a;omega) fun x hx=>aeK x (by have:=gK af.sz a x hx;omega)
theorem Yc (a:ah) (left:Int) (ok:a.Ok) (h0:0<=left) (h1:left<=1048576):M.uu a left=some (if (a.sz:Int)<=left then left-a.sz else -1):=by
 unfold M.uu;have hs:=ah.jP a;have ok1:=(ah.ok_eq a).1 ok
 try simp only[ae.aU,af.aU,ah.aU]
 have e0:=ac1 (a.cu) (left) ok1.1 (by omega) (by omega)
 by_cases c0:(((a.cu).sz:Nat):Int)<=left
 ·rw[if_pos c0] at e0
  have n0:¬(left-(((a.cu).sz:Nat):Int)<0):=by omega
  have e1:=adU (a.Buffer) (left-(((a.cu).sz:Nat):Int)) ok1.2.2.2.1 (by omega) (by omega)
  by_cases c1:((jv af.sz (a.Buffer):Nat):Int)<=left-(((a.cu).sz:Nat):Int)
  ·rw[if_pos c1] at e1
   have n1:¬(left-(((a.cu).sz:Nat):Int)-((jv af.sz (a.Buffer):Nat):Int)<0):=by omega
   have q:(a.sz:Int)<=left:=by rw[hs]<;>push_cast<;>omega
   have q2:left-(a.sz:Int)=left-(((a.cu).sz:Nat):Int)-((jv af.sz (a.Buffer):Nat):Int):=by rw[hs]<;>push_cast<;>omega
   rw[if_pos q,q2];simp[e0,n0,e1,n1]
  ·rw[if_neg c1] at e1
   have q:¬((a.sz:Int)<=left):=by rw[hs]<;>push_cast<;>omega
   rw[if_neg q];simp[e0,n0,e1]
 ·rw[if_neg c0] at e0
  have q:¬((a.sz:Int)<=left):=by rw[hs]<;>push_cast<;>omega
  rw[if_neg q];simp[e0]
theorem Yd (a:ah) (h:a.sz<=1048576):M.uw a=some (a.cu.Kind,a.cu.Name,a.Room,a.fB,a.Put,a.L9,a.Shut,a.Gone,a.cu.aQ,a.cu.Kids,a.Buffer):=by
 unfold M.uw;have hs:=ah.jP a
 try simp only[ae.aU,af.aU,ah.aU]
 have e0:=ac2 (a.cu) (by omega)
 have e3:=adV (a.Buffer) (by omega)
 try simp[e0,e3]
theorem Kq (a:ah) (h:a.sz<=1048576):M.qf a a=some true:=by
 unfold M.qf;have hs:=ah.jP a
 try simp only[ae.aU,af.aU,ah.aU]
 have e0:=ac3 (a.cu) (by omega)
 have e3:=adW (a.Buffer) (by omega)
 try simp[e0,e3]
theorem Y8 (a:aK) (h:a.sz<=1048576):M.Mc a=some a:=by
 unfold M.Mc;have hs:=aK.jP a
 try simp only[ae.aU,af.aU,ah.aU]
 try simp[]
theorem Y9 (a:aK) (h:a.sz<=1048576):M.D7 a a=some true:=by
 unfold M.D7;have hs:=aK.jP a
 try simp only[ae.aU,af.aU,ah.aU]
 try simp[]
theorem agk (a:List aK) (left:Int) (ok:LOk aK.Ok a) (h0:0<=left) (h1:left<=1048576):M.Jp a left=some (if (jv aK.sz a:Int)<=left then left-jv aK.sz a else -1):=by
 have hl:=ok.1;unfold M.Jp;rw[wrap_i64 (by omega) (by omega)]
 exact ags (f:=aK.sz) (fun _=>rfl) a left h0
theorem agl (a:List aK) (ha:jv aK.sz a<=1048576):M.Jq a=some a:=by
 have hl:=dV aK.sz a;have hn:a.length<=1048576:=by omega
 have hi:(a.length:Int)<=1073741824:=by omega
 have q:∀z,z.length=a.length->M.jX  a Go.V.aG 0 z=some a:=Fg (F:=M.jX  a) a (by omega) (fun f k out h1 h2 hk=>by
  rw[M.jX];have e:=Y8 a[k] (by have:=gK aK.sz a a[k] (List.getElem_mem hk);omega)
  simp[hk,h2,getD_lt hk,e,gW hk (kQ hn),ae.aU,af.aU,ah.aU]) (fun f out=>by rw[M.jX];simp)
 unfold M.Jq;rw[q _ (by simp)]
 simp[hi]
theorem agm (a:List aK) (ha:jv aK.sz a<=1048576):M.Jr a a=some true:=by
 have hl:=dV aK.sz a;have hn:a.length<=1048576:=by omega
 unfold M.Jr;refine Y7 (F:=M.nO  a a) a hn (fun f k hk=> ?_) (fun f=> ?_)
 ·rw[M.nO]
  have e:=Y9 a[k] (by have:=gK aK.sz a a[k] (List.getElem_mem hk);omega)
  simp[hk,getD_lt hk,e,gW hk (kQ hn),ae.aU,af.aU,ah.aU]
 ·rw[M.nO];simp
end M
