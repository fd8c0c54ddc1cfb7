/-
  Part of the proof of the claim.
-/
import Derived.Test.YtjlkjnhhpmoenaaGreatDoorXLSM
import Derived.Test.YtjlkjnhhpmoenaaGreatDoorXQlaw
import Derived.Test.YtjlkjnhhpmoenaaGreatDoorXQpl
set_option linter.unusedVariables false
set_option linter.unusedSimpArgs false
namespace M
def OW (s:List UInt8):Prop:=s.length<=9223372036854775807
def LOk {α:Type} (p:α->Prop) (l:List α):Prop:=l.length<=9223372036854775807 /\ ∀x∈l,p x
mutual
def ae.sz :ae->Nat
 | .mk v0 v1 v2 v3=>(v1).length+iD List.length (v2)+ae.szs v3
def ae.szs :List ae->Nat
 | []=>0
 |t::r=>ae.sz t+1+ae.szs r
end
theorem ae.PW :∀l:List ae,ae.szs l=iD ae.sz l
 | []=>rfl
 |t::r=>by simp only[ae.szs,iD,ae.PW r]
theorem ae.jR (a:ae):a.sz=(a.Name).length+iD List.length (a.aJ)+iD ae.sz (a.Kids):=by cases a;simp only[ae.sz,ae.PW];rfl
mutual
def ae.Ok :ae->Prop
 | .mk v0 v1 v2 v3=>I64 (v0) /\ OW (v1) /\ LOk OW (v2) /\ (v3.length<=9223372036854775807 /\ ae.Oks v3) /\ True
def ae.Oks :List ae->Prop
 | []=>True
 |t::r=>ae.Ok t /\ ae.Oks r
end
theorem ae.Rx :∀l:List ae,ae.Oks l↔∀x∈l,ae.Ok x
 | []=>by simp[ae.Oks]
 |t::r=>by simp[ae.Oks,ae.Rx r]
theorem ae.ok_eq (a:ae):a.Ok↔(I64 (a.Kind) /\ OW (a.Name) /\ LOk OW (a.aJ) /\ LOk ae.Ok (a.Kids) /\ True):=by
 cases a;simp only[ae.Ok,ae.Rx,LOk];exact Iff.rfl
mutual
def af.sz :af->Nat
 | .mk v0 v1 v2 v3=>(v2).length+af.szs v3
def af.szs :List af->Nat
 | []=>0
 |t::r=>af.sz t+1+af.szs r
end
theorem af.PW :∀l:List af,af.szs l=iD af.sz l
 | []=>rfl
 |t::r=>by simp only[af.szs,iD,af.PW r]
theorem af.jR (a:af):a.sz=(a.Text).length+iD af.sz (a.Kids):=by cases a;simp only[af.sz,af.PW];rfl
mutual
def af.Ok :af->Prop
 | .mk v0 v1 v2 v3=>I64 (v0) /\ I64 (v1) /\ OW (v2) /\ (v3.length<=9223372036854775807 /\ af.Oks v3) /\ True
def af.Oks :List af->Prop
 | []=>True
 |t::r=>af.Ok t /\ af.Oks r
end
theorem af.Rx :∀l:List af,af.Oks l↔∀x∈l,af.Ok x
 | []=>by simp[af.Oks]
 |t::r=>by simp[af.Oks,af.Rx r]
theorem af.ok_eq (a:af):a.Ok↔(I64 (a.Kind) /\ I64 (a.Num) /\ OW (a.Text) /\ LOk af.Ok (a.Kids) /\ True):=by
 cases a;simp only[af.Ok,af.Rx,LOk];exact Iff.rfl
def ah.sz (a:ah):Nat:=(a.aQ).sz+iD af.sz (a.Buffer)
theorem ah.jR (a:ah):a.sz=(a.aQ).sz+iD af.sz (a.Buffer):=rfl
def ah.Ok (a:ah):Prop:=ae.Ok (a.aQ) /\ I64 (a.Room) /\ True /\ LOk af.Ok (a.Buffer) /\ I64 (a.Put) /\ I64 (a.BG) /\ True /\ True /\ True
theorem ah.ok_eq (a:ah):a.Ok↔(ae.Ok (a.aQ) /\ I64 (a.Room) /\ True /\ LOk af.Ok (a.Buffer) /\ I64 (a.Put) /\ I64 (a.BG) /\ True /\ True /\ True):=Iff.rfl
def ai.sz (a:ai):Nat:=0
theorem ai.jR (a:ai):a.sz=0:=rfl
def ai.Ok (a:ai):Prop:=True /\ True /\ I64 (a.nD) /\ True
theorem ai.ok_eq (a:ai):a.Ok↔(True /\ True /\ I64 (a.nD) /\ True):=Iff.rfl
mutual
theorem ae.Ry :∀(a:ae),(∀m,Go.V.XH m .Type a)->a.Ok
 | .mk v0 v1 v2 v3,h=>by
   simp only[ae.Ok];exact ⟨(h 0).1,(h 0).2.1,⟨((h 0).2.2.1).1,fun y hy=>((fun m=>((h (m+1)).2.2.1).2 y hy) 0).1⟩,⟨((h 0).2.2.2.1).1,(ae.XI _ fun y hy m=>((h (m+1)).2.2.2.1).2 y hy)⟩,trivial⟩
theorem ae.XI :∀(l:List ae),(∀y∈l,∀m,Go.V.XH m .Type y)->ae.Oks l
 | [],_=>by simp only[ae.Oks]
 |t::r,h=>by
  simp only[ae.Oks];exact ⟨ae.Ry t (h t (by simp)),ae.XI r fun y hy=>h y (by simp[hy])⟩
end
mutual
theorem af.Ry :∀(a:af),(∀m,Go.V.XH m .Value a)->a.Ok
 | .mk v0 v1 v2 v3,h=>by
   simp only[af.Ok];exact ⟨(h 0).1,(h 0).2.1,(h 0).2.2.1,⟨((h 0).2.2.2.1).1,(af.XI _ fun y hy m=>((h (m+1)).2.2.2.1).2 y hy)⟩,trivial⟩
theorem af.XI :∀(l:List af),(∀y∈l,∀m,Go.V.XH m .Value y)->af.Oks l
 | [],_=>by simp only[af.Oks]
 |t::r,h=>by
  simp only[af.Oks];exact ⟨af.Ry t (h t (by simp)),af.XI r fun y hy=>h y (by simp[hy])⟩
end
theorem ah.Ry (a:ah) (h:∀m,Go.V.XH m .Stream a):a.Ok:=⟨(ae.Ry (a.aQ) (fun m=>by cases m with |zero=>exact ⟨(h 0).1,(h 0).2.1,(h 0).2.2.1,(h 0).2.2.2.1,trivial⟩ |succ m=>exact ⟨(h (m+1)).1,(h (m+1)).2.1,(h (m+1)).2.2.1,(h (m+1)).2.2.2.1,trivial⟩)),(h 0).2.2.2.2.1,trivial,⟨((h 0).2.2.2.2.2.2.1).1,fun y hy=>af.Ry y (fun m=>((h (m+1)).2.2.2.2.2.2.1).2 y hy)⟩,(h 0).2.2.2.2.2.2.2.1,(h 0).2.2.2.2.2.2.2.2.1,trivial,trivial,trivial⟩
theorem ai.Ry (a:ai) (h:∀m,Go.V.XH m .aU a):a.Ok:=⟨trivial,trivial,(h 0).2.2.1,trivial⟩
theorem aem (a:List (List UInt8)) (left:Int) (ok:LOk OW a) (h0:0<=left) (h1:left<=1048576):M.wU a left=some (if (iD List.length a:Int)<=left then left-iD List.length a else -1):=by
 have hl:=ok.1;unfold M.wU;rw[wrap_i64 (by omega) (by omega)]
 refine aen (f:=List.length) (F:=M.mM  a) a left h0 h1 (fun g k l h2 h3 hk=> ?_) (fun g l=> ?_)
 ·have hn:k<2^62:=by omega
  rw[M.mM];have w:Go.IntKind.wrap .i64 (l-((a[k]).length:Int))=l-(a[k]).length:=wrap_i64 (by have:=ok.2 a[k] (List.getElem_mem hk);unfold OW at this;omega) (by omega)
  by_cases d:((a[k]).length:Int)<=l
  ·have n:¬(l-((a[k]).length:Int)<0):=by omega
   rw[if_pos d];simp[hk,getD_lt hk,w,n,fZ hk (show a.length<2^62 by omega)]
  ·have n:l-((a[k]).length:Int)<0:=by omega
   rw[if_neg d];simp[hk,getD_lt hk,w,n]
 ·rw[M.mM];simp
theorem aeo (a:List (List UInt8)) (ha:iD List.length a<=1048576):M.wV a=some a:=by
 have hl:=eF List.length a;have hn:a.length<=1048576:=by omega
 have hi:(a.length:Int)<=1073741824:=by omega
 have q:∀z,z.length=a.length->M.kG  a Go.V.aG 0 z=some a:=Nl (F:=M.kG  a) a (by omega) (fun f k out h1 h2 hk=>by
  rw[M.kG];simp[hk,h2,getD_lt hk,fZ hk (kZ hn)]) (fun f out=>by rw[M.kG];simp)
 unfold M.wV;rw[q _ (by simp)]
 simp[hi]
theorem aep (a:List (List UInt8)) (ha:iD List.length a<=1048576):M.wW a a=some true:=by
 have hl:=eF List.length a;have hn:a.length<=1048576:=by omega
 unfold M.wW;refine abA (F:=M.mO  a a) a hn (fun f k hk=> ?_) (fun f=> ?_)
 ·rw[M.mO]
  simp[hk,getD_lt hk,fZ hk (kZ hn)]
 ·rw[M.mO];simp
theorem aeq (r:ae->Int->Option Int) (a:List ae) (left:Int) (ok:LOk ae.Ok a) (h0:0<=left) (h1:left<=1048576) (hr:∀x l,x∈a->0<=l->l<left->r x l=some (if (x.sz:Int)<=l then l-x.sz else -1)):M.C9 r a left=some (if (iD ae.sz a:Int)<=left then left-iD ae.sz a else -1):=by
 have hl:=ok.1;unfold M.C9;rw[wrap_i64 (by omega) (by omega)]
 refine aen (f:=ae.sz) (F:=M.qM r  a) a left h0 h1 (fun g k l h2 h3 hk=> ?_) (fun g l=> ?_)
 ·have hn:k<2^62:=by omega
  rw[M.qM];have e:=hr a[k] l (List.getElem_mem hk) h2 (by omega)
  by_cases d:((ae.sz a[k]:Nat):Int)<=l
  ·have n:¬(l-((ae.sz a[k]:Nat):Int)<0):=by omega
   rw[if_pos d] at e ⊢;simp[hk,getD_lt hk,e,n,fZ hk (show a.length<2^62 by omega),ae.aT,af.aT,ah.aT]
  ·rw[if_neg d] at e ⊢;simp[hk,getD_lt hk,e,ae.aT,af.aT,ah.aT]
 ·rw[M.qM];simp
theorem aer (r:ae->Option (Int×(List UInt8)×(List (List UInt8))×(List ae))) (a:List ae) (ha:a.length<=1048576) (hr:∀x∈a,r x=some (x.Kind,x.Name,x.aJ,x.Kids)):M.Dc r a=some a:=by
 have hn:a.length<=1048576:=by omega
 have hi:(a.length:Int)<=1073741824:=by omega
 have q:∀z,z.length=a.length->M.oG r  a Go.V.aG 0 z=some a:=Nl (F:=M.oG r  a) a (by omega) (fun f k out h1 h2 hk=>by
  rw[M.oG];have e:=hr a[k] (List.getElem_mem hk);simp[hk,h2,getD_lt hk,e,fZ hk (kZ hn),ae.aT,af.aT,ah.aT,ae.eta]) (fun f out=>by rw[M.oG];simp)
 unfold M.Dc;rw[q _ (by simp)]
 simp[hi]
theorem aes (r:ae->ae->Option Bool) (a:List ae) (ha:a.length<=1048576) (hr:∀x∈a,r x x=some true):M.Df r a a=some true:=by
 have hn:a.length<=1048576:=by omega
 unfold M.Df;refine abA (F:=M.qN r  a a) a hn (fun f k hk=> ?_) (fun f=> ?_)
 ·rw[M.qN]
  have e:=hr a[k] (List.getElem_mem hk);simp[hk,getD_lt hk,e,fZ hk (kZ hn),ae.aT,af.aT,ah.aT]
 ·rw[M.qN];simp
theorem aav : ∀(n:Nat) (a:ae) (left:Int),a.Ok->0<=left->left<n->left<=1048576->M.vZ n a left=some (if (a.sz:Int)<=left then left-a.sz else -1)
 |0,a,left,ok,h0,h2,h1=>by omega
 |n+1,a,left,ok,h0,h2,h1=>by
  show M.Dw (M.vZ n) a left=_
  unfold M.Dw;have hs:=ae.jR a;have ok1:=(ae.ok_eq a).1 ok
  try simp only[ae.aT,af.aT,ah.aT]
  have e0:Go.IntKind.wrap .i64 (left-((a.Name).length:Int))=left-((a.Name).length:Int):=wrap_i64 (by have:=ok1.2.1;unfold OW at this;omega) (by omega)
  by_cases c0:(((a.Name).length:Nat):Int)<=left
  ·skip
   have n0:¬(left-(((a.Name).length:Nat):Int)<0):=by omega
   have e1:=aem (a.aJ) (left-(((a.Name).length:Nat):Int)) ok1.2.2.1 (by omega) (by omega)
   by_cases c1:((iD List.length (a.aJ):Nat):Int)<=left-(((a.Name).length:Nat):Int)
   ·rw[if_pos c1] at e1
    have n1:¬(left-(((a.Name).length:Nat):Int)-((iD List.length (a.aJ):Nat):Int)<0):=by omega
    have e2:=aeq (M.vZ n) (a.Kids) (left-(((a.Name).length:Nat):Int)-((iD List.length (a.aJ):Nat):Int)) ok1.2.2.2.1 (by omega) (by omega) (fun x l hx q0 q1=>aav n x l ((ok1.2.2.2.1).2 x hx) q0 (by omega) (by omega))
    by_cases c2:((iD ae.sz (a.Kids):Nat):Int)<=left-(((a.Name).length:Nat):Int)-((iD List.length (a.aJ):Nat):Int)
    ·rw[if_pos c2] at e2
     have n2:¬(left-(((a.Name).length:Nat):Int)-((iD List.length (a.aJ):Nat):Int)-((iD ae.sz (a.Kids):Nat):Int)<0):=by omega
     have q:(a.sz:Int)<=left:=by rw[hs]<;>push_cast<;>omega
     have q2:left-(a.sz:Int)=left-(((a.Name).length:Nat):Int)-((iD List.length (a.aJ):Nat):Int)-((iD ae.sz (a.Kids):Nat):Int):=by rw[hs]<;>push_cast<;>omega
     rw[if_pos q,q2];simp[e0,n0,e1,n1,e2,n2]
    ·rw[if_neg c2] at e2
     have q:¬((a.sz:Int)<=left):=by rw[hs]<;>push_cast<;>omega
     rw[if_neg q];simp[e0,n0,e1,n1,e2]
   ·rw[if_neg c1] at e1
    have q:¬((a.sz:Int)<=left):=by rw[hs]<;>push_cast<;>omega
    rw[if_neg q];simp[e0,n0,e1]
  ·have n0:left-(((a.Name).length:Nat):Int)<0:=by omega
   have q:¬((a.sz:Int)<=left):=by rw[hs]<;>push_cast<;>omega
   rw[if_neg q];simp[e0,n0]
theorem aiW (a:ae) (left:Int) (ok:a.Ok) (h0:0<=left) (h1:left<=1048576):M.Qq a left=some (if (a.sz:Int)<=left then left-a.sz else -1):=
 aav _ a left ok h0 (by have:=Go.V.bZ;omega) h1
theorem aaw : ∀(n:Nat) (a:ae),a.sz<n->a.sz<=1048576->M.wo n a=some (a.Kind,a.Name,a.aJ,a.Kids)
 |0,a,h2,h=>by omega
 |n+1,a,h2,h=>by
  show M.Dy (M.wo n) a=_
  unfold M.Dy;have hs:=ae.jR a
  try simp only[ae.aT,af.aT,ah.aT]
  have e2:=aeo (a.aJ) (by omega)
  have hk3:=eF ae.sz (a.Kids);have e3:=aer (M.wo n) (a.Kids) (by omega) (fun x hx=>aaw n x (by have:=iP ae.sz (a.Kids) x hx;have:=sN ae.sz (a.Kids) x hx;omega) (by have:=iP ae.sz (a.Kids) x hx;omega))
  try simp[e2,e3,ae.eta]
theorem aiX (a:ae) (h:a.sz<=1048576):M.Qs a=some (a.Kind,a.Name,a.aJ,a.Kids):=
 aaw _ a (by have:=Go.V.bZ;omega) h
theorem aax : ∀(n:Nat) (a:ae),a.sz<n->a.sz<=1048576->M.wu n a a=some true
 |0,a,h2,h=>by omega
 |n+1,a,h2,h=>by
  show M.DC (M.wu n) a a=_
  unfold M.DC;have hs:=ae.jR a
  try simp only[ae.aT,af.aT,ah.aT]
  have e2:=aep (a.aJ) (by omega)
  have hk3:=eF ae.sz (a.Kids);have e3:=aes (M.wu n) (a.Kids) (by omega) (fun x hx=>aax n x (by have:=iP ae.sz (a.Kids) x hx;have:=sN ae.sz (a.Kids) x hx;omega) (by have:=iP ae.sz (a.Kids) x hx;omega))
  try simp[e2,e3,ae.eta]
theorem aiY (a:ae) (h:a.sz<=1048576):M.Qv a a=some true:=
 aax _ a (by have:=Go.V.bZ;omega) h
theorem U7 (r:af->Int->Option Int) (a:List af) (left:Int) (ok:LOk af.Ok a) (h0:0<=left) (h1:left<=1048576) (hr:∀x l,x∈a->0<=l->l<left->r x l=some (if (x.sz:Int)<=l then l-x.sz else -1)):M.qY r a left=some (if (iD af.sz a:Int)<=left then left-iD af.sz a else -1):=by
 have hl:=ok.1;unfold M.qY;rw[wrap_i64 (by omega) (by omega)]
 refine aen (f:=af.sz) (F:=M.pF r  a) a left h0 h1 (fun g k l h2 h3 hk=> ?_) (fun g l=> ?_)
 ·have hn:k<2^62:=by omega
  rw[M.pF];have e:=hr a[k] l (List.getElem_mem hk) h2 (by omega)
  by_cases d:((af.sz a[k]:Nat):Int)<=l
  ·have n:¬(l-((af.sz a[k]:Nat):Int)<0):=by omega
   rw[if_pos d] at e ⊢;simp[hk,getD_lt hk,e,n,fZ hk (show a.length<2^62 by omega),ae.aT,af.aT,ah.aT]
  ·rw[if_neg d] at e ⊢;simp[hk,getD_lt hk,e,ae.aT,af.aT,ah.aT]
 ·rw[M.pF];simp
theorem U8 (r:af->Option (Int×Int×(List UInt8)×(List af))) (a:List af) (ha:a.length<=1048576) (hr:∀x∈a,r x=some (x.Kind,x.Num,x.Text,x.Kids)):M.qZ r a=some a:=by
 have hn:a.length<=1048576:=by omega
 have hi:(a.length:Int)<=1073741824:=by omega
 have q:∀z,z.length=a.length->M.lW r  a Go.V.aG 0 z=some a:=Nl (F:=M.lW r  a) a (by omega) (fun f k out h1 h2 hk=>by
  rw[M.lW];have e:=hr a[k] (List.getElem_mem hk);simp[hk,h2,getD_lt hk,e,fZ hk (kZ hn),ae.aT,af.aT,ah.aT,af.eta]) (fun f out=>by rw[M.lW];simp)
 unfold M.qZ;rw[q _ (by simp)]
 simp[hi]
theorem U9 (r:af->af->Option Bool) (a:List af) (ha:a.length<=1048576) (hr:∀x∈a,r x x=some true):M.nC r a a=some true:=by
 have hn:a.length<=1048576:=by omega
 unfold M.nC;refine abA (F:=M.pG r  a a) a hn (fun f k hk=> ?_) (fun f=> ?_)
 ·rw[M.pG]
  have e:=hr a[k] (List.getElem_mem hk);simp[hk,getD_lt hk,e,fZ hk (kZ hn),ae.aT,af.aT,ah.aT]
 ·rw[M.pG];simp
theorem XJ : ∀(n:Nat) (a:af) (left:Int),a.Ok->0<=left->left<n->left<=1048576->M.tX n a left=some (if (a.sz:Int)<=left then left-a.sz else -1)
 |0,a,left,ok,h0,h2,h1=>by omega
 |n+1,a,left,ok,h0,h2,h1=>by
  show M.AZ (M.tX n) a left=_
  unfold M.AZ;have hs:=af.jR a;have ok1:=(af.ok_eq a).1 ok
  try simp only[ae.aT,af.aT,ah.aT]
  have e0:Go.IntKind.wrap .i64 (left-((a.Text).length:Int))=left-((a.Text).length:Int):=wrap_i64 (by have:=ok1.2.2.1;unfold OW at this;omega) (by omega)
  by_cases c0:(((a.Text).length:Nat):Int)<=left
  ·skip
   have n0:¬(left-(((a.Text).length:Nat):Int)<0):=by omega
   have e1:=U7 (M.tX n) (a.Kids) (left-(((a.Text).length:Nat):Int)) ok1.2.2.2.1 (by omega) (by omega) (fun x l hx q0 q1=>XJ n x l ((ok1.2.2.2.1).2 x hx) q0 (by omega) (by omega))
   by_cases c1:((iD af.sz (a.Kids):Nat):Int)<=left-(((a.Text).length:Nat):Int)
   ·rw[if_pos c1] at e1
    have n1:¬(left-(((a.Text).length:Nat):Int)-((iD af.sz (a.Kids):Nat):Int)<0):=by omega
    have q:(a.sz:Int)<=left:=by rw[hs]<;>push_cast<;>omega
    have q2:left-(a.sz:Int)=left-(((a.Text).length:Nat):Int)-((iD af.sz (a.Kids):Nat):Int):=by rw[hs]<;>push_cast<;>omega
    rw[if_pos q,q2];simp[e0,n0,e1,n1]
   ·rw[if_neg c1] at e1
    have q:¬((a.sz:Int)<=left):=by rw[hs]<;>push_cast<;>omega
    rw[if_neg q];simp[e0,n0,e1]
  ·have n0:left-(((a.Text).length:Nat):Int)<0:=by omega
   have q:¬((a.sz:Int)<=left):=by rw[hs]<;>push_cast<;>omega
   rw[if_neg q];simp[e0,n0]
theorem ag8 (a:af) (left:Int) (ok:a.Ok) (h0:0<=left) (h1:left<=1048576):M.Dl a left=some (if (a.sz:Int)<=left then left-a.sz else -1):=
 XJ _ a left ok h0 (by have:=Go.V.bZ;omega) h1
theorem agi (a:List af) (left:Int) (ok:LOk af.Ok a) (h0:0<=left) (h1:left<=1048576):M.qY M.Dl a left=some (if (iD af.sz a:Int)<=left then left-iD af.sz a else -1):=
 U7 _ a left ok h0 h1 fun x l hx q0 q1=>ag8 x l (ok.2 x hx) q0 (by omega)
theorem XK : ∀(n:Nat) (a:af),a.sz<n->a.sz<=1048576->M.tY n a=some (a.Kind,a.Num,a.Text,a.Kids)
 |0,a,h2,h=>by omega
 |n+1,a,h2,h=>by
  show M.A7 (M.tY n) a=_
  unfold M.A7;have hs:=af.jR a
  try simp only[ae.aT,af.aT,ah.aT]
  have hk3:=eF af.sz (a.Kids);have e3:=U8 (M.tY n) (a.Kids) (by omega) (fun x hx=>XK n x (by have:=iP af.sz (a.Kids) x hx;have:=sN af.sz (a.Kids) x hx;omega) (by have:=iP af.sz (a.Kids) x hx;omega))
  try simp[e3,af.eta]
theorem ag9 (a:af) (h:a.sz<=1048576):M.Dn a=some (a.Kind,a.Num,a.Text,a.Kids):=
 XK _ a (by have:=Go.V.bZ;omega) h
theorem agj (a:List af) (ha:iD af.sz a<=1048576):M.qZ M.Dn a=some a:=
 U8 _ a (by have:=eF af.sz a;omega) fun x hx=>ag9 x (by have:=iP af.sz a x hx;omega)
theorem XL : ∀(n:Nat) (a:af),a.sz<n->a.sz<=1048576->M.uf n a a=some true
 |0,a,h2,h=>by omega
 |n+1,a,h2,h=>by
  show M.A8 (M.uf n) a a=_
  unfold M.A8;have hs:=af.jR a
  try simp only[ae.aT,af.aT,ah.aT]
  have hk3:=eF af.sz (a.Kids);have e3:=U9 (M.uf n) (a.Kids) (by omega) (fun x hx=>XL n x (by have:=iP af.sz (a.Kids) x hx;have:=sN af.sz (a.Kids) x hx;omega) (by have:=iP af.sz (a.Kids) x hx;omega))
  try simp[e3,af.eta]
theorem aha (a:af) (h:a.sz<=1048576):M.uI a a=some true:=
 XL _ a (by have:=Go.V.bZ;omega) h
theorem aay (a:List af) (ha:iD af.sz a<=1048576):M.nC M.uI a a=some true:=
 U9 _ a (by have:=eF af.sz a;omega) fun x hx=>aha x (by have:=iP af.sz a x hx;omega)
theorem agk (a:ah) (left:Int) (ok:a.Ok) (h0:0<=left) (h1:left<=1048576):M.zI a left=some (if (a.sz:Int)<=left then left-a.sz else -1):=by
 unfold M.zI;have hs:=ah.jR a;have ok1:=(ah.ok_eq a).1 ok
 try simp only[ae.aT,af.aT,ah.aT]
 have e0:=aiW (a.aQ) (left) ok1.1 (by omega) (by omega)
 by_cases c0:(((a.aQ).sz:Nat):Int)<=left
 ·rw[if_pos c0] at e0
  have n0:¬(left-(((a.aQ).sz:Nat):Int)<0):=by omega
  have e1:=agi (a.Buffer) (left-(((a.aQ).sz:Nat):Int)) ok1.2.2.2.1 (by omega) (by omega)
  by_cases c1:((iD af.sz (a.Buffer):Nat):Int)<=left-(((a.aQ).sz:Nat):Int)
  ·rw[if_pos c1] at e1
   have n1:¬(left-(((a.aQ).sz:Nat):Int)-((iD af.sz (a.Buffer):Nat):Int)<0):=by omega
   have q:(a.sz:Int)<=left:=by rw[hs]<;>push_cast<;>omega
   have q2:left-(a.sz:Int)=left-(((a.aQ).sz:Nat):Int)-((iD af.sz (a.Buffer):Nat):Int):=by rw[hs]<;>push_cast<;>omega
   rw[if_pos q,q2];simp[e0,n0,e1,n1]
  ·rw[if_neg c1] at e1
   have q:¬((a.sz:Int)<=left):=by rw[hs]<;>push_cast<;>omega
   rw[if_neg q];simp[e0,n0,e1]
 ·rw[if_neg c0] at e0
  have q:¬((a.sz:Int)<=left):=by rw[hs]<;>push_cast<;>omega
  rw[if_neg q];simp[e0]
theorem agl (a:ah) (h:a.sz<=1048576):M.zJ a=some (a.aQ.Kind,a.aQ.Name,a.Room,a.dn,a.Put,a.BG,a.Shut,a.Gone,a.aQ.aJ,a.aQ.Kids,a.Buffer):=by
 unfold M.zJ;have hs:=ah.jR a
 try simp only[ae.aT,af.aT,ah.aT]
 have e0:=aiX (a.aQ) (by omega)
 have e3:=agj (a.Buffer) (by omega)
 try simp[e0,e3]
theorem aaz (a:ah) (h:a.sz<=1048576):M.wO a a=some true:=by
 unfold M.wO;have hs:=ah.jR a
 try simp only[ae.aT,af.aT,ah.aT]
 have e0:=aiY (a.aQ) (by omega)
 have e3:=aay (a.Buffer) (by omega)
 try simp[e0,e3]
theorem abB (a:ai) (h:a.sz<=1048576):M.vK a=some a:=by
 unfold M.vK;have hs:=ai.jR a
 try simp only[ae.aT,af.aT,ah.aT]
 try simp[]
theorem abC (a:ai) (h:a.sz<=1048576):M.rX a a=some true:=by
 unfold M.rX;have hs:=ai.jR a
 try simp only[ae.aT,af.aT,ah.aT]
 try simp[]
theorem Z9 (a:List ai) (left:Int) (ok:LOk ai.Ok a) (h0:0<=left) (h1:left<=1048576):M.qi a left=some (if (iD ai.sz a:Int)<=left then left-iD ai.sz a else -1):=by
 have hl:=ok.1;unfold M.qi;rw[wrap_i64 (by omega) (by omega)]
 exact aiZ (f:=ai.sz) (fun _=>rfl) a left h0
theorem aab (a:List ai) (ha:iD ai.sz a<=1048576):M.qj a=some a:=by
 have hl:=eF ai.sz a;have hn:a.length<=1048576:=by omega
 have hi:(a.length:Int)<=1073741824:=by omega
 have q:∀z,z.length=a.length->M.iC  a Go.V.aG 0 z=some a:=Nl (F:=M.iC  a) a (by omega) (fun f k out h1 h2 hk=>by
  rw[M.iC];have e:=abB a[k] (by have:=iP ai.sz a a[k] (List.getElem_mem hk);omega)
  simp[hk,h2,getD_lt hk,e,fZ hk (kZ hn),ae.aT,af.aT,ah.aT]) (fun f out=>by rw[M.iC];simp)
 unfold M.qj;rw[q _ (by simp)]
 simp[hi]
theorem aac (a:List ai) (ha:iD ai.sz a<=1048576):M.qm a a=some true:=by
 have hl:=eF ai.sz a;have hn:a.length<=1048576:=by omega
 unfold M.qm;refine abA (F:=M.jE  a a) a hn (fun f k hk=> ?_) (fun f=> ?_)
 ·rw[M.jE]
  have e:=abC a[k] (by have:=iP ai.sz a a[k] (List.getElem_mem hk);omega)
  simp[hk,getD_lt hk,e,fZ hk (kZ hn),ae.aT,af.aT,ah.aT]
 ·rw[M.jE];simp
end M
