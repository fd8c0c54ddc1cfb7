/-
  Part of the proof of the claim.
-/
import Derived.Test.YtpablcpgdagijaaGreatXVYM
import Derived.Test.YtpablcpgdagijaaGreatXClaw
import Derived.Test.YtpablcpgdagijaaGreatXCpl
set_option linter.unusedVariables false
set_option linter.unusedSimpArgs false
namespace M
def adU(s:List UInt8):Prop:=s.length<=9223372036854775807
def d6{α:Type}(p:α->Prop)(l:List α):Prop:=l.length<=9223372036854775807/\∀x∈l,p x
def ah.sz(a:ah):Nat:=aH (fun _=>0) (a.bG)
theorem ah.bX(a:ah):a.sz=aH (fun _=>0) (a.bG):=rfl
def ah.Ok(a:ah):Prop:=I64 (a.Id)/\I64 (a.Caller)/\I64 (a.Callee)/\d6 I64 (a.bG)/\True
theorem ah.ok_eq(a:ah):a.Ok↔(I64 (a.Id)/\I64 (a.Caller)/\I64 (a.Callee)/\d6 I64 (a.bG)/\True):=Iff.rfl
def ae.sz(a:ae):Nat:=0
theorem ae.bX(a:ae):a.sz=0:=rfl
def ae.Ok(a:ae):Prop:=I64 (a.Num)/\I64 (a.Id)/\True/\I64 (a.bT)/\I64 (a.Scope)/\I64 (a.From)/\I64 (a.bQ)/\True
theorem ae.ok_eq(a:ae):a.Ok↔(I64 (a.Num)/\I64 (a.Id)/\True/\I64 (a.bT)/\I64 (a.Scope)/\I64 (a.From)/\I64 (a.bQ)/\True):=Iff.rfl
def aB.sz(a:aB):Nat:=0
theorem aB.bX(a:aB):a.sz=0:=rfl
def aB.Ok(a:aB):Prop:=True/\I64 (a.bI)/\I64 (a.Num)/\True
theorem aB.ok_eq(a:aB):a.Ok↔(True/\I64 (a.bI)/\I64 (a.Num)/\True):=Iff.rfl
def aa.sz(a:aa):Nat:=aH ae.sz (a.Entries)
theorem aa.bX(a:aa):a.sz=aH ae.sz (a.Entries):=rfl
def aa.Ok(a:aa):Prop:=I64 (a.Next)/\d6 ae.Ok (a.Entries)/\True
theorem aa.ok_eq(a:aa):a.Ok↔(I64 (a.Next)/\d6 ae.Ok (a.Entries)/\True):=Iff.rfl
def ai.sz(a:ai):Nat:=0
theorem ai.bX(a:ai):a.sz=0:=rfl
def ai.Ok(a:ai):Prop:=I64 (a.Id)/\I64 (a.bI)/\I64 (a.Rep)/\True
theorem ai.ok_eq(a:ai):a.Ok↔(I64 (a.Id)/\I64 (a.bI)/\I64 (a.Rep)/\True):=Iff.rfl
def av.sz(a:av):Nat:=aH aa.sz (a.Tables)+aH ai.sz (a.aA)
theorem av.bX(a:av):a.sz=aH aa.sz (a.Tables)+aH ai.sz (a.aA):=rfl
def av.Ok(a:av):Prop:=I64 (a.Next)/\d6 aa.Ok (a.Tables)/\d6 ai.Ok (a.aA)/\True
theorem av.ok_eq(a:av):a.Ok↔(I64 (a.Next)/\d6 aa.Ok (a.Tables)/\d6 ai.Ok (a.aA)/\True):=Iff.rfl
def af.sz(a:af):Nat:=(a.Shelf).sz+aH ah.sz (a.Stack)+aH (fun _=>0) (a.Dead)
theorem af.bX(a:af):a.sz=(a.Shelf).sz+aH ah.sz (a.Stack)+aH (fun _=>0) (a.Dead):=rfl
def af.Ok(a:af):Prop:=av.Ok (a.Shelf)/\d6 ah.Ok (a.Stack)/\I64 (a.Next)/\d6 I64 (a.Dead)/\True
theorem af.ok_eq(a:af):a.Ok↔(av.Ok (a.Shelf)/\d6 ah.Ok (a.Stack)/\I64 (a.Next)/\d6 I64 (a.Dead)/\True):=Iff.rfl
theorem ah.gh(a:ah)(h:∀m,Go.V.gV m .Call a):a.Ok:=⟨(h 0).1,(h 0).2.1,(h 0).2.2.1,⟨((h 0).2.2.2.1).1,fun y hy=>((fun m=>((h (m+1)).2.2.2.1).2 y hy) 0).1⟩,trivial⟩
theorem ae.gh(a:ae)(h:∀m,Go.V.gV m .Entry a):a.Ok:=⟨(h 0).1,(h 0).2.1,trivial,(h 0).2.2.2.1,(h 0).2.2.2.2.1,(h 0).2.2.2.2.2.1,(h 0).2.2.2.2.2.2.1,trivial⟩
theorem aB.gh(a:aB)(h:∀m,Go.V.gV m .Pass a):a.Ok:=⟨trivial,(h 0).2.1,(h 0).2.2.1,trivial⟩
theorem aa.gh(a:aa)(h:∀m,Go.V.gV m .Table a):a.Ok:=⟨(h 0).1,⟨((h 0).2.1).1,fun y hy=>ae.gh y (fun m=>((h (m+1)).2.1).2 y hy)⟩,trivial⟩
theorem ai.gh(a:ai)(h:∀m,Go.V.gV m .aC a):a.Ok:=⟨(h 0).1,(h 0).2.1,(h 0).2.2.1,trivial⟩
theorem av.gh(a:av)(h:∀m,Go.V.gV m .Shelf a):a.Ok:=⟨(h 0).1,⟨((h 0).2.1).1,fun y hy=>aa.gh y (fun m=>((h (m+1)).2.1).2 y hy)⟩,⟨((h 0).2.2.1).1,fun y hy=>ai.gh y (fun m=>((h (m+1)).2.2.1).2 y hy)⟩,trivial⟩
theorem af.gh(a:af)(h:∀m,Go.V.gV m .aS a):a.Ok:=⟨(av.gh (a.Shelf) (fun m=>by cases m with|zero=>exact⟨(h 0).1,(h 0).2.1,(h 0).2.2.1,trivial⟩|succ m=>exact⟨(h (m+1)).1,(h (m+1)).2.1,(h (m+1)).2.2.1,trivial⟩)),⟨((h 0).2.2.2.1).1,fun y hy=>ah.gh y (fun m=>((h (m+1)).2.2.2.1).2 y hy)⟩,(h 0).2.2.2.2.1,⟨((h 0).2.2.2.2.2.1).1,fun y hy=>((fun m=>((h (m+1)).2.2.2.2.2.1).2 y hy) 0).1⟩,trivial⟩
theorem MY(a:List Int)(left:Int)(ok:d6 I64 a)(h0:0<=left)(h1:left<=1048576):M.lg a left=some (if(aH (fun _=>0) a:Int)<=left then left-aH (fun _=>0) a else -1):=by
 have hl:=ok.1;unfold M.lg;rw[wrap_i64 (by omega) (by omega)];exact uT (f:=(fun _=>0)) (fun _=>rfl) a left h0
theorem MZ(a:List Int)(ha:aH (fun _=>0) a<=1048576):M.ln a=some a:=by
 have hl:=cw (fun _=>0) a;have hn:a.length<=1048576:=by omega
 have hi:(a.length:Int)<=1073741824:=by omega
 have q:∀z,z.length=a.length->M.ll  a Go.V.ak 0 z=some a:=oy (F:=M.ll  a) a (by omega) (fun f k out h1 h2 hk=>by
  rw[M.ll];simp[hk,h2,getD_lt hk,bn hk (dw hn)]) (fun f out=>by rw[M.ll];simp)
 unfold M.ln;rw[q _ (by simp)];simp[hi]
theorem yP(a:List Int)(ha:aH (fun _=>0) a<=1048576):M.i7 a a=some true:=by
 have hl:=cw (fun _=>0) a;have hn:a.length<=1048576:=by omega
 unfold M.i7;refine oz (F:=M.nq  a a) a hn (fun f k hk=>?_) (fun f=>?_)
 ·rw[M.nq];simp[hk,getD_lt hk,bn hk (dw hn)]
 ·rw[M.nq];simp
theorem Z9(a:ah)(left:Int)(ok:a.Ok)(h0:0<=left)(h1:left<=1048576):M.qw a left=some (if(a.sz:Int)<=left then left-a.sz else -1):=by
 unfold M.qw;have hs:=ah.bX a;have ok1:=(ah.ok_eq a).1 ok
 skip
 have e0:=MY (a.bG) (left) ok1.2.2.2.1 (by omega) (by omega);by_cases c0:((aH (fun _=>0) (a.bG):Nat):Int)<=left
 ·rw[if_pos c0]at e0;have n0:¬(left-((aH (fun _=>0) (a.bG):Nat):Int)<0):=by omega
  have q:(a.sz:Int)<=left:=by rw[hs]<;>push_cast<;>omega
  have q2:left-(a.sz:Int)=left-((aH (fun _=>0) (a.bG):Nat):Int):=by rw[hs]<;>push_cast<;>omega
  rw[if_pos q,q2];simp[e0,n0]
 ·rw[if_neg c0]at e0;have q:¬((a.sz:Int)<=left):=by rw[hs]<;>push_cast<;>omega
  rw[if_neg q];simp[e0]
theorem aab(a:ah)(h:a.sz<=1048576):M.qF a=some (a.Id,a.Caller,a.Callee,a.bG):=by
 unfold M.qF;have hs:=ah.bX a
 skip
 have e3:=MZ (a.bG) (by omega)
 try simp[e3]
theorem aac(a:ah)(h:a.sz<=1048576):M.ri a a=some true:=by
 unfold M.ri;have hs:=ah.bX a
 skip
 have e3:=yP (a.bG) (by omega)
 try simp[e3]
theorem aad(a:List ah)(left:Int)(ok:d6 ah.Ok a)(h0:0<=left)(h1:left<=1048576):M.qx a left=some (if(aH ah.sz a:Int)<=left then left-aH ah.sz a else -1):=by
 have hl:=ok.1;unfold M.qx;rw[wrap_i64 (by omega) (by omega)];refine Ff (f:=ah.sz) (F:=M.nf  a) a left h0 h1 (fun g k l h2 h3 hk=>?_) (fun g l=>?_)
 ·have hn:k<2^62:=by omega
  rw[M.nf];have e:=Z9 a[k] l (ok.2 _ (List.getElem_mem hk)) h2 (by omega);by_cases d:((ah.sz a[k]:Nat):Int)<=l
  ·have n:¬(l-((ah.sz a[k]:Nat):Int)<0):=by omega
   rw[if_pos d]at e⊢;simp[hk,getD_lt hk,e,n,bn hk (show a.length<2^62 by omega)]
  ·rw[if_neg d]at e⊢;simp[hk,getD_lt hk,e]
 ·rw[M.nf];simp
theorem aae(a:List ah)(ha:aH ah.sz a<=1048576):M.qG a=some a:=by
 have hl:=cw ah.sz a;have hn:a.length<=1048576:=by omega
 have hi:(a.length:Int)<=1073741824:=by omega
 have q:∀z,z.length=a.length->M.lp  a Go.V.ak 0 z=some a:=oy (F:=M.lp  a) a (by omega) (fun f k out h1 h2 hk=>by
  rw[M.lp];have e:=aab a[k] (by have:=dC ah.sz a a[k] (List.getElem_mem hk);omega);simp[hk,h2,getD_lt hk,e,bn hk (dw hn)]) (fun f out=>by rw[M.lp];simp)
 unfold M.qG;rw[q _ (by simp)];simp[hi]
theorem TU(a:List ah)(ha:aH ah.sz a<=1048576):M.rj a a=some true:=by
 have hl:=cw ah.sz a;have hn:a.length<=1048576:=by omega
 unfold M.rj;refine oz (F:=M.nr  a a) a hn (fun f k hk=>?_) (fun f=>?_)
 ·rw[M.nr];have e:=aac a[k] (by have:=dC ah.sz a a[k] (List.getElem_mem hk);omega);simp[hk,getD_lt hk,e,bn hk (dw hn)]
 ·rw[M.nr];simp
theorem aaf(a:ae)(h:a.sz<=1048576):M.tn a=some a:=by
 unfold M.tn;have hs:=ae.bX a
 skip
 try simp[]
theorem aag(a:ae)(h:a.sz<=1048576):M.qX a a=some true:=by
 unfold M.qX;have hs:=ae.bX a
 skip
 try simp[]
theorem aah(a:List ae)(left:Int)(ok:d6 ae.Ok a)(h0:0<=left)(h1:left<=1048576):M.qp a left=some (if(aH ae.sz a:Int)<=left then left-aH ae.sz a else -1):=by
 have hl:=ok.1;unfold M.qp;rw[wrap_i64 (by omega) (by omega)];exact uT (f:=ae.sz) (fun _=>rfl) a left h0
theorem aai(a:List ae)(ha:aH ae.sz a<=1048576):M.qA a=some a:=by
 have hl:=cw ae.sz a;have hn:a.length<=1048576:=by omega
 have hi:(a.length:Int)<=1073741824:=by omega
 have q:∀z,z.length=a.length->M.lh  a Go.V.ak 0 z=some a:=oy (F:=M.lh  a) a (by omega) (fun f k out h1 h2 hk=>by
  rw[M.lh];have e:=aaf a[k] (by have:=dC ae.sz a a[k] (List.getElem_mem hk);omega);simp[hk,h2,getD_lt hk,e,bn hk (dw hn)]) (fun f out=>by rw[M.lh];simp)
 unfold M.qA;rw[q _ (by simp)];simp[hi]
theorem aaj(a:List ae)(ha:aH ae.sz a<=1048576):M.qY a a=some true:=by
 have hl:=cw ae.sz a;have hn:a.length<=1048576:=by omega
 unfold M.qY;refine oz (F:=M.nj  a a) a hn (fun f k hk=>?_) (fun f=>?_)
 ·rw[M.nj];have e:=aag a[k] (by have:=dC ae.sz a a[k] (List.getElem_mem hk);omega);simp[hk,getD_lt hk,e,bn hk (dw hn)]
 ·rw[M.nj];simp
theorem aak(a:aB)(h:a.sz<=1048576):M.tq a=some a:=by
 unfold M.tq;have hs:=aB.bX a
 skip
 try simp[]
theorem aal(a:aB)(h:a.sz<=1048576):M.rk a a=some true:=by
 unfold M.rk;have hs:=aB.bX a
 skip
 try simp[]
theorem TY(a:List aB)(left:Int)(ok:d6 aB.Ok a)(h0:0<=left)(h1:left<=1048576):M.qz a left=some (if(aH aB.sz a:Int)<=left then left-aH aB.sz a else -1):=by
 have hl:=ok.1;unfold M.qz;rw[wrap_i64 (by omega) (by omega)];exact uT (f:=aB.sz) (fun _=>rfl) a left h0
theorem T0(a:List aB)(ha:aH aB.sz a<=1048576):M.qI a=some a:=by
 have hl:=cw aB.sz a;have hn:a.length<=1048576:=by omega
 have hi:(a.length:Int)<=1073741824:=by omega
 have q:∀z,z.length=a.length->M.lq  a Go.V.ak 0 z=some a:=oy (F:=M.lq  a) a (by omega) (fun f k out h1 h2 hk=>by
  rw[M.lq];have e:=aak a[k] (by have:=dC aB.sz a a[k] (List.getElem_mem hk);omega);simp[hk,h2,getD_lt hk,e,bn hk (dw hn)]) (fun f out=>by rw[M.lq];simp)
 unfold M.qI;rw[q _ (by simp)];simp[hi]
theorem T8(a:List aB)(ha:aH aB.sz a<=1048576):M.rl a a=some true:=by
 have hl:=cw aB.sz a;have hn:a.length<=1048576:=by omega
 unfold M.rl;refine oz (F:=M.nt  a a) a hn (fun f k hk=>?_) (fun f=>?_)
 ·rw[M.nt];have e:=aal a[k] (by have:=dC aB.sz a a[k] (List.getElem_mem hk);omega);simp[hk,getD_lt hk,e,bn hk (dw hn)]
 ·rw[M.nt];simp
theorem aam(a:aa)(left:Int)(ok:a.Ok)(h0:0<=left)(h1:left<=1048576):M.qq a left=some (if(a.sz:Int)<=left then left-a.sz else -1):=by
 unfold M.qq;have hs:=aa.bX a;have ok1:=(aa.ok_eq a).1 ok
 skip
 have e0:=aah (a.Entries) (left) ok1.2.1 (by omega) (by omega);by_cases c0:((aH ae.sz (a.Entries):Nat):Int)<=left
 ·rw[if_pos c0]at e0;have n0:¬(left-((aH ae.sz (a.Entries):Nat):Int)<0):=by omega
  have q:(a.sz:Int)<=left:=by rw[hs]<;>push_cast<;>omega
  have q2:left-(a.sz:Int)=left-((aH ae.sz (a.Entries):Nat):Int):=by rw[hs]<;>push_cast<;>omega
  rw[if_pos q,q2];simp[e0,n0]
 ·rw[if_neg c0]at e0;have q:¬((a.sz:Int)<=left):=by rw[hs]<;>push_cast<;>omega
  rw[if_neg q];simp[e0]
theorem aan(a:aa)(h:a.sz<=1048576):M.qB a=some (a.Next,a.Entries):=by
 unfold M.qB;have hs:=aa.bX a
 skip
 have e1:=aai (a.Entries) (by omega)
 try simp[e1]
theorem aao(a:aa)(h:a.sz<=1048576):M.qZ a a=some true:=by
 unfold M.qZ;have hs:=aa.bX a
 skip
 have e1:=aaj (a.Entries) (by omega)
 try simp[e1]
theorem aap(a:List aa)(left:Int)(ok:d6 aa.Ok a)(h0:0<=left)(h1:left<=1048576):M.qs a left=some (if(aH aa.sz a:Int)<=left then left-aH aa.sz a else -1):=by
 have hl:=ok.1;unfold M.qs;rw[wrap_i64 (by omega) (by omega)];refine Ff (f:=aa.sz) (F:=M.nc  a) a left h0 h1 (fun g k l h2 h3 hk=>?_) (fun g l=>?_)
 ·have hn:k<2^62:=by omega
  rw[M.nc];have e:=aam a[k] l (ok.2 _ (List.getElem_mem hk)) h2 (by omega);by_cases d:((aa.sz a[k]:Nat):Int)<=l
  ·have n:¬(l-((aa.sz a[k]:Nat):Int)<0):=by omega
   rw[if_pos d]at e⊢;simp[hk,getD_lt hk,e,n,bn hk (show a.length<2^62 by omega)]
  ·rw[if_neg d]at e⊢;simp[hk,getD_lt hk,e]
 ·rw[M.nc];simp
theorem aaq(a:List aa)(ha:aH aa.sz a<=1048576):M.qC a=some a:=by
 have hl:=cw aa.sz a;have hn:a.length<=1048576:=by omega
 have hi:(a.length:Int)<=1073741824:=by omega
 have q:∀z,z.length=a.length->M.lj  a Go.V.ak 0 z=some a:=oy (F:=M.lj  a) a (by omega) (fun f k out h1 h2 hk=>by
  rw[M.lj];have e:=aan a[k] (by have:=dC aa.sz a a[k] (List.getElem_mem hk);omega);simp[hk,h2,getD_lt hk,e,bn hk (dw hn)]) (fun f out=>by rw[M.lj];simp)
 unfold M.qC;rw[q _ (by simp)];simp[hi]
theorem TR(a:List aa)(ha:aH aa.sz a<=1048576):M.re a a=some true:=by
 have hl:=cw aa.sz a;have hn:a.length<=1048576:=by omega
 unfold M.re;refine oz (F:=M.nk  a a) a hn (fun f k hk=>?_) (fun f=>?_)
 ·rw[M.nk];have e:=aao a[k] (by have:=dC aa.sz a a[k] (List.getElem_mem hk);omega);simp[hk,getD_lt hk,e,bn hk (dw hn)]
 ·rw[M.nk];simp
theorem aar(a:ai)(h:a.sz<=1048576):M.tp a=some a:=by
 unfold M.tp;have hs:=ai.bX a
 skip
 try simp[]
theorem aas(a:ai)(h:a.sz<=1048576):M.rf a a=some true:=by
 unfold M.rf;have hs:=ai.bX a
 skip
 try simp[]
theorem aat(a:List ai)(left:Int)(ok:d6 ai.Ok a)(h0:0<=left)(h1:left<=1048576):M.qt a left=some (if(aH ai.sz a:Int)<=left then left-aH ai.sz a else -1):=by
 have hl:=ok.1;unfold M.qt;rw[wrap_i64 (by omega) (by omega)];exact uT (f:=ai.sz) (fun _=>rfl) a left h0
theorem aau(a:List ai)(ha:aH ai.sz a<=1048576):M.qD a=some a:=by
 have hl:=cw ai.sz a;have hn:a.length<=1048576:=by omega
 have hi:(a.length:Int)<=1073741824:=by omega
 have q:∀z,z.length=a.length->M.lk  a Go.V.ak 0 z=some a:=oy (F:=M.lk  a) a (by omega) (fun f k out h1 h2 hk=>by
  rw[M.lk];have e:=aar a[k] (by have:=dC ai.sz a a[k] (List.getElem_mem hk);omega);simp[hk,h2,getD_lt hk,e,bn hk (dw hn)]) (fun f out=>by rw[M.lk];simp)
 unfold M.qD;rw[q _ (by simp)];simp[hi]
theorem TS(a:List ai)(ha:aH ai.sz a<=1048576):M.rh a a=some true:=by
 have hl:=cw ai.sz a;have hn:a.length<=1048576:=by omega
 unfold M.rh;refine oz (F:=M.nn  a a) a hn (fun f k hk=>?_) (fun f=>?_)
 ·rw[M.nn];have e:=aas a[k] (by have:=dC ai.sz a a[k] (List.getElem_mem hk);omega);simp[hk,getD_lt hk,e,bn hk (dw hn)]
 ·rw[M.nn];simp
theorem aav(a:av)(left:Int)(ok:a.Ok)(h0:0<=left)(h1:left<=1048576):M.qu a left=some (if(a.sz:Int)<=left then left-a.sz else -1):=by
 unfold M.qu;have hs:=av.bX a;have ok1:=(av.ok_eq a).1 ok
 skip
 have e0:=aap (a.Tables) (left) ok1.2.1 (by omega) (by omega);by_cases c0:((aH aa.sz (a.Tables):Nat):Int)<=left
 ·rw[if_pos c0]at e0;have n0:¬(left-((aH aa.sz (a.Tables):Nat):Int)<0):=by omega
  have e1:=aat (a.aA) (left-((aH aa.sz (a.Tables):Nat):Int)) ok1.2.2.1 (by omega) (by omega);by_cases c1:((aH ai.sz (a.aA):Nat):Int)<=left-((aH aa.sz (a.Tables):Nat):Int)
  ·rw[if_pos c1]at e1;have n1:¬(left-((aH aa.sz (a.Tables):Nat):Int)-((aH ai.sz (a.aA):Nat):Int)<0):=by omega
   have q:(a.sz:Int)<=left:=by rw[hs]<;>push_cast<;>omega
   have q2:left-(a.sz:Int)=left-((aH aa.sz (a.Tables):Nat):Int)-((aH ai.sz (a.aA):Nat):Int):=by rw[hs]<;>push_cast<;>omega
   rw[if_pos q,q2];simp[e0,n0,e1,n1]
  ·rw[if_neg c1]at e1;have q:¬((a.sz:Int)<=left):=by rw[hs]<;>push_cast<;>omega
   rw[if_neg q];simp[e0,n0,e1]
 ·rw[if_neg c0]at e0;have q:¬((a.sz:Int)<=left):=by rw[hs]<;>push_cast<;>omega
  rw[if_neg q];simp[e0]
theorem aaw(a:av)(h:a.sz<=1048576):M.qE a=some (a.Next,a.Tables,a.aA):=by
 unfold M.qE;have hs:=av.bX a
 skip
 have e1:=aaq (a.Tables) (by omega);have e2:=aau (a.aA) (by omega)
 try simp[e1,e2]
theorem TX(a:af)(left:Int)(ok:a.Ok)(h0:0<=left)(h1:left<=1048576):M.qy a left=some (if(a.sz:Int)<=left then left-a.sz else -1):=by
 unfold M.qy;have hs:=af.bX a;have ok1:=(af.ok_eq a).1 ok
 skip
 have e0:=aav (a.Shelf) (left) ok1.1 (by omega) (by omega);by_cases c0:(((a.Shelf).sz:Nat):Int)<=left
 ·rw[if_pos c0]at e0;have n0:¬(left-(((a.Shelf).sz:Nat):Int)<0):=by omega
  have e1:=aad (a.Stack) (left-(((a.Shelf).sz:Nat):Int)) ok1.2.1 (by omega) (by omega);by_cases c1:((aH ah.sz (a.Stack):Nat):Int)<=left-(((a.Shelf).sz:Nat):Int)
  ·rw[if_pos c1]at e1;have n1:¬(left-(((a.Shelf).sz:Nat):Int)-((aH ah.sz (a.Stack):Nat):Int)<0):=by omega
   have e2:=MY (a.Dead) (left-(((a.Shelf).sz:Nat):Int)-((aH ah.sz (a.Stack):Nat):Int)) ok1.2.2.2.1 (by omega) (by omega);by_cases c2:((aH (fun _=>0) (a.Dead):Nat):Int)<=left-(((a.Shelf).sz:Nat):Int)-((aH ah.sz (a.Stack):Nat):Int)
   ·rw[if_pos c2]at e2;have n2:¬(left-(((a.Shelf).sz:Nat):Int)-((aH ah.sz (a.Stack):Nat):Int)-((aH (fun _=>0) (a.Dead):Nat):Int)<0):=by omega
    have q:(a.sz:Int)<=left:=by rw[hs]<;>push_cast<;>omega
    have q2:left-(a.sz:Int)=left-(((a.Shelf).sz:Nat):Int)-((aH ah.sz (a.Stack):Nat):Int)-((aH (fun _=>0) (a.Dead):Nat):Int):=by rw[hs]<;>push_cast<;>omega
    rw[if_pos q,q2];simp[e0,n0,e1,n1,e2,n2]
   ·rw[if_neg c2]at e2;have q:¬((a.sz:Int)<=left):=by rw[hs]<;>push_cast<;>omega
    rw[if_neg q];simp[e0,n0,e1,n1,e2]
  ·rw[if_neg c1]at e1;have q:¬((a.sz:Int)<=left):=by rw[hs]<;>push_cast<;>omega
   rw[if_neg q];simp[e0,n0,e1]
 ·rw[if_neg c0]at e0;have q:¬((a.sz:Int)<=left):=by rw[hs]<;>push_cast<;>omega
  rw[if_neg q];simp[e0]
theorem TZ(a:af)(h:a.sz<=1048576):M.qH a=some (a.Shelf.Next,a.Next,a.Shelf.Tables,a.Shelf.aA,a.Stack,a.Dead):=by
 unfold M.qH;have hs:=af.bX a
 skip
 have e0:=aaw (a.Shelf) (by omega);have e1:=aae (a.Stack) (by omega);have e3:=MZ (a.Dead) (by omega)
 try simp[e0,e1,e3]
end M
