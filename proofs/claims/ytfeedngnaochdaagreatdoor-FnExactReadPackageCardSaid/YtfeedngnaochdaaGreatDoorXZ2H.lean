/-
  Part of the proof of the claim.
-/
import Derived.Test.YtfeedngnaochdaaGreatDoorXZ2M
import Derived.Test.YtfeedngnaochdaaGreatDoorXXlaw
import Derived.Test.YtfeedngnaochdaaGreatDoorXXpl
set_option linter.unusedVariables false
set_option linter.unusedSimpArgs false
namespace M
def lF(s:List UInt8):Prop:=s.length<=9223372036854775807
def ud{α:Type}(p:α->Prop)(l:List α):Prop:=l.length<=9223372036854775807/\∀x∈l,p x
def bh.sz(a:bh):Nat:=(a.dw).length+(a.Name).length+(a.Version).length
theorem bh.ct(a:bh):a.sz=(a.dw).length+(a.Name).length+(a.Version).length:=rfl
def bh.Ok(a:bh):Prop:=lF (a.dw)/\lF (a.Name)/\lF (a.Version)/\True
mutual
def aa.sz:aa->Nat
 |.mk v0 v1 v2 v3=>(v1).length+aV List.length (v2)+aa.Dm v3
def aa.Dm:List aa->Nat
 |[]=>0
 |t::r=>aa.sz t+1+aa.Dm r
end
theorem aa.GZ:∀l:List aa,aa.Dm l=aV aa.sz l
 |[]=>rfl
 |t::r=>by simp only[aa.Dm,aV,aa.GZ r]
theorem aa.ct(a:aa):a.sz=(a.Name).length+aV List.length (a.bA)+aV aa.sz (a.Kids):=by cases a;simp only[aa.sz,aa.GZ];rfl
mutual
def aa.Ok:aa->Prop
 |.mk v0 v1 v2 v3=>I64 (v0)/\lF (v1)/\ud lF (v2)/\(v3.length<=9223372036854775807/\aa.zr v3)/\True
def aa.zr:List aa->Prop
 |[]=>True
 |t::r=>aa.Ok t/\aa.zr r
end
def aA.sz(a:aA):Nat:=(a.Name).length+(a.Term).sz
theorem aA.ct(a:aA):a.sz=(a.Name).length+(a.Term).sz:=rfl
def aA.Ok(a:aA):Prop:=lF (a.Name)/\aa.Ok (a.Term)/\True
def aH.sz(a:aH):Nat:=(a.Name).length+(a.As).length
theorem aH.ct(a:aH):a.sz=(a.Name).length+(a.As).length:=rfl
def aH.Ok(a:aH):Prop:=lF (a.Name)/\lF (a.As)/\True
def ak.sz(a:ak):Nat:=(a.Name).length+(a.Term).sz+aV aA.sz (a.Params)+(a.From).sz+aV aH.sz (a.Uses)
theorem ak.ct(a:ak):a.sz=(a.Name).length+(a.Term).sz+aV aA.sz (a.Params)+(a.From).sz+aV aH.sz (a.Uses):=rfl
def ak.Ok(a:ak):Prop:=I64 (a.Kind)/\lF (a.Name)/\aa.Ok (a.Term)/\ud aA.Ok (a.Params)/\True/\bh.Ok (a.From)/\ud aH.Ok (a.Uses)/\True
def aC.sz(a:aC):Nat:=(a.Name).length+aV ak.sz (a.Items)
theorem aC.ct(a:aC):a.sz=(a.Name).length+aV ak.sz (a.Items):=rfl
def aC.Ok(a:aC):Prop:=lF (a.Name)/\ud ak.Ok (a.Items)/\True
def aG.sz(a:aG):Nat:=(a.Path).sz
theorem aG.ct(a:aG):a.sz=(a.Path).sz:=rfl
def aG.Ok(a:aG):Prop:=I64 (a.Kind)/\bh.Ok (a.Path)/\True
def aL.sz(a:aL):Nat:=(a.Name).length+aV aG.sz (a.Items)
theorem aL.ct(a:aL):a.sz=(a.Name).length+aV aG.sz (a.Items):=rfl
def aL.Ok(a:aL):Prop:=lF (a.Name)/\ud aG.Ok (a.Items)/\True
def bf.sz(a:bf):Nat:=(a.Name).length+(a.Version).length+aV aC.sz (a.cY)+aV aL.sz (a.Worlds)
theorem bf.ct(a:bf):a.sz=(a.Name).length+(a.Version).length+aV aC.sz (a.cY)+aV aL.sz (a.Worlds):=rfl
def bf.Ok(a:bf):Prop:=lF (a.Name)/\lF (a.Version)/\ud aC.Ok (a.cY)/\ud aL.Ok (a.Worlds)/\True
theorem bh.iE(a:bh)(h:∀m,Go.V.kT m .Path a):a.Ok:=⟨(h 0).1,(h 0).2.1,(h 0).2.2.1,trivial⟩
mutual
theorem aa.iE:∀(a:aa),(∀m,Go.V.kT m .Term a)->a.Ok
 |.mk v0 v1 v2 v3,h=>by
   simp only[aa.Ok];exact⟨(h 0).1,(h 0).2.1,⟨((h 0).2.2.1).1,fun y hy=>((fun m=>((h (m+1)).2.2.1).2 y hy) 0).1⟩,⟨((h 0).2.2.2.1).1,(aa.Vv _ fun y hy m=>((h (m+1)).2.2.2.1).2 y hy)⟩,trivial⟩
theorem aa.Vv:∀(l:List aa),(∀y∈l,∀m,Go.V.kT m .Term y)->aa.zr l
 |[],_=>by simp only[aa.zr]
 |t::r,h=>by
  simp only[aa.zr];exact⟨aa.iE t (h t (by simp)),aa.Vv r fun y hy=>h y (by simp[hy])⟩
end
theorem aA.iE(a:aA)(h:∀m,Go.V.kT m .df a):a.Ok:=⟨(h 0).1,(aa.iE (a.Term) (fun m=>by cases m with|zero=>exact⟨(h 0).2.1,(h 0).2.2.1,(h 0).2.2.2.1,(h 0).2.2.2.2.1,trivial⟩|succ m=>exact⟨(h (m+1)).2.1,(h (m+1)).2.2.1,(h (m+1)).2.2.2.1,(h (m+1)).2.2.2.2.1,trivial⟩)),trivial⟩
theorem aH.iE(a:aH)(h:∀m,Go.V.kT m .du a):a.Ok:=⟨(h 0).1,(h 0).2.1,trivial⟩
theorem ak.iE(a:ak)(h:∀m,Go.V.kT m .Item a):a.Ok:=⟨(h 0).1,(h 0).2.1,(aa.iE (a.Term) (fun m=>by cases m with|zero=>exact⟨(h 0).2.2.1,(h 0).2.2.2.1,(h 0).2.2.2.2.1,(h 0).2.2.2.2.2.1,trivial⟩|succ m=>exact⟨(h (m+1)).2.2.1,(h (m+1)).2.2.2.1,(h (m+1)).2.2.2.2.1,(h (m+1)).2.2.2.2.2.1,trivial⟩)),⟨((h 0).2.2.2.2.2.2.1).1,fun y hy=>aA.iE y (fun m=>((h (m+1)).2.2.2.2.2.2.1).2 y hy)⟩,trivial,(bh.iE (a.From) (fun m=>by cases m with|zero=>exact⟨(h 0).2.2.2.2.2.2.2.2.1,(h 0).2.2.2.2.2.2.2.2.2.1,(h 0).2.2.2.2.2.2.2.2.2.2.1,trivial⟩|succ m=>exact⟨(h (m+1)).2.2.2.2.2.2.2.2.1,(h (m+1)).2.2.2.2.2.2.2.2.2.1,(h (m+1)).2.2.2.2.2.2.2.2.2.2.1,trivial⟩)),⟨((h 0).2.2.2.2.2.2.2.2.2.2.2.1).1,fun y hy=>aH.iE y (fun m=>((h (m+1)).2.2.2.2.2.2.2.2.2.2.2.1).2 y hy)⟩,trivial⟩
theorem aC.iE(a:aC)(h:∀m,Go.V.kT m .cE a):a.Ok:=⟨(h 0).1,⟨((h 0).2.1).1,fun y hy=>ak.iE y (fun m=>((h (m+1)).2.1).2 y hy)⟩,trivial⟩
theorem aG.iE(a:aG)(h:∀m,Go.V.kT m .dR a):a.Ok:=⟨(h 0).1,(bh.iE (a.Path) (fun m=>by cases m with|zero=>exact⟨(h 0).2.1,(h 0).2.2.1,(h 0).2.2.2.1,trivial⟩|succ m=>exact⟨(h (m+1)).2.1,(h (m+1)).2.2.1,(h (m+1)).2.2.2.1,trivial⟩)),trivial⟩
theorem aL.iE(a:aL)(h:∀m,Go.V.kT m .cZ a):a.Ok:=⟨(h 0).1,⟨((h 0).2.1).1,fun y hy=>aG.iE y (fun m=>((h (m+1)).2.1).2 y hy)⟩,trivial⟩
theorem bf.iE(a:bf)(h:∀m,Go.V.kT m .dw a):a.Ok:=⟨(h 0).1,(h 0).2.1,⟨((h 0).2.2.1).1,fun y hy=>aC.iE y (fun m=>((h (m+1)).2.2.1).2 y hy)⟩,⟨((h 0).2.2.2.1).1,fun y hy=>aL.iE y (fun m=>((h (m+1)).2.2.2.1).2 y hy)⟩,trivial⟩
theorem ag9(a:List (List UInt8))(ha:aV List.length a<=1048576):M.y9 a a=some true:=by
 have hl:=de List.length a;have hn:a.length<=1048576:=by omega
 unfold M.y9;refine qV (F:=M.ua  a a) a hn (fun f k hk=>?_) (fun f=>?_)
 ·rw[M.ua];simp[hk,getD_lt hk,dB hk (fc hn)]
 ·rw[M.ua];simp
theorem Vw(a:bh)(h:a.sz<=1048576):M.tR a a=some true:=by
 unfold M.tR;have hs:=bh.ct a
 try simp only[aa.bq,aA.bq,ak.bq]
 try simp[]
theorem aha(r:aa->aa->Option Bool)(a:List aa)(ha:a.length<=1048576)(hr:∀x∈a,r x x=some true):M.y8 r a a=some true:=by
 have hn:a.length<=1048576:=by omega
 unfold M.y8;refine qV (F:=M.tO r  a a) a hn (fun f k hk=>?_) (fun f=>?_)
 ·rw[M.tO];have e:=hr a[k] (eH hk);simp[hk,getD_lt hk,e,dB hk (fc hn),aa.bq,aA.bq,ak.bq]
 ·rw[M.tO];simp
theorem Vx:∀(n:Nat)(a:aa),a.sz<n->a.sz<=1048576->M.tP n a a=some true
 |0,a,h2,h=>by omega
 |n+1,a,h2,h=>by
  show M.BE (M.tP n) a a=_
  unfold M.BE;have hs:=aa.ct a
  try simp only[aa.bq,aA.bq,ak.bq]
  have e2:=ag9 (a.bA) (by omega);have hk3:=de aa.sz (a.Kids);have e3:=aha (M.tP n) (a.Kids) (by omega) (fun x hx=>Vx n x (by have:=gh aa.sz (a.Kids) x hx;have:=Bq aa.sz (a.Kids) x hx;omega) (by have:=gh aa.sz (a.Kids) x hx;omega))
  try simp[e2,e3,aa.eta]
theorem Vy(a:aa)(h:a.sz<=1048576):M.we a a=some true:=
 Vx _ a (by have:=Go.V.bB;omega) h
theorem ahb(a:aA)(h:a.sz<=1048576):M.za a a=some true:=by
 unfold M.za;have hs:=aA.ct a
 try simp only[aa.bq,aA.bq,ak.bq]
 have e1:=Vy (a.Term) (by omega)
 try simp[e1]
theorem ahc(a:List aA)(ha:aV aA.sz a<=1048576):M.zb a a=some true:=by
 have hl:=de aA.sz a;have hn:a.length<=1048576:=by omega
 unfold M.zb;refine qV (F:=M.tQ  a a) a hn (fun f k hk=>?_) (fun f=>?_)
 ·rw[M.tQ];have e:=ahb a[k] (by have:=gh aA.sz a a[k] (eH hk);omega);simp[hk,getD_lt hk,e,dB hk (fc hn),aa.bq,aA.bq,ak.bq]
 ·rw[M.tQ];simp
theorem ahd(a:aH)(h:a.sz<=1048576):M.zc a a=some true:=by
 unfold M.zc;have hs:=aH.ct a
 try simp only[aa.bq,aA.bq,ak.bq]
 try simp[]
theorem ahe(a:List aH)(ha:aV aH.sz a<=1048576):M.zd a a=some true:=by
 have hl:=de aH.sz a;have hn:a.length<=1048576:=by omega
 unfold M.zd;refine qV (F:=M.tU  a a) a hn (fun f k hk=>?_) (fun f=>?_)
 ·rw[M.tU];have e:=ahd a[k] (by have:=gh aH.sz a a[k] (eH hk);omega);simp[hk,getD_lt hk,e,dB hk (fc hn),aa.bq,aA.bq,ak.bq]
 ·rw[M.tU];simp
theorem ahf(a:ak)(h:a.sz<=1048576):M.ze a a=some true:=by
 unfold M.ze;have hs:=ak.ct a
 try simp only[aa.bq,aA.bq,ak.bq]
 have e2:=Vy (a.Term) (by omega);have e3:=ahc (a.Params) (by omega);have e5:=Vw (a.From) (by omega);have e6:=ahe (a.Uses) (by omega)
 try simp[e2,e3,e5,e6]
theorem ahg(a:List ak)(ha:aV ak.sz a<=1048576):M.zf a a=some true:=by
 have hl:=de ak.sz a;have hn:a.length<=1048576:=by omega
 unfold M.zf;refine qV (F:=M.tV  a a) a hn (fun f k hk=>?_) (fun f=>?_)
 ·rw[M.tV];have e:=ahf a[k] (by have:=gh ak.sz a a[k] (eH hk);omega);simp[hk,getD_lt hk,e,dB hk (fc hn),aa.bq,aA.bq,ak.bq]
 ·rw[M.tV];simp
theorem ahh(a:aC)(h:a.sz<=1048576):M.zg a a=some true:=by
 unfold M.zg;have hs:=aC.ct a
 try simp only[aa.bq,aA.bq,ak.bq]
 have e1:=ahg (a.Items) (by omega)
 try simp[e1]
theorem ahi(a:List aC)(ha:aV aC.sz a<=1048576):M.zh a a=some true:=by
 have hl:=de aC.sz a;have hn:a.length<=1048576:=by omega
 unfold M.zh;refine qV (F:=M.tX  a a) a hn (fun f k hk=>?_) (fun f=>?_)
 ·rw[M.tX];have e:=ahh a[k] (by have:=gh aC.sz a a[k] (eH hk);omega);simp[hk,getD_lt hk,e,dB hk (fc hn),aa.bq,aA.bq,ak.bq]
 ·rw[M.tX];simp
theorem ahj(a:aG)(h:a.sz<=1048576):M.zi a a=some true:=by
 unfold M.zi;have hs:=aG.ct a
 try simp only[aa.bq,aA.bq,ak.bq]
 have e1:=Vw (a.Path) (by omega)
 try simp[e1]
theorem ahk(a:List aG)(ha:aV aG.sz a<=1048576):M.zj a a=some true:=by
 have hl:=de aG.sz a;have hn:a.length<=1048576:=by omega
 unfold M.zj;refine qV (F:=M.tY  a a) a hn (fun f k hk=>?_) (fun f=>?_)
 ·rw[M.tY];have e:=ahj a[k] (by have:=gh aG.sz a a[k] (eH hk);omega);simp[hk,getD_lt hk,e,dB hk (fc hn),aa.bq,aA.bq,ak.bq]
 ·rw[M.tY];simp
theorem ahl(a:aL)(h:a.sz<=1048576):M.zk a a=some true:=by
 unfold M.zk;have hs:=aL.ct a
 try simp only[aa.bq,aA.bq,ak.bq]
 have e1:=ahk (a.Items) (by omega)
 try simp[e1]
theorem ahm(a:List aL)(ha:aV aL.sz a<=1048576):M.zl a a=some true:=by
 have hl:=de aL.sz a;have hn:a.length<=1048576:=by omega
 unfold M.zl;refine qV (F:=M.tZ  a a) a hn (fun f k hk=>?_) (fun f=>?_)
 ·rw[M.tZ];have e:=ahl a[k] (by have:=gh aL.sz a a[k] (eH hk);omega);simp[hk,getD_lt hk,e,dB hk (fc hn),aa.bq,aA.bq,ak.bq]
 ·rw[M.tZ];simp
theorem abB(a:bf)(h:a.sz<=1048576):M.zm a a=some true:=by
 unfold M.zm;have hs:=bf.ct a
 try simp only[aa.bq,aA.bq,ak.bq]
 have e2:=ahi (a.cY) (by omega);have e3:=ahm (a.Worlds) (by omega)
 try simp[e2,e3]
end M
