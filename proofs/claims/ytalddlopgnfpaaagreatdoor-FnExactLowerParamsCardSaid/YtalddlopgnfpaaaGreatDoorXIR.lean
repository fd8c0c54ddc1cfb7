/-
  THE LAWS' HELPERS on lists of types, of values, of numbers.
-/
import Derived.Test.YtalddlopgnfpaaaGreatDoorXIQ
import Derived.Test.YtalddlopgnfpaaaGreatDoorXIMK
set_option linter.unusedVariables false
set_option linter.unusedSimpArgs false
namespace M
open Go.V (inB bV ah cC)
theorem alW(a:List aa)(l:Int):M.xZ a l=M.pB M.tP a l:=by
 have h:∀(f:Nat)(l i:Int),M.xY a f l i=M.pA M.tP a f l i:=fun f=>by
  induction f with
  |zero=>intro l i;rfl
  |succ f ih=>intro l i;rw[M.xY,M.pA];simp only[ih]
 unfold M.xZ M.pB;simp only[h]
theorem alX(a:List ae)(l:Int):M.x6 a l=M.pU M.uy a l:=by
 have h:∀(f:Nat)(l i:Int),M.x5 a f l i=M.pT M.uy a f l i:=fun f=>by
  induction f with
  |zero=>intro l i;rfl
  |succ f ih=>intro l i;rw[M.x5,M.pT];simp only[ih]
 unfold M.x6 M.pU;simp only[h]
theorem alY(a:List aa):M.uO a=M.pC M.tR a:=by
 have h:∀(f:Nat)(i:Int)(o:List aa),M.x7 a f i o=M.nB M.tR a f i o:=fun f=>by
  induction f with
  |zero=>intro i o;rfl
  |succ f ih=>intro i o;rw[M.x7,M.nB];simp only[ih]
 unfold M.uO M.pC;simp only[h]
theorem alZ(a:List ae):M.uP a=M.pV M.uA a:=by
 have h:∀(f:Nat)(i:Int)(o:List ae),M.x8 a f i o=M.nQ M.uA a f i o:=fun f=>by
  induction f with
  |zero=>intro i o;rfl
  |succ f ih=>intro i o;rw[M.x8,M.nQ];simp only[ih]
 unfold M.uP M.pV;simp only[h]
theorem al0(a b:List aa):M.uR a b=M.pE M.tW a b:=by
 have h:∀(f:Nat)(i:Int),M.yb a b f i=M.pD M.tW a b f i:=fun f=>by
  induction f with
  |zero=>intro i;rfl
  |succ f ih=>intro i;rw[M.yb,M.pD];simp only[ih]
 unfold M.uR M.pE;simp only[h]
theorem al1(a b:List ae):M.uS a b=M.pz M.tI a b:=by
 have h:∀(f:Nat)(i:Int),M.yc a b f i=M.py M.tI a b f i:=fun f=>by
  induction f with
  |zero=>intro i;rfl
  |succ f ih=>intro i;rw[M.yc,M.py];simp only[ih]
 unfold M.uS M.pz;simp only[h]
theorem al2(a:List Int)(hn:a.length<=1048576*4):M.v8 a a=some true:=by
 unfold M.v8;have:=Ku (F:=M.tJ a a) (n:=a.length) (y:=some (.inr ())) (by omega) (fun f k hk=>by
  rw[M.tJ];simp[hk,getD_lt hk,cm hk (by omega:a.length<2^62)]) (fun f=>by rw[M.tJ];simp)
 rw[this];simp
theorem al3{m:aB}(h:m.sz<=1048576):m.Bytes.length<=1048576/\m.Free.length<=1048576:=by
 have:=aB.dW m;have:=ed af.sz m.Free;omega
theorem al4{B:List UInt8}{F:List af}(h1:B.length<=4096)(h2:F.length<=4096):M.qk (M.aB.mk B F) (M.aB.mk B F)=some true:=by
 refine Ww _ ?_;rw[aB.dW];have:aR af.sz F=F.length:=by
  clear h2
  induction F with
  |nil=>rfl
  |cons x r ih=>simp only[aR,ih,af.dW,bX];omega
 show B.length+aR af.sz F<=_
 omega
end M
namespace M
open Go Go.V
theorem ajD(m:aB)(enc:Int)(ts:List aa)(vs:List ae)(hm:m.Ok)(ht:jC aa.Ok ts)(hv:jC ae.Ok vs):M.ql m enc ts vs=some true:=by
 have s0:=ajm m 1048576 hm (by omega) (by omega);by_cases h0:(m.sz:Int)<=1048576
 ·rw[av h0]at s0;have d0:decide (1048576-(m.sz:Int)<0)=false:=bU (by omega);have s1:=ajp ts (1048576-(m.sz:Int)) ht (by omega) (by omega);rw[<-alW]at s1;by_cases h1:(aR aa.sz ts:Int)<=1048576-(m.sz:Int)
  ·rw[av h1]at s1;have d1:decide (1048576-(m.sz:Int)-(aR aa.sz ts:Int)<0)=false:=bU (by omega);have s2:=ajv vs (1048576-(m.sz:Int)-(aR aa.sz ts:Int)) hv (by omega) (by omega);rw[<-alX]at s2;by_cases h2:(aR ae.sz vs:Int)<=1048576-(m.sz:Int)-(aR aa.sz ts:Int)
   ·rw[av h2]at s2;have d2:decide (1048576-(m.sz:Int)-(aR aa.sz ts:Int)-(aR ae.sz vs:Int)<0)=false:=bU (by omega);have hmz:m.sz<=1048576:=by omega
    have htz:aR aa.sz ts<=1048576:=by omega
    have Bf:aR ae.sz vs<=1048576:=by omega
    obtain⟨hB,hF⟩:=al3 hmz;obtain⟨b1,b2,b3⟩:=alV m enc ts vs;have e3:M.uM (M.aB.mk m.Bytes m.Free) enc ts vs=_:=alO m enc ts vs hB hF htz Bf;have e4:M.uN (M.aB.mk m.Bytes m.Free) enc ts vs=_:=alT m enc ts vs hB hF htz Bf;generalize mh m enc ts vs=R at*;have k1:=KH m.Free 1;have k2:=ak7 ts (bz eC 1 m.Free).1;have k3:=ala vs (bz iu (bz eC 1 m.Free).1 ts).1;have k4:=KH R.2.2.1 1;have k5:=alc R.2.2.2 (bz eC 1 R.2.2.1).1;have e5:M.qk (M.aB.mk m.Bytes m.Free) (M.aB.mk m.Bytes m.Free)=some true:=Ww m hmz;have e6:=ajn m hmz;have e7:M.uO ts=some ts:=by rw[alY,ajr ts htz]
    have e8:M.uP vs=some vs:=by rw[alZ,ajx vs Bf]
    have e9:M.uR ts ts=some true:=by rw[al0,ajt ts htz]
    have ea:M.uS vs vs=some true:=by rw[al1,ajz vs Bf]
    have eb:=al4 b1 b2;have ec:=al2 R.2.2.2 (by omega);have f1:=X1 m.Bytes m.Free hF 1 (by omega) (by omega);have f2:=ak8 ts (bz eC 1 m.Free).1 htz (by omega) (by omega);have f3:=alb vs (bz iu (bz eC 1 m.Free).1 ts).1 Bf (by omega) (by omega);have f4:=X1 R.1 R.2.2.1 (by omega) 1 (by omega) (by omega);have f5:=alh R.1 R.2.2.1 (by omega) 1 (by omega) (by omega);have f6:=ald R.2.2.2 (by omega) (bz eC 1 R.2.2.1).1 (by omega) (by omega);have f7:=ale R.2.2.2 (by omega) (bz eC 1 R.2.2.1).1 (by omega) (by omega);have d3:decide ((bz jb (bz iu (bz eC 1 m.Free).1 ts).1 vs).1<0)=false:=bU (by omega);have d4:decide ((bz eC 1 R.2.2.1).1<0)=false:=bU (by omega);have d5:decide ((bz jK (bz eC 1 R.2.2.1).1 R.2.2.2).1<0)=false:=bU (by omega);unfold M.ql;simp only[s0,s1,s2,d0,d1,d2,d3,d4,d5,e3,e4,e5,e6,e7,e8,e9,ea,eb,ec,f1,f2,f3,f4,f5,f6,f7,aQ,aU,aO,
     gz,ip,bne_self_eq_false,aT,aA,sN,m8,cD,bM]
   ·rw[an h2]at s2;unfold M.ql;simp only[s0,s1,s2,d0,d1,aQ,aU,aO,aT];rfl
  ·rw[an h1]at s1;unfold M.ql;simp only[s0,s1,d0,aQ,aU,aO,aT];rfl
 ·rw[an h0]at s0;unfold M.ql;simp only[s0,aQ,aU,aO,aT];rfl
end M
