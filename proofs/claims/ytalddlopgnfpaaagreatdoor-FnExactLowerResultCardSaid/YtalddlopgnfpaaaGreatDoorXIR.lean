/-
  THE LAWS' HELPERS on lists of types, of values, of numbers.
-/
import Derived.Test.YtalddlopgnfpaaaGreatDoorXIQ
import Derived.Test.YtalddlopgnfpaaaGreatDoorXIMK
set_option linter.unusedVariables false
set_option linter.unusedSimpArgs false
namespace M
open Go.V (inB bK ah cH)
theorem ajE(a:List Int)(hn:a.length<=1048576*4):M.vB a a=some true:=by
 unfold M.vB;have:=Jp (F:=M.s9 a a) (n:=a.length) (y:=some (.inr ())) (by omega) (fun f k hk=>by
  rw[M.s9];simp[hk,getD_lt hk,cm hk (by omega:a.length<2^62)]) (fun f=>by rw[M.s9];simp)
 rw[this];simp
theorem ajF{m:aB}(h:m.sz<=1048576):m.Bytes.length<=1048576/\m.Free.length<=1048576:=by
 have:=aB.dV m;have:=fx af.sz m.Free;omega
theorem ajG{B:List UInt8}{F:List af}(h1:B.length<=4096)(h2:F.length<=4096):M.pT (M.aB.mk B F) (M.aB.mk B F)=some true:=by
 refine US _ ?_;rw[aB.dV];have:aZ af.sz F=F.length:=by
  clear h2
  induction F with
  |nil=>rfl
  |cons x r ih=>simp only[aZ,ih,af.dV,bQ];omega
 show B.length+aZ af.sz F<=_
 omega
end M
namespace M
open Go Go.V
theorem ajH(a:Int)(b:List UInt8)(k:Int)(ls:List (List UInt8))(ks:List aa)(hl:ls.length<=1048576)(hz:aZ aa.sz ks<=1048576)(h0:0<=k)(h1:k<=100000000):
 M.wA a b k ls ks=some ((bk gq (bk mS k ls).1 ks).1,(bk mS k ls).2,(bk gq (bk mS k ls).1 ks).2):=by
 unfold M.wA;have:=EI ls k;rw[Wj ls hl k h0 (by omega)];simp only[aS,aU,aP];rw[ai3 ks _ hz (by omega) (by omega)];simp only[aS,aU,aP,aA]
theorem ajI(a b:Int)(c:List UInt8)(k:Int)(ks:List ae)(hz:aZ ae.sz ks<=1048576)(h0:0<=k)(h1:k<=1000000000):
 M.xA a b c k ks=some (bk iz k ks):=by
 unfold M.xA;rw[ai6 ks k hz h0 h1];simp only[aS,aU,aP,aA]
end M
namespace M
open Go Go.V
theorem anN(m:aB)(enc:Int)(t:aa)(v:ae)(hm:m.Ok)(ht:t.Ok)(hv:v.Ok):M.aim m enc t v=some true:=by
 have s0:=ahd m 1048576 hm (by omega) (by omega);by_cases h0:(m.sz:Int)<=1048576
 ·rw[av h0]at s0;have d0:decide (1048576-(m.sz:Int)<0)=false:=bU (by omega);have s1:=ahi t (1048576-(m.sz:Int)) ht (by omega) (by omega);by_cases h1:(t.sz:Int)<=1048576-(m.sz:Int)
  ·rw[av h1]at s1;have d1:decide (1048576-(m.sz:Int)-(t.sz:Int)<0)=false:=bU (by omega);have s2:=aho v (1048576-(m.sz:Int)-(t.sz:Int)) hv (by omega) (by omega);by_cases h2:(v.sz:Int)<=1048576-(m.sz:Int)-(t.sz:Int)
   ·rw[av h2]at s2;have d2:decide (1048576-(m.sz:Int)-(t.sz:Int)-(v.sz:Int)<0)=false:=bU (by omega);have hmz:m.sz<=1048576:=by omega
    have htz:t.sz<=1048576:=by omega
    have Av:v.sz<=1048576:=by omega
    obtain⟨hB,hF⟩:=ajF hmz;have hls:=aa.EO htz;have hll:=fD (fx _ _) hls;have hks:=aa.jk htz;have hvs:=ae.jk Av;obtain⟨b1,b2,b3⟩:=anV m enc t v;have e3:M.ajR (M.aB.mk m.Bytes m.Free) enc t v=_:=anT m enc t v hB hF htz Av;have e4:M.ajB (M.aB.mk m.Bytes m.Free) enc t v=_:=anU m enc t v hB hF htz Av;generalize anx m enc t v=R at*;have eT:aa.mk t.Kind t.Name t.bp t.Kids=t:=by cases t;rfl
    have eV:ae.mk v.Kind v.Num v.Text v.Kids=v:=by cases v;rfl
    have k1:=JA m.Free 1;have k0:=EI t.bp (bk ek 1 m.Free).1;have k2:=ai2 t.Kids (bk mS (bk ek 1 m.Free).1 t.bp).1;have k3:=ai5 v.Kids (bk gq (bk mS (bk ek 1 m.Free).1 t.bp).1 t.Kids).1;have k4:=JA R.2.2.1 1;have e5:M.pT (M.aB.mk m.Bytes m.Free) (M.aB.mk m.Bytes m.Free)=some true:=US m hmz;have e6:=ahe m hmz;have e7:=ahj t htz;have e8:=ahp v Av;have e9:=ahk t htz;have ea:=ahq v Av;have eb:=ajG b1 b2;have f1:=Wq m.Bytes m.Free hF 1 (by omega) (by omega);have f2:=ajH t.Kind t.Name (bk ek 1 m.Free).1 t.bp t.Kids hll hks (by omega) (by omega);have f3:=ajI v.Kind v.Num v.Text (bk gq (bk mS (bk ek 1 m.Free).1 t.bp).1 t.Kids).1 v.Kids hvs (by omega) (by omega);have f4:=Wq R.1 R.2.2.1 (by omega) 1 (by omega) (by omega);have f5:=ajc R.1 R.2.2.1 (by omega) 1 (by omega) (by omega);have d3:decide ((bk iz (bk gq (bk mS (bk ek 1 m.Free).1 t.bp).1 t.Kids).1 v.Kids).1<0)=false:=bU (by omega);have d4:decide ((bk ek 1 R.2.2.1).1<0)=false:=bU (by omega);have k5:=ai7 R.2.2.2 (bk ek 1 R.2.2.1).1;have ec:=ajE R.2.2.2 (by omega);have f6:=ai8 R.2.2.2 (by omega) (bk ek 1 R.2.2.1).1 (by omega) (by omega);have f7:=ai9 R.2.2.2 (by omega) (bk ek 1 R.2.2.1).1 (by omega) (by omega);have d5:decide ((bk jE (bk ek 1 R.2.2.1).1 R.2.2.2).1<0)=false:=bU (by omega);unfold M.aim;simp only[aa.aO,ae.aO,s0,s1,s2,d0,d1,d2,d3,d4,e3,e4,e5,e6,e7,e8,e9,ea,eb,eT,eV,f1,f2,f3,f4,f5,ec,f6,f7,d5,aS,aU,aP,
     mV,hU,bne_self_eq_false,aR,aA,uM,uC,gR,bI]
   ·rw[ak h2]at s2;unfold M.aim;simp only[aa.aO,ae.aO,s0,s1,s2,d0,d1,aS,aU,aP,aR];rfl
  ·rw[ak h1]at s1;unfold M.aim;simp only[aa.aO,ae.aO,s0,s1,d0,aS,aU,aP,aR];rfl
 ·rw[ak h0]at s0;unfold M.aim;simp only[s0,aS,aU,aP,aR];rfl
end M
