/-
  THE LAWS' HELPERS on lists of types, of values, of numbers.
-/
import Derived.Test.YtalddlopgnfpaaaGreatDoorXIQ
import Derived.Test.YtalddlopgnfpaaaGreatDoorXIMK
set_option linter.unusedVariables false
set_option linter.unusedSimpArgs false
namespace M
open Go.V (inB bF ai cJ)
theorem ael{m:ax}(h:m.sz<=1048576):m.Bytes.length<=1048576/\m.Free.length<=1048576:=by
 have:=ax.dL m;have:=eR af.sz m.Free;omega
theorem aem{B:List UInt8}{F:List af}(h1:B.length<=4096)(h2:F.length<=4096):M.od (M.ax.mk B F) (M.ax.mk B F)=some true:=by
 refine P1 _ ?_;rw[ax.dL];have:bc af.sz F=F.length:=by
  clear h2
  induction F with
  |nil=>rfl
  |cons x r ih=>simp only[bc,ih,af.dL,bY];omega
 show B.length+bc af.sz F<=_
 omega
end M
namespace M
open Go Go.V
theorem aen(a:Int)(b:List UInt8)(k:Int)(ls:List (List UInt8))(ks:List aa)(hl:ls.length<=1048576)(hz:bc aa.sz ks<=1048576)(h0:0<=k)(h1:k<=100000000):
 M.ui a b k ls ks=some ((bA fD (bA mS k ls).1 ks).1,(bA mS k ls).2,(bA fD (bA mS k ls).1 ks).2):=by
 unfold M.ui;have:=Bn ls k;rw[Rr ls hl k h0 (by omega)];simp only[aC,aR,aQ];rw[aea ks _ hz (by omega) (by omega)];simp only[aC,aR,aQ,cE]
theorem aeo(a b:Int)(c:List UInt8)(k:Int)(ks:List ae)(hz:bc ae.sz ks<=1048576)(h0:0<=k)(h1:k<=1000000000):
 M.u5 a b c k ks=some (bA gR k ks):=by
 unfold M.u5;rw[aed ks k hz h0 h1];simp only[aC,aR,aQ,cE]
end M
namespace M
open Go Go.V
theorem acp(m:ax)(enc:Int)(t:aa)(v:ae)(a:Int)(hm:m.Ok)(ht:t.Ok)(hv:v.Ok):M.oe m enc t v a=some true:=by
 have s0:=ab6 m 1048576 hm (by omega) (by omega);by_cases h0:(m.sz:Int)<=1048576
 ·rw[bG h0]at s0;have d0:decide (1048576-(m.sz:Int)<0)=false:=av (by omega);have s1:=acb t (1048576-(m.sz:Int)) ht (by omega) (by omega);by_cases h1:(t.sz:Int)<=1048576-(m.sz:Int)
  ·rw[bG h1]at s1;have d1:decide (1048576-(m.sz:Int)-(t.sz:Int)<0)=false:=av (by omega);have s2:=aci v (1048576-(m.sz:Int)-(t.sz:Int)) hv (by omega) (by omega);by_cases h2:(v.sz:Int)<=1048576-(m.sz:Int)-(t.sz:Int)
   ·rw[bG h2]at s2;have d2:decide (1048576-(m.sz:Int)-(t.sz:Int)-(v.sz:Int)<0)=false:=av (by omega);have hmz:m.sz<=1048576:=by omega
    have htz:t.sz<=1048576:=by omega
    have xY:v.sz<=1048576:=by omega
    obtain⟨hB,hF⟩:=ael hmz;have hls:=aa.Bq htz;have hll:=lG (eR _ _) hls;have hks:=aa.mZ htz;have hvs:=ae.mZ xY;obtain⟨b1,b2⟩:=ad3 m enc t v a;have e3:M.rR (M.ax.mk m.Bytes m.Free) enc t v a=_:=adY m enc t v a hB hF htz xY;have e4:M.rK (M.ax.mk m.Bytes m.Free) enc t v a=_:=adZ m enc t v a hB hF htz xY;generalize na m enc t v a=R at*;have eT:aa.mk t.Kind t.Name t.bm t.Kids=t:=by cases t;rfl
    have eV:ae.mk v.Kind v.Num v.Text v.Kids=v:=by cases v;rfl
    have k1:=Gv m.Free 1;have k0:=Bn t.bm (bA eC 1 m.Free).1;have k2:=ad9 t.Kids (bA mS (bA eC 1 m.Free).1 t.bm).1;have k3:=aec v.Kids (bA fD (bA mS (bA eC 1 m.Free).1 t.bm).1 t.Kids).1;have k4:=Gv R.2.2 1;have e5:M.od (M.ax.mk m.Bytes m.Free) (M.ax.mk m.Bytes m.Free)=some true:=P1 m hmz;have e6:=ab7 m hmz;have e7:=acd t htz;have e8:=acj v xY;have e9:=ace t htz;have ea:=ack v xY;have eb:=aem b1 b2;have f1:=Ry m.Bytes m.Free hF 1 (by omega) (by omega);have f2:=aen t.Kind t.Name (bA eC 1 m.Free).1 t.bm t.Kids hll hks (by omega) (by omega);have f3:=aeo v.Kind v.Num v.Text (bA fD (bA mS (bA eC 1 m.Free).1 t.bm).1 t.Kids).1 v.Kids hvs (by omega) (by omega);have f4:=Ry R.1 R.2.2 (by omega) 1 (by omega) (by omega);have f5:=aeg R.1 R.2.2 (by omega) 1 (by omega) (by omega);have d3:decide ((bA gR (bA fD (bA mS (bA eC 1 m.Free).1 t.bm).1 t.Kids).1 v.Kids).1<0)=false:=av (by omega);have d4:decide ((bA eC 1 R.2.2).1<0)=false:=av (by omega);unfold M.oe;simp only[aa.aG,ae.aG,s0,s1,s2,d0,d1,d2,d3,d4,e3,e4,e5,e6,e7,e8,e9,ea,eb,eT,eV,f1,f2,f3,f4,f5,aC,aR,aQ,
     fO,gj,bne_self_eq_false,aW,cE,x8,nb,dy,c9]
   ·rw[bH h2]at s2;unfold M.oe;simp only[aa.aG,ae.aG,s0,s1,s2,d0,d1,aC,aR,aQ,aW];rfl
  ·rw[bH h1]at s1;unfold M.oe;simp only[aa.aG,ae.aG,s0,s1,d0,aC,aR,aQ,aW];rfl
 ·rw[bH h0]at s0;unfold M.oe;simp only[s0,aC,aR,aQ,aW];rfl
end M
