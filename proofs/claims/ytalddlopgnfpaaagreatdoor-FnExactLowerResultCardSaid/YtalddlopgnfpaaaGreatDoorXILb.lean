/-
  MEMORIES by the program and by the reference: numbers as bytes, what is right, allocation, writing.
-/
import Derived.Test.YtalddlopgnfpaaaGreatDoorXILa
import Derived.Test.YtalddlopgnfpaaaGreatDoorXIU
import Derived.Test.YtalddlopgnfpaaaGreatDoorXIhandA
set_option linter.unusedVariables false
set_option linter.unusedSimpArgs false
namespace M
open Go Go.V
theorem wrap_u8(n:Int):IntKind.wrap .u8 n=n%256:=rfl
theorem Ja(n:Int):fB (IntKind.wrap .u8 n)=true:=by
 rw[wrap_u8];unfold fB;rw[aW,bm,bm];omega
theorem aif(n:Int):IntKind.wrap .u8 (dQ .and .i64 n 255)=IntKind.wrap .u8 n:=by
 have e:(BitVec.ofInt 64 n&&& BitVec.ofInt 64 (255:Int)).toNat=(n%18446744073709551616).toNat%256:=by
  rw[BitVec.toNat_and];have h1:(BitVec.ofInt 64 n).toNat=(n%18446744073709551616).toNat:=by rw[BitVec.toNat_ofInt];rfl
  have h2:(BitVec.ofInt 64 (255:Int)).toNat=255:=by decide
  rw[h1,h2];exact Nat.and_two_pow_sub_one_eq_mod _ 8
 have e2:dQ .and .i64 n 255=IntKind.wrap .i64 (((n%18446744073709551616).toNat%256:Nat):Int):=by
  show IntKind.wrap .i64 (((BitVec.ofInt 64 n&&& BitVec.ofInt 64 (255:Int)).toNat:Nat):Int)=_
  rw[e]
 rw[e2,mX _ (by omega),wrap_u8,wrap_u8];omega
theorem sk(n:Int)(k:Nat)(hk:k<=64):M.jf n (k:Int)=some (fixF n k):=by
 have e:=j5 (F:=fun f i (a:Int×List UInt8)=>M.oi (k:Int) f a.1 i a.2) (List.replicate k ()) (by rw[gj];omega)
  (fun r a=>some (a.2++fixF a.1 r.length)) (fun j a=>a.2.length<=j) ?_ ?_ (n,[]) (bj _)
 ·have e':M.oi (k:Int) ah n 0 []=_:=e;unfold M.jf;rw[e'];simp
 ·rintro f j ⟨a1,a2⟩ hj hI ih
  simp only at hI;rw[gj]at hj
  show M.oi (k:Int) (f+1) _ (j:Int) _=_
  rw[M.oi];simp only[cO,hj,cr,aA,Ja,aP,bQ,dm];rw[aY (by omega:a2.length+(0+1)<=1073741824),aA,cm hj (by omega:k<2^62)];refine Eq.trans (ih (_,_) (by simp only[cL,bQ,dm];omega)) ?_;simp[fixF];rfl
 ·rintro f ⟨a1,a2⟩ hI
  show M.oi (k:Int) (f+1) _ ((List.replicate k ()).length:Int) _=_
  rw[gj,M.oi];simp[fixF]
theorem Ep(n:Int)(k:Nat)(hk:k<=8):M.nS n (k:Int)=some (fixF n k):=by
 have e:=j5 (F:=fun f i (a:Int×List UInt8)=>M.nR (k:Int) f a.1 i a.2) (List.replicate k ()) (by rw[gj];omega)
  (fun r a=>some (a.2++fixF a.1 r.length)) (fun j a=>a.2.length<=j) ?_ ?_ (n,[]) (bj _)
 ·have e':M.nR (k:Int) ah n 0 []=_:=e;unfold M.nS;rw[e'];simp
 ·rintro f j ⟨a1,a2⟩ hj hI ih
  simp only at hI;rw[gj]at hj
  show M.nR (k:Int) (f+1) _ (j:Int) _=_
  rw[M.nR];have d1:decide ((k:Int)<=8)=true:=aY (by omega);have d2:decide ((0:Int)<=(k:Int))=true:=aY (by omega);simp only[cO,hj,cr,aA,aif,Ja,aP,bQ,dm,d1,d2];rw[aY (by omega:a2.length+(0+1)<=1073741824),aA,cm hj (by omega:k<2^62)];refine Eq.trans (ih (_,_) (by simp only[cL,bQ,dm];omega)) ?_;simp[fixF];rfl
 ·rintro f ⟨a1,a2⟩ hI
  show M.nR (k:Int) (f+1) _ ((List.replicate k ()).length:Int) _=_
  rw[gj,M.nR];simp[fixF]
def gV(B:List UInt8)(F:List af):Bool:=decide (B.length<=4096)&&chainB B.length 7 F
def ix(B:List UInt8)(F:List af):Prop:=B.length<=4096/\Chain B.length 7 F
theorem Es(B:List UInt8)(F:List af):gV B F=true↔ix B F:=by unfold gV ix Chain;rw[aW,bm]
theorem ix.len{B:List UInt8}{F:List af}(h:ix B F):F.length<=4096:=by
 by_cases h7:(7:Int)<=B.length
 ·have:=Chain.len h.2 h7;have:=h.1;omega
 ·cases F with
  |nil=>simp
  |cons b r=>have:=(mW.1 h.2).1;omega
def oJ(e last:Int)(b:af):Bool:=((decide (1<=b.Size)&&decide (last<b.At))&&decide (b.At<=e))&&decide (b.Size<=e-b.At)
theorem VI(e last:Int)(b:af)(h0:0<=last)(he:0<=e)(h1:e<=1099511627776)(c:Bool)(hc:c=decide (b.Size<=0)):
 (((c||decide (b.At<=last))||decide (e<b.At))||decide (IntKind.wrap .i64 (e-b.At)<b.Size))= !oJ e last b:=by
 subst hc;unfold oJ;by_cases a1:b.Size<=0
 ·rw[aY a1,bU (by omega:¬1<=b.Size)];rfl
 ·rw[bU a1,aY (by omega:1<=b.Size)];by_cases a2:b.At<=last
  ·rw[aY a2,bU (by omega:¬last<b.At)];rfl
  ·rw[bU a2,aY (by omega:last<b.At)];by_cases a3:e<b.At
   ·rw[aY a3,bU (by omega:¬b.At<=e)];rfl
   ·rw[bU a3,aY (by omega:b.At<=e),wrap_i64 (by omega) (by omega)];by_cases a4:e-b.At<b.Size
    ·rw[aY a4,bU (by omega:¬b.Size<=e-b.At)];rfl
    ·rw[bU a4,aY (by omega:b.Size<=e-b.At)];rfl
theorem aih(F:List af)(e:Nat)(hF:F.length<=1048576)(he:e<=1099511627776):M.wQ F (e:Int)=some (chainB e 7 F):=by
 have e1:=j5 (F:=fun f i (a:Int)=>M.nX (e:Int) F (F.length:Int) f a i) F (by omega)
  (fun r a=>some (if chainB e a r then .inr ()else .inl false)) (fun k a=>0<=a) ?_ ?_ 7 (by decide)
 ·have e':M.nX (e:Int) F (F.length:Int) ah 7 0=_:=e1;unfold M.wQ;rw[e'];cases chainB e 7 F<;>rfl
 ·intro f k a hk hI ih
  show M.nX (e:Int) F (F.length:Int) (f+1) a (k:Int)=_
  rw[M.nX];simp only[cO,hk,cr,aA,cN,getD_lt hk,cB,aP,bI];rw[VI (e:Int) a F[k] hI (by omega) (by omega) _ rfl,cm hk (by omega:F.length<2^62)]
  show _=some (if chainB e a (F[k]::F.drop (k+1))then _ else _)
  rw[chainB];change(bif !oJ e a F[k]then _ else _)=some (if(oJ e a F[k]&&chainB e (F[k].At+F[k].Size) (F.drop (k+1)))=true then _ else _);cases hb:oJ e a F[k]with
  |false=>rfl
  |true=>
   unfold oJ at hb;simp only[aW,bm]at hb;obtain⟨⟨⟨b1,b2⟩,b3⟩,b4⟩:=hb;rw[mV,aR,wrap_i64 (n:=F[k].At+F[k].Size) (by omega) (by omega),ih _ (by omega),bI]
 ·intro f a hI
  show M.nX (e:Int) F (F.length:Int) (f+1) a (F.length:Int)=_
  rw[M.nX];simp[chainB]
theorem aii(m:aB)(hB:m.Bytes.length<=1048576)(hF:m.Free.length<=1048576):M.wR m=some (gV m.Bytes m.Free):=by
 unfold M.wR gV;rw[aih m.Free m.Bytes.length hF (by omega)];have d:decide ((m.Bytes.length:Int)<=4096)=decide (m.Bytes.length<=4096):=by congr 1;exact propext ⟨fun h=>by omega,fun h=>by omega⟩
 rw[d];rfl
theorem aij(m:aB)(hB:m.Bytes.length<=1048576)(hF:m.Free.length<=1048576):M.wF m=some (gV m.Bytes m.Free):=by
 unfold M.wF;by_cases h1:m.Bytes.length<=4096
 ·by_cases h2:m.Free.length<=4096
  ·rw[bU (by omega:¬(4096:Int)<(m.Bytes.length:Int)),bU (by omega:¬(4096:Int)<(m.Free.length:Int)),hU,aR];have e1:=j5 (F:=fun f i (a:Int)=>M.nO (m.Bytes.length:Int) m f a i) m.Free (by omega)
    (fun r a=>some (if chainB m.Bytes.length a r then .inr ()else .inl false)) (fun k a=>0<=a) ?_ ?_ 7 (by decide)
   ·have e':M.nO (m.Bytes.length:Int) m ah 7 0=_:=e1;rw[e'];unfold gV;rw[aY h1];cases chainB m.Bytes.length 7 m.Free<;>rfl
   ·intro f k a hk hI ih
    show M.nO (m.Bytes.length:Int) m (f+1) a (k:Int)=_
    rw[M.nO];simp only[cO,hk,cr,aA,cN,getD_lt hk,cB,aP,bI];rw[VI (m.Bytes.length:Int) a m.Free[k] hI (by omega) (by omega) _ (by congr 1;exact propext ⟨fun h=>by omega,fun h=>by omega⟩),cm hk (by omega:m.Free.length<2^62)]
    show _=some (if chainB m.Bytes.length a (m.Free[k]::m.Free.drop (k+1))then _ else _)
    rw[chainB];change(bif !oJ m.Bytes.length a m.Free[k]then _ else _)=some (if(oJ m.Bytes.length a m.Free[k]&&chainB m.Bytes.length (m.Free[k].At+m.Free[k].Size) (m.Free.drop (k+1)))=true then _ else _);cases hb:oJ m.Bytes.length a m.Free[k]with
    |false=>rfl
    |true=>
     unfold oJ at hb;simp only[aW,bm]at hb;obtain⟨⟨⟨b1,b2⟩,b3⟩,b4⟩:=hb;rw[mV,aR,wrap_i64 (n:=m.Free[k].At+m.Free[k].Size) (by omega) (by omega),ih _ (by omega),bI]
   ·intro f a hI
    show M.nO (m.Bytes.length:Int) m (f+1) a (m.Free.length:Int)=_
    rw[M.nO];simp[chainB]
  ·rw[aY (by omega:(4096:Int)<(m.Free.length:Int)),kJ,aA];have:gV m.Bytes m.Free=false:=by
    rw[Et];intro h;exact h2 (ix.len ((Es _ _).1 h))
   rw[this]
 ·rw[aY (by omega:(4096:Int)<(m.Bytes.length:Int)),gR,aA];unfold gV;rw[bU h1];rfl
theorem VJ(B:List UInt8)(F:List af)(a:Int)(n:Nat)(hB:B.length<=4096)(hn:n<=1073741824):M.ub (M.hC.mk B F) a (n:Int)=some (decide (0<=a/\a+n<=B.length)):=by
 unfold M.ub;congr 1;show(((decide ((0:Int)<=a)&&decide ((0:Int)<=(n:Int)))&&decide (a<=(B.length:Int)))&&decide ((n:Int)<=IntKind.wrap .i64 ((B.length:Int)-a)))=_
 by_cases h1:0<=a
 ·by_cases h2:a<=(B.length:Int)
  ·rw[wrap_i64 (by omega) (by omega),aY h1,aY h2,aY (by omega:(0:Int)<=(n:Int))];simp only[bI];congr 1;exact propext ⟨fun h=>⟨h1,by omega⟩,fun h=>by omega⟩
  ·rw[bU h2,Bool.and_false,mY,bU (by omega)]
 ·rw[bU h1,mY,mY,mY,bU (by omega)]
theorem aik(a:Int)(bs B:List UInt8)(F:List af)(hB:B.length<=4096)(hn:bs.length<=1073741824):∃b,M.xa a bs B F=some (b,eM a bs B,F):=by
 unfold M.xa eM;rw[VJ B F a bs.length hB hn];by_cases h:0<=a/\a+bs.length<=B.length
 ·rw[av h,aY h];have h3:bK a (B.length:Int) B.length=true:=by unfold bK;simp;omega
  simp only[aS,mV,aR,aU,cN,h3,aP,List.map_id'];rw[aY (bj _),aY (by omega),aP,aA];exact⟨true,rfl⟩
 ·rw[ak h,bU h];exact⟨false,rfl⟩
theorem Eu(a:Int)(bs B:List UInt8)(F:List af)(x:Int)(hB:B.length<=4096)(hn:bs.length<=1073741824):M.jS a bs x 0 B F=some (x,0,eM a bs B,F):=by
 obtain⟨b,e⟩:=aik a bs B F hB hn;unfold M.jS;rw[e];rfl
theorem Jb(a:Int)(bs B:List UInt8)(F:List af)(x c:Int)(hc:c≠0):M.jS a bs x c B F=some (x,c,B,F):=by
 unfold M.jS;rw[cq hc];rfl
theorem VK(a:Int)(bs B:List UInt8)(F:List af)(hB:B.length<=4096)(hF:F.length<=1073741824)(hn:bs.length<=1073741824):
 M.rC (M.aB.mk B F) a bs=some (if 0<=a/\a+bs.length<=B.length then(eM a bs B,0,F)else([],10,[])):=by
 unfold M.rC;have e:M.wI (M.aB.mk B F) a (bs.length:Int)=some (decide (0<=a/\a+bs.length<=B.length)):=by
  have:=VJ B F a bs.length hB hn;unfold M.ub at this;unfold M.wI;rw[<-this];simp only[Bool.and_comm (decide ((0:Int)<=(bs.length:Int)))]
 rw[e];by_cases h:0<=a/\a+bs.length<=B.length
 ·have h4:M.jw (M.aB.mk B F)=some (B,F):=by
   unfold M.jw;rw[aY (by show 0+F.length<=_;omega)];rfl
  obtain⟨n,rfl⟩:=kD h.1;have h1:bK 0 (n:Int) B.length=true:=by unfold bK;simp;omega
  have h2:bK ((n:Int)+bs.length) (B.length:Int) B.length=true:=by unfold bK;simp;omega
  have c1:eA (List.take n B) bs=true:=by unfold eA;rw[bm,iV];omega
  have c2:eA (List.take n B++bs) (List.drop (n+bs.length) B)=true:=by unfold eA;rw[bm,cL,iV,List.length_drop];omega
  rw[av h,aY h,h4];simp only[aS,mV,aR,aU,cN,Int.toNat_zero,ej,aP,uJ,bI];rw[wrap_i64 (n:=(n:Int)+bs.length) (by omega) (by omega),h2,h1,show((n:Int)+(bs.length:Int)).toNat=n+bs.length by omega,c1,c2];unfold eM;rw[av h];simp
 ·rw[ak h,bU h];rfl
theorem Ew(a n:Int)(k:Nat)(B:List UInt8)(F:List af)(x c:Int)(hB:B.length<=4096)(hF:F.length<=1073741824)(hk:k<=8):M.mI a n (k:Int) B x c F=some (eM a (fixF n k) B,x,c,F):=by
 unfold M.mI;rw[Ep n k hk];simp only[aS];rw[VK a (fixF n k) B F hB hF (by rw[hZ];omega)];by_cases h:0<=a/\a+(fixF n k).length<=B.length
 ·rw[av h];rfl
 ·rw[ak h];have:eM a (fixF n k) B=B:=by unfold eM;rw[ak h]
  rw[this];rfl
end M
namespace M
open Go Go.V
theorem Ey(x y z:List af)(hx:x.length<=65536)(hy:y.length<=65536)(hz:z.length<=65536):M.pK [x,y,z]=some (x++(y++z)):=by
 obtain⟨f,hf⟩:∃f,ah=f+4:=⟨ah-4,by have:=cH;omega⟩;have w1:IntKind.wrap .i64 ((0:Int)+(x.length:Int))=(x.length:Int):=by rw[wrap_i64 (by omega) (by omega)];omega
 have w2:IntKind.wrap .i64 ((x.length:Int)+(y.length:Int))=((x.length+y.length:Nat):Int):=by rw[wrap_i64 (by omega) (by omega)];omega
 have w3:IntKind.wrap .i64 (((x.length+y.length:Nat):Int)+(z.length:Int))=((x.length+y.length+z.length:Nat):Int):=by rw[wrap_i64 (by omega) (by omega)];omega
 have e0:M.pI [x,y,z] [x,y,z] 3 (f+4) 0 0=some ([x,y,z],((x.length+y.length+z.length:Nat):Int)):=by
  have n1:decide ((x.length:Int)<0)=false:=bU (by omega);have n2:decide (((x.length+y.length:Nat):Int)<0)=false:=bU (by omega);have n3:decide (((x.length+y.length+z.length:Nat):Int)<0)=false:=bU (by omega);rw[M.pI];simp only[show decide ((0:Int)<3)=true from rfl,aA,show([x,y,z].getD (Int.toNat 0) [])=x from rfl,w1,n1,aR,show(inB 0 [x,y,z].length&&true)=true from rfl,show IntKind.wrap .i64 ((0:Int)+1)=1 from rfl];rw[M.pI];simp only[show decide ((1:Int)<3)=true from rfl,aA,show([x,y,z].getD (Int.toNat 1) [])=y from rfl,w2,n2,aR,show(inB 1 [x,y,z].length&&true)=true from rfl,show IntKind.wrap .i64 ((1:Int)+1)=2 from rfl];rw[M.pI];simp only[show decide ((2:Int)<3)=true from rfl,aA,show([x,y,z].getD (Int.toNat 2) [])=z from rfl,w3,n3,aR,show(inB 2 [x,y,z].length&&true)=true from rfl,show IntKind.wrap .i64 ((2:Int)+1)=3 from rfl];rw[M.pI];rfl
 have e1:M.pJ [x,y,z] 3 (f+4) 0 []=some (x++(y++z)):=by
  rw[M.pJ];simp only[show decide ((0:Int)<3)=true from rfl,aA,show([x,y,z].getD (Int.toNat 0) [])=x from rfl,show(inB 0 [x,y,z].length&&true)=true from rfl,show IntKind.wrap .i64 ((0:Int)+1)=1 from rfl,jB,dm];rw[aY (by omega:0+x.length<=1073741824),fE,aA,M.pJ];simp only[show decide ((1:Int)<3)=true from rfl,aA,show([x,y,z].getD (Int.toNat 1) [])=y from rfl,show(inB 1 [x,y,z].length&&true)=true from rfl,show IntKind.wrap .i64 ((1:Int)+1)=2 from rfl];rw[aY (by omega:x.length+y.length<=1073741824),fE,aA,M.pJ];simp only[show decide ((2:Int)<3)=true from rfl,aA,show([x,y,z].getD (Int.toNat 2) [])=z from rfl,show(inB 2 [x,y,z].length&&true)=true from rfl,show IntKind.wrap .i64 ((2:Int)+1)=3 from rfl];rw[aY (by rw[cL];omega:(x++y).length+z.length<=1073741824),fE,aA,M.pJ];rw[iw];rfl
 unfold M.pK;have l3:(([x,y,z]:List (List af)).length:Int)=3:=rfl;rw[hf,l3,e0];have g:M.rL ((x.length+y.length+z.length:Nat):Int)=some []:=by
  unfold M.rL;rw[aY (by omega),aY (by omega)];rfl
 simp only[g,aS,aU];rw[l3,e1];rfl
theorem VL{b:af}{al:Nat}(ha:di al)(h0:0<=b.At)(h1:b.At<=1048576):M.jx b.At (al:Int)=some (dF b al):=by
 unfold dF;have:=Af b.At.toNat al ha (by omega)
 rwa [Int.toNat_of_nonneg h0]at this
theorem VM(k n:Nat)(h:k<=n):bK (k:Int) (n:Int) n=true:=by unfold bK;simp;omega
theorem VN(k n:Nat)(h:k<=n):bK 0 (k:Int) n=true:=by unfold bK;simp;omega
theorem ail(many al:Nat)(B:List UInt8)(F:List af)(hm:many<=1099511627776)(ha:di al)(hM:ix B F):
 M.w9 (many:Int) (al:Int) B F=some (match fy many al F with|none=>(0,4,B,F)|some p=>(p.1,0,B,p.2)):=by
 have hF:=hM.len;unfold M.w9 fy;by_cases h0:many=0
 ·subst h0;rfl
 rw[ak h0,cq (by omega:(many:Int)≠0),aR];have e:=xM (F:=fun f i=>M.om (many:Int) (al:Int) (F.length:Int) F B f i) (n:=F.length)
  (res:=fun k=>some (match kH many al (F.drop k)with|none=>.inr (B,F)|some p=>.inl (p.1,0,B,F.take k++p.2))) (by omega) ?_ ?_
 ·have e':M.om (many:Int) (al:Int) (F.length:Int) F B ah 0=_:=e;rw[e',ej];cases kH many al F with
  |none=>rfl
  |some p=>rfl
 ·intro f k hk ih;have hb:=Chain.mem hM.2 F[k] (bC hk);have hB:=hM.1
  show M.om (many:Int) (al:Int) (F.length:Int) F B (f+1) (k:Int)=_
  rw[M.om];have hp:=VL (b:=F[k]) ha (by omega) (by omega);have hg:=I9 (b:=F[k]) ha (by omega);have ha8:=ha.le;simp only[cO,hk,cr,aA,cN,getD_lt hk,cB,aP,bI,hp,aS,aU];rw[wrap_i64 (n:=F[k].At+F[k].Size) (by omega) (by omega),wrap_i64 (n:=F[k].At+F[k].Size-dF F[k] al) (by omega) (by omega),cm hk (by omega:F.length<2^62),wrap_i64 (n:=dF F[k] al+many) (by omega) (by omega),wrap_i64 (n:=dF F[k] al-F[k].At) (by omega) (by omega),wrap_i64 (n:=F[k].At+F[k].Size-(dF F[k] al+many)) (by omega) (by omega)];simp only[cN,Int.toNat_zero,ej,uJ,VM (k+1) F.length (by omega),VN k F.length (by omega),aP,jB];rw[dX hk,kH];by_cases hc:dF F[k] al+many<=F[k].At+F[k].Size
  ·rw[av hc,bU (by omega:¬F[k].At+F[k].Size-dF F[k] al<(many:Int)),aR];simp only[Am];have l1:(F.take k).length<=65536:=by rw[iV];omega
   have l2:(F.drop (k+1)).length<=65536:=by rw[List.length_drop];omega
   by_cases c1:F[k].At<dF F[k] al
   ·rw[av c1,aY c1,aA];by_cases c2:dF F[k] al+many<F[k].At+F[k].Size
    ·rw[av c2,aY c2,aA,Ey _ _ _ l1 (by simp) l2];rfl
    ·rw[ak c2,bU c2,aR,Ey _ _ _ l1 (by simp) l2];rfl
   ·rw[ak c1,bU c1,aR];by_cases c2:dF F[k] al+many<F[k].At+F[k].Size
    ·rw[av c2,aY c2,aA,Ey _ _ _ l1 (by simp) l2];rfl
    ·rw[ak c2,bU c2,aR,Ey _ _ _ l1 (by simp) l2];rfl
  ·rw[ak hc,aY (by omega:F[k].At+F[k].Size-dF F[k] al<(many:Int)),aA];refine Eq.trans ih ?_;have ht:F.take (k+1)=F.take k++[F[k]]:=by rw[List.take_append_getElem hk]
   cases kH many al (F.drop (k+1))with
   |none=>rfl
   |some p=>simp only[lE,ht,iw,List.singleton_append]
 ·intro f
  show M.om (many:Int) (al:Int) (F.length:Int) F B (f+1) (F.length:Int)=_
  rw[M.om,gU];simp[kH]
theorem VO(many al:Nat)(B:List UInt8)(F:List af)(x:Int)(hm:many<=1099511627776)(ha:di al)(hM:ix B F):
 M.lZ (many:Int) (al:Int) x 0 B F=some (match fy many al F with|none=>(0,x,4,B,F)|some p=>(p.1,x,0,B,p.2)):=by
 unfold M.lZ;rw[ail many al B F hm ha hM];cases fy many al F<;>rfl
theorem ain(many al:Int)(B:List UInt8)(F:List af)(x c:Int)(hc:c≠0):M.lZ many al x c B F=some (0,x,c,B,F):=by
 unfold M.lZ;have:(c !=0)=true:=by rw[qg];exact hc
 rw[this];rfl
theorem VP(B:List UInt8)(F:List af)(h:F.length<=1073741824):M.jw (M.aB.mk B F)=some (B,F):=by
 unfold M.jw;rw[aY (by show 0+F.length<=_;omega)];rfl
theorem aio(many al:Nat)(B:List UInt8)(F:List af)(hm:many<=1099511627776)(ha:di al)(hM:ix B F):
 M.wL (M.aB.mk B F) (many:Int) (al:Int)=some (match fy many al F with|none=>([],0,4,[])|some p=>(B,p.1,0,p.2)):=by
 have hF:=hM.len;unfold M.wL fy;by_cases h0:many=0
 ·subst h0;rw[VP B F (by omega)];rfl
 rw[ak h0,cq (by omega:(many:Int)≠0),aR];have e:=xM (F:=fun f i=>M.nU (many:Int) (al:Int) (M.aB.mk B F) [] [] f i) (n:=F.length)
  (res:=fun k=>some (match kH many al (F.drop k)with|none=>.inr ([],[])|some p=>.inl (p.1,0,B,F.take k++p.2))) (by omega) ?_ ?_
 ·have e':M.nU (many:Int) (al:Int) (M.aB.mk B F) [] [] ah 0=_:=e;rw[e',ej];cases kH many al F with
  |none=>rfl
  |some p=>rfl
 ·intro f k hk ih;have hb:=Chain.mem hM.2 F[k] (bC hk);have hB:=hM.1
  show M.nU (many:Int) (al:Int) (M.aB.mk B F) [] [] (f+1) (k:Int)=_
  rw[M.nU];have hp:M.jR F[k].At (al:Int)=some (dF F[k] al):=VL (b:=F[k]) ha (by omega) (by omega);have hg:=I9 (b:=F[k]) ha (by omega);have ha8:=ha.le;simp only[cO,hk,cr,aA,cN,getD_lt hk,cB,aP,bI,hp,aS,aU];rw[wrap_i64 (n:=F[k].At+F[k].Size) (by omega) (by omega),wrap_i64 (n:=dF F[k] al-F[k].At) (by omega) (by omega),wrap_i64 (n:=F[k].Size-many) (by omega) (by omega),cm hk (by omega:F.length<2^62),wrap_i64 (n:=dF F[k] al+many) (by omega) (by omega),wrap_i64 (n:=F[k].At+F[k].Size-dF F[k] al) (by omega) (by omega),wrap_i64 (n:=F[k].At+F[k].Size-dF F[k] al-many) (by omega) (by omega)];simp only[cN,Int.toNat_zero,ej,uJ,VM (k+1) F.length (by omega),VN k F.length (by omega),aP,jB,iV,List.length_drop,cL,bQ,dm];have s1:decide (0+min k F.length<=1073741824)=true:=aY (by omega);rw[dX hk,kH];by_cases hc:dF F[k] al+many<=F[k].At+F[k].Size
  ·rw[av hc,bU (by omega:¬F[k].Size<(many:Int)),bU (by omega:¬F[k].Size-many<dF F[k] al-F[k].At),hU,aR];simp only[Am,s1];by_cases c1:F[k].At<dF F[k] al
   ·rw[av c1,aY c1,aA];by_cases c2:dF F[k] al+many<F[k].At+F[k].Size
    ·rw[av c2,aY (by omega:0<F[k].At+F[k].Size-dF F[k] al-many),aA,aY (by omega),aY (by omega),aY (by omega),show F[k].At+F[k].Size-dF F[k] al-many=F[k].At+F[k].Size-(dF F[k] al+many) by omega];simp
    ·rw[ak c2,bU (by omega:¬0<F[k].At+F[k].Size-dF F[k] al-many),aR,aY (by omega),aY (by omega)];simp
   ·rw[ak c1,bU c1,aR];by_cases c2:dF F[k] al+many<F[k].At+F[k].Size
    ·rw[av c2,aY (by omega:0<F[k].At+F[k].Size-dF F[k] al-many),aA,aY (by omega),aY (by omega),show F[k].At+F[k].Size-dF F[k] al-many=F[k].At+F[k].Size-(dF F[k] al+many) by omega];simp
    ·rw[ak c2,bU (by omega:¬0<F[k].At+F[k].Size-dF F[k] al-many),aR,aY (by omega)];simp
  ·rw[ak hc];have:(decide (F[k].Size<(many:Int))||decide (F[k].Size-many<dF F[k] al-F[k].At))=true:=by
    rw[iW,bm,bm];omega
   rw[this,aA];refine Eq.trans ih ?_;have ht:F.take (k+1)=F.take k++[F[k]]:=by rw[List.take_append_getElem hk]
   cases kH many al (F.drop (k+1))with
   |none=>rfl
   |some p=>simp only[lE,ht,iw,List.singleton_append]
 ·intro f
  show M.nU (many:Int) (al:Int) (M.aB.mk B F) [] [] (f+1) (F.length:Int)=_
  rw[M.nU,gU];simp[kH]
theorem VQ(many al:Nat)(B:List UInt8)(F:List af)(x c:Int)(hm:many<=1099511627776)(ha:di al)(hM:ix B F):
 M.nV (many:Int) (al:Int) B x c F=some (match fy many al F with|none=>(0,B,x,4,F)|some p=>(p.1,B,x,c,p.2)):=by
 unfold M.nV;rw[aio many al B F hm ha hM];cases fy many al F<;>rfl
end M
namespace M
open Go Go.V Go.Lib
theorem aip(m:Nat)(h:jm m=true):encodeRune (m:Int)=ia m:=by
 rw[Jc]at h;have t:∀(z:Int)(n:Nat),z=(n:Int)->z.toNat.toUInt8=UInt8.ofNat n:=fun z n e=>by subst e;rfl
 unfold encodeRune ia;by_cases h1:m<128
 ·rw[encodeRuneZ_one (by omega) (by omega),av h1];rfl
 ·rw[ak h1];by_cases h2:m<2048
  ·rw[encodeRuneZ_two (by omega) (by omega),av h2];simp only[fb,List.map_nil];rw[t _ (192+m/64) (by omega),t _ (128+m%64) (by omega)]
  ·rw[ak h2];by_cases h3:m<65536
   ·rw[encodeRuneZ_three (by omega),av h3];simp only[fb,List.map_nil];rw[t _ (224+m/4096) (by omega),t _ (128+m/64%64) (by omega),t _ (128+m%64) (by omega)]
   ·rw[ak h3,encodeRuneZ_four (by omega) (by omega)];simp only[fb,List.map_nil];rw[t _ (240+m/262144) (by omega),t _ (128+m/4096%64) (by omega),t _ (128+m/64%64) (by omega),t _ (128+m%64) (by omega)]
theorem aiq{a b:Nat}(ha:a<=1114111)(hb:b<=1114111)(h:ia a=ia b):a=b:=by
 have e:fF a=fF b:=by
  have h1:=(Ez a ha (ia b)).1 (by rw[h,mc]);have h2:=(Ez b hb (ia b)).1 (by rw[mc]);rw[h1,h2]
 by_cases h1:b<128
 ·rw[show fF b=[b] by unfold fF;rw[av h1],Jd]at e;exact e.2
 ·by_cases h2:b<2048
  ·rw[show fF b=[192+b/64,128+b%64] by unfold fF;rw[ak h1,av h2],Je]at e;omega
  ·by_cases h3:b<65536
   ·rw[show fF b=[224+b/4096,128+b/64%64,128+b%64] by unfold fF;rw[ak h1,ak h2,av h3],Jf]at e;omega
   ·rw[show fF b=[240+b/262144,128+b/4096%64,128+b/64%64,128+b%64] by unfold fF;rw[ak h1,ak h2,ak h3],Jg]at e;omega
theorem air(s:List UInt8)(h:(fk s).2≠0):jm (fk s).1=true/\ia (fk s).1=s.take (fk s).2:=by
 unfold fk at h⊢;split at h
 ·exact absurd rfl h
 ·rename_i h1;rw[ak h1];split at h
  ·rename_i h2;rw[av h2];rw[aW,kK]at h2;exact h2
  ·exact absurd rfl h
theorem ais(s:List UInt8)(hv:¬((decodeL s).1=65533/\(decodeL s).2=1)):jm (decodeL s).1=true:=by
 rw[Jc];rw[decodeL_N]at hv⊢;have k0:=(s.getD 0 0).toNat_lt;rcases decodeN_shape s.length (s.getD 0 0).toNat (s.getD 1 0).toNat (s.getD 2 0).toNat (s.getD 3 0).toNat with⟨c,e⟩|⟨c1,c2,c3,cv,e⟩|⟨c1,c2,c3,c4,cv,cs,e⟩|⟨c1,c2,c3,c4,c5,cv,cw,e⟩|e
 ·rw[e];left;simp only;omega
 ·rw[e];left;simp only;omega
 ·rw[e];simp only;omega
 ·rw[e];simp only;omega
 ·rw[e]at hv;exact absurd ⟨rfl,rfl⟩ hv
theorem ait(s:List UInt8)(hne:s≠[])(hv:¬((decodeL s).1=65533/\(decodeL s).2=1)):(fk s).1=(decodeL s).1/\(fk s).2=(decodeL s).2:=by
 have hd:=VR s hne;rw[ak hv]at hd;have hw:=decodeL_width s;have hp:=air s (by omega);have he:=encode_decode s hne hv;have ho:=ais s hv;rw[aip _ ho,<-hd,<-hp.2]at he;have h1:=Jh ho;have h2:=Jh hp.1;exact⟨(aiq h1 h2 he).symm,hd⟩
theorem VS:∀(m f:Nat)(s:List UInt8)(out:List Int),s.length<=m->s.length<=1048576->out.length+s.length<=1048576->validGoD m s=true->
 M.py (f+m+1) s out=some (.inr (out++gh m s))
 |0,f,s,out,hm,hs,ho,_=>by
  have e:s=[]:=iU (by omega);subst e;simp only[gh,ma];rfl
 |m+1,f,s,out,hm,hs,ho,hv=>by
  rw[show f+(m+1)+1=(f+m+1)+1 by omega,M.py];by_cases hne:s=[]
  ·subst hne;rw[Vi,ma];rfl
  ·have hl:0<s.length:=List.length_pos_iff.2 hne;have d:decide ((0:Int)<(s.length:Int))=true:=aY (by omega);rw[d,VT s hne hs];simp only[aA,aS,aU,aP,bQ,dm,dz];rw[validGoD,ak hne]at hv;by_cases hb:(decodeL s).1=65533/\(decodeL s).2=1
   ·rw[av hb]at hv;cases hv
   ·rw[ak hb]at hv;obtain⟨v1,v2⟩:=ait s hne hb;have hle:=VU s hne;have hw:=decodeL_width s;have d0:(((fk s).2:Int)==0)=false:=by rw[kF];omega
    have hsl:bK ((fk s).2:Int) (s.length:Int) s.length=true:=by unfold bK;simp;omega
    have hlen:decide (out.length+1<=1073741824)=true:=aY (by omega);rw[d0,hsl,hlen];simp only[aR,aA,fE,cN,uJ];have hdl:(s.drop (fk s).2).length=s.length-(fk s).2:=List.length_drop;rw[VS m f (s.drop (fk s).2) (out++[((fk s).1:Int)]) (by omega) (by omega) (by rw[cL];simp;omega) (by rw[v2];exact hv)];rw[gh,ak (by omega),v1,v2];simp
theorem aiu(s:List UInt8)(h:gm s=true):M.nH s=some (gh s.length s,true):=by
 unfold gm at h;rw[aW,bm]at h;obtain⟨f,hf⟩:∃f,ah=f+s.length+1:=⟨ah-(s.length+1),by have:=cH;omega⟩;unfold M.nH;rw[hf,VS s.length f s [] (bj _) (by omega) (by simp;omega) h.2];rfl
theorem aiv(s:List UInt8)(h:gm s=true):M.rJ s=some (gh s.length s):=by
 unfold gm at h;rw[aW,bm]at h;unfold M.rJ;rw[aY (by omega)];rfl
theorem EA:∀(m:Nat)(s:List UInt8),(gh m s).length<=m
 |0,s=>bj _
 |m+1,s=>by
  unfold gh;split
  ·simp
  ·have:=EA m (s.drop (decodeL s).2);simp only[bQ];omega
def uK(n:Int):List UInt8:=if n<65536 then fixF n 2
 else fixF (IntKind.wrap .i64 (55296+fX .i64 (IntKind.wrap .i64 (n-65536)) 10)) 2++fixF (IntKind.wrap .i64 (56320+dQ .and .i64 (IntKind.wrap .i64 (n-65536)) 1023)) 2
theorem Ji(n:Int):(uK n).length<=4:=by
 unfold uK;split
 ·rw[hZ];omega
 ·rw[cL,hZ,hZ];omega
theorem aiw(n:Int):M.wZ n=some (uK n):=by
 unfold M.wZ uK;by_cases h:n<65536
 ·rw[av h,aY h,aA,show(2:Int)=((2:Nat):Int)from rfl,sk n 2 (by omega)];rfl
 ·rw[ak h,bU h,aR,show(2:Int)=((2:Nat):Int)from rfl,sk _ 2 (by omega),sk _ 2 (by omega)];simp only[aS,aU,aP];rw[show eA (fixF (IntKind.wrap .i64 (55296+fX .i64 (IntKind.wrap .i64 (n-65536)) 10)) 2) (fixF (IntKind.wrap .i64 (56320+dQ .and .i64 (IntKind.wrap .i64 (n-65536)) 1023)) 2)=true from by
   unfold eA;rw[bm,hZ,hZ];omega]
  rfl
theorem aix(n:Int):M.wJ n=some (uK n):=by
 unfold M.wJ uK;by_cases h:n<65536
 ·rw[av h,aY h,aA,show(2:Int)=((2:Nat):Int)from rfl,Ep n 2 (by omega)];rfl
 ·rw[ak h,bU h,aR,show(2:Int)=((2:Nat):Int)from rfl,Ep _ 2 (by omega),Ep _ 2 (by omega)];simp only[aS,aU,aP];rw[show eA (fixF (IntKind.wrap .i64 (55296+fX .i64 (IntKind.wrap .i64 (n-65536)) 10)) 2) (fixF (IntKind.wrap .i64 (56320+dQ .and .i64 (IntKind.wrap .i64 (n-65536)) 1023)) 2)=true from by
   unfold eA;rw[bm,hZ,hZ];omega]
  rfl
def iY(enc:Int):List Int->Option (List UInt8)
 |[]=>some []
 |n::r=>if enc=2 then(iY enc r).map (uK n++·)else if n<256 then(iY enc r).map (fixF n 1++·)else none
def md(enc:Int)(s:List UInt8):Option (List UInt8):=if enc=1 then some s else iY enc (gh s.length s)
theorem Jj(enc:Int):∀(l:List Int)(b:List UInt8),iY enc l=some b->b.length<=4*l.length
 |[],b,h=>by simp[iY]at h;subst h;simp
 |n::r,b,h=>by
  unfold iY at h;have hp:=Ji n;have hf:=hZ n 1;split at h
  ·rw[dR]at h;obtain⟨x,h1,rfl⟩:=h;have:=Jj enc r x h1;rw[cL,bQ];omega
  ·split at h
   ·rw[dR]at h;obtain⟨x,h1,rfl⟩:=h;have:=Jj enc r x h1;rw[cL,bQ];omega
   ·cases h
theorem VV(enc:Int)(s b:List UInt8)(hs:gm s=true)(h:md enc s=some b):b.length<=96:=by
 unfold gm at hs;rw[aW,bm]at hs;unfold md at h;split at h
 ·simp only[ar]at h;subst h;omega
 ·have:=Jj enc _ b h;have:=EA s.length s;omega
theorem aiy(n:Int):fixF n 1=[eu (IntKind.wrap .u8 n)]:=rfl
theorem aiz(enc:Int)(s:List UInt8)(hs:gm s=true):M.rK enc s=some (match md enc s with|none=>([],19)|some b=>(b,0)):=by
 unfold M.rK md;by_cases h1:enc=1
 ·subst h1;rfl
 ·rw[ak h1,cq h1,aR,aiv s hs];simp only[aS,aU,aP];have hl:=EA s.length s;have aiA:s.length<=24:=by unfold gm at hs;rw[aW,bm]at hs;exact hs.1
  generalize hP:gh s.length s=P at*;have e:=j5 (F:=fun f i (a:List UInt8)=>M.mK enc (P.length:Int) P f a i) P (by omega)
   (fun r a=>some (match iY enc r with|none=>.inl ([],19)|some b=>.inr (a++b))) (fun k a=>a.length<=4*k) ?_ ?_ [] (by simp)
  ·have e':M.mK enc (P.length:Int) P ah [] 0=_:=e;rw[e'];cases iY enc P<;>rfl
  ·intro f k a hk hI ih
   show M.mK enc (P.length:Int) P (f+1) a (k:Int)=_
   rw[M.mK];have hpl:=Ji P[k];have hc:∀b:List UInt8,b.length<=4->eA a b=true:=fun b hb=>by unfold eA;rw[bm];omega
   simp only[cO,hk,cr,aA,cN,getD_lt hk,cB,aP,aiw,aS,aU,hc _ hpl];rw[cm hk (by omega:P.length<2^62),iY];by_cases h2:enc=2
   ·rw[av h2,h2];subst h2;simp only[mc,aA];rw[ih _ (by rw[cL];omega)];cases iY 2 (P.drop (k+1))<;>simp
   ·rw[ak h2,cq h2,aR,show(1:Int)=((1:Nat):Int)from rfl,sk _ 1 (by omega)];simp only[aS,aU,hc _ (by rw[hZ];omega:(fixF P[k] 1).length<=4),aP];by_cases h3:P[k]<256
    ·rw[av h3,aY h3,aA,aA,ih _ (by rw[cL,hZ];omega)];cases iY enc (P.drop (k+1))<;>simp
    ·rw[ak h3,bU h3];rfl
  ·intro f a hI
   show M.mK enc (P.length:Int) P (f+1) a (P.length:Int)=_
   rw[M.mK];simp[iY]
theorem aiB(enc:Int)(s:List UInt8)(hs:gm s=true):M.wK enc s=some (match md enc s with|none=>([],19)|some b=>(b,0)):=by
 unfold M.wK md;by_cases h1:enc=1
 ·subst h1;rfl
 ·rw[ak h1,cq h1,aR,aiu s hs];simp only[aS,aU,aP];have hl:=EA s.length s;have aiA:s.length<=24:=by unfold gm at hs;rw[aW,bm]at hs;exact hs.1
  generalize hP:gh s.length s=P at*;have e:=j5 (F:=fun f i (a:List UInt8)=>M.mH enc P f a i) P (by omega)
   (fun r a=>some (match iY enc r with|none=>.inl ([],19)|some b=>.inr (a++b))) (fun k a=>a.length<=4*k) ?_ ?_ [] (by simp)
  ·have e':M.mH enc P ah [] 0=_:=e;rw[e'];cases iY enc P<;>rfl
  ·intro f k a hk hI ih
   show M.mH enc P (f+1) a (k:Int)=_
   rw[M.mH];have hpl:=Ji P[k];have hc:∀b:List UInt8,b.length<=4->eA a b=true:=fun b hb=>by unfold eA;rw[bm];omega
   simp only[cO,hk,cr,aA,cN,getD_lt hk,cB,aP,aix,aS,aU,hc _ hpl,Ja];rw[cm hk (by omega:P.length<2^62),iY];by_cases h2:enc=2
   ·rw[av h2,h2];subst h2;simp only[mc,aA];rw[ih _ (by rw[cL];omega)];cases iY 2 (P.drop (k+1))<;>simp
   ·rw[ak h2,cq h2,aR];simp only[List.map_id',hc [eu (IntKind.wrap .u8 P[k])] (by simp),aP];by_cases h3:P[k]<256
    ·rw[av h3,bU (by omega:¬(255:Int)<P[k]),aR,aA,ih _ (by rw[cL];simp;omega),aiy];cases iY enc (P.drop (k+1))<;>simp
    ·rw[ak h3,aY (by omega:(255:Int)<P[k])];rfl
  ·intro f a hI
   show M.mH enc P (f+1) a (P.length:Int)=_
   rw[M.mH];simp[iY]
end M
