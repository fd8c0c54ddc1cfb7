/-
  MEMORIES by the program and by the reference: numbers as bytes, what is right, allocation, writing.
-/
import Derived.Test.YtalddlopgnfpaaaGreatDoorXILa
import Derived.Test.YtalddlopgnfpaaaGreatDoorXIU
import Derived.Test.YtalddlopgnfpaaaGreatDoorXIhandA
set_option linter.unusedVariables false
set_option linter.unusedSimpArgs false
namespace M
open Go Go.V
theorem wrap_u8(n:Int):IntKind.wrap .u8 n=n%256:=rfl
theorem FT(n:Int):eS (IntKind.wrap .u8 n)=true:=by
 rw[wrap_u8];unfold eS;rw[aU,aZ,aZ];omega
theorem adf(n:Int):IntKind.wrap .u8 (dR .and .i64 n 255)=IntKind.wrap .u8 n:=by
 have e:(BitVec.ofInt 64 n&&& BitVec.ofInt 64 (255:Int)).toNat=(n%18446744073709551616).toNat%256:=by
  rw[BitVec.toNat_and];have h1:(BitVec.ofInt 64 n).toNat=(n%18446744073709551616).toNat:=by rw[BitVec.toNat_ofInt];rfl
  have h2:(BitVec.ofInt 64 (255:Int)).toNat=255:=by decide
  rw[h1,h2];exact Nat.and_two_pow_sub_one_eq_mod _ 8
 have e2:dR .and .i64 n 255=IntKind.wrap .i64 (((n%18446744073709551616).toNat%256:Nat):Int):=by
  show IntKind.wrap .i64 (((BitVec.ofInt 64 n&&& BitVec.ofInt 64 (255:Int)).toNat:Nat):Int)=_
  rw[e]
 rw[e2,m5 _ (by omega),wrap_u8,wrap_u8];omega
theorem qm(n:Int)(k:Nat)(hk:k<=64):M.iw n (k:Int)=some (fixF n k):=by
 have e:=jl (F:=fun f i (a:Int×List UInt8)=>M.mL (k:Int) f a.1 i a.2) (List.replicate k ()) (by rw[dc];omega)
  (fun r a=>some (a.2++fixF a.1 r.length)) (fun j a=>a.2.length<=j) ?_ ?_ (n,[]) (bn _)
 ·have e':M.mL (k:Int) ai n 0 []=_:=e;unfold M.iw;rw[e'];simp
 ·rintro f j ⟨a1,a2⟩ hj hI ih
  simp only at hI;rw[dc]at hj
  show M.mL (k:Int) (f+1) _ (j:Int) _=_
  rw[M.mL];simp only[eF,hj,gQ,cE,FT,aQ,bY,iD];rw[bD (by omega:a2.length+(0+1)<=1073741824),cE,cq hj (by omega:k<2^62)];refine Eq.trans (ih (_,_) (by simp only[dj,bY,iD];omega)) ?_;simp[fixF];rfl
 ·rintro f ⟨a1,a2⟩ hI
  show M.mL (k:Int) (f+1) _ ((List.replicate k ()).length:Int) _=_
  rw[dc,M.mL];simp[fixF]
theorem A5(n:Int)(k:Nat)(hk:k<=8):M.mz n (k:Int)=some (fixF n k):=by
 have e:=jl (F:=fun f i (a:Int×List UInt8)=>M.my (k:Int) f a.1 i a.2) (List.replicate k ()) (by rw[dc];omega)
  (fun r a=>some (a.2++fixF a.1 r.length)) (fun j a=>a.2.length<=j) ?_ ?_ (n,[]) (bn _)
 ·have e':M.my (k:Int) ai n 0 []=_:=e;unfold M.mz;rw[e'];simp
 ·rintro f j ⟨a1,a2⟩ hj hI ih
  simp only at hI;rw[dc]at hj
  show M.my (k:Int) (f+1) _ (j:Int) _=_
  rw[M.my];have d1:decide ((k:Int)<=8)=true:=bD (by omega);have d2:decide ((0:Int)<=(k:Int))=true:=bD (by omega);simp only[eF,hj,gQ,cE,adf,FT,aQ,bY,iD,d1,d2];rw[bD (by omega:a2.length+(0+1)<=1073741824),cE,cq hj (by omega:k<2^62)];refine Eq.trans (ih (_,_) (by simp only[dj,bY,iD];omega)) ?_;simp[fixF];rfl
 ·rintro f ⟨a1,a2⟩ hI
  show M.my (k:Int) (f+1) _ ((List.replicate k ()).length:Int) _=_
  rw[dc,M.my];simp[fixF]
def fU(B:List UInt8)(F:List af):Bool:=decide (B.length<=4096)&&chainB B.length 7 F
def gn(B:List UInt8)(F:List af):Prop:=B.length<=4096/\Chain B.length 7 F
theorem A6(B:List UInt8)(F:List af):fU B F=true↔gn B F:=by unfold fU gn Chain;rw[aU,aZ]
theorem gn.len{B:List UInt8}{F:List af}(h:gn B F):F.length<=4096:=by
 by_cases h7:(7:Int)<=B.length
 ·have:=Chain.len h.2 h7;have:=h.1;omega
 ·cases F with
  |nil=>simp
  |cons b r=>have:=(lH.1 h.2).1;omega
def m6(e last:Int)(b:af):Bool:=((decide (1<=b.Size)&&decide (last<b.At))&&decide (b.At<=e))&&decide (b.Size<=e-b.At)
theorem QP(e last:Int)(b:af)(h0:0<=last)(he:0<=e)(h1:e<=1099511627776)(c:Bool)(hc:c=decide (b.Size<=0)):
 (((c||decide (b.At<=last))||decide (e<b.At))||decide (IntKind.wrap .i64 (e-b.At)<b.Size))= !m6 e last b:=by
 subst hc;unfold m6;by_cases a1:b.Size<=0
 ·rw[bD a1,av (by omega:¬1<=b.Size)];rfl
 ·rw[av a1,bD (by omega:1<=b.Size)];by_cases a2:b.At<=last
  ·rw[bD a2,av (by omega:¬last<b.At)];rfl
  ·rw[av a2,bD (by omega:last<b.At)];by_cases a3:e<b.At
   ·rw[bD a3,av (by omega:¬b.At<=e)];rfl
   ·rw[av a3,bD (by omega:b.At<=e),wrap_i64 (by omega) (by omega)];by_cases a4:e-b.At<b.Size
    ·rw[bD a4,av (by omega:¬b.Size<=e-b.At)];rfl
    ·rw[av a4,bD (by omega:b.Size<=e-b.At)];rfl
theorem adg(F:List af)(e:Nat)(hF:F.length<=1048576)(he:e<=1099511627776):M.uE F (e:Int)=some (chainB e 7 F):=by
 have e1:=jl (F:=fun f i (a:Int)=>M.mD (e:Int) F (F.length:Int) f a i) F (by omega)
  (fun r a=>some (if chainB e a r then .inr ()else .inl false)) (fun k a=>0<=a) ?_ ?_ 7 (by decide)
 ·have e':M.mD (e:Int) F (F.length:Int) ai 7 0=_:=e1;unfold M.uE;rw[e'];cases chainB e 7 F<;>rfl
 ·intro f k a hk hI ih
  show M.mD (e:Int) F (F.length:Int) (f+1) a (k:Int)=_
  rw[M.mD];simp only[eF,hk,gQ,cE,bP,getD_lt hk,cD,aQ,c9];rw[QP (e:Int) a F[k] hI (by omega) (by omega) _ rfl,cq hk (by omega:F.length<2^62)]
  show _=some (if chainB e a (F[k]::F.drop (k+1))then _ else _)
  rw[chainB];change(bif !m6 e a F[k]then _ else _)=some (if(m6 e a F[k]&&chainB e (F[k].At+F[k].Size) (F.drop (k+1)))=true then _ else _);cases hb:m6 e a F[k]with
  |false=>rfl
  |true=>
   unfold m6 at hb;simp only[aU,aZ]at hb;obtain⟨⟨⟨b1,b2⟩,b3⟩,b4⟩:=hb;rw[fO,aW,wrap_i64 (n:=F[k].At+F[k].Size) (by omega) (by omega),ih _ (by omega),c9]
 ·intro f a hI
  show M.mD (e:Int) F (F.length:Int) (f+1) a (F.length:Int)=_
  rw[M.mD];simp[chainB]
theorem adh(m:ax)(hB:m.Bytes.length<=1048576)(hF:m.Free.length<=1048576):M.uF m=some (fU m.Bytes m.Free):=by
 unfold M.uF fU;rw[adg m.Free m.Bytes.length hF (by omega)];have d:decide ((m.Bytes.length:Int)<=4096)=decide (m.Bytes.length<=4096):=by congr 1;exact propext ⟨fun h=>by omega,fun h=>by omega⟩
 rw[d];rfl
theorem adi(m:ax)(hB:m.Bytes.length<=1048576)(hF:m.Free.length<=1048576):M.uo m=some (fU m.Bytes m.Free):=by
 unfold M.uo;by_cases h1:m.Bytes.length<=4096
 ·by_cases h2:m.Free.length<=4096
  ·rw[av (by omega:¬(4096:Int)<(m.Bytes.length:Int)),av (by omega:¬(4096:Int)<(m.Free.length:Int)),gj,aW];have e1:=jl (F:=fun f i (a:Int)=>M.mn (m.Bytes.length:Int) m f a i) m.Free (by omega)
    (fun r a=>some (if chainB m.Bytes.length a r then .inr ()else .inl false)) (fun k a=>0<=a) ?_ ?_ 7 (by decide)
   ·have e':M.mn (m.Bytes.length:Int) m ai 7 0=_:=e1;rw[e'];unfold fU;rw[bD h1];cases chainB m.Bytes.length 7 m.Free<;>rfl
   ·intro f k a hk hI ih
    show M.mn (m.Bytes.length:Int) m (f+1) a (k:Int)=_
    rw[M.mn];simp only[eF,hk,gQ,cE,bP,getD_lt hk,cD,aQ,c9];rw[QP (m.Bytes.length:Int) a m.Free[k] hI (by omega) (by omega) _ (by congr 1;exact propext ⟨fun h=>by omega,fun h=>by omega⟩),cq hk (by omega:m.Free.length<2^62)]
    show _=some (if chainB m.Bytes.length a (m.Free[k]::m.Free.drop (k+1))then _ else _)
    rw[chainB];change(bif !m6 m.Bytes.length a m.Free[k]then _ else _)=some (if(m6 m.Bytes.length a m.Free[k]&&chainB m.Bytes.length (m.Free[k].At+m.Free[k].Size) (m.Free.drop (k+1)))=true then _ else _);cases hb:m6 m.Bytes.length a m.Free[k]with
    |false=>rfl
    |true=>
     unfold m6 at hb;simp only[aU,aZ]at hb;obtain⟨⟨⟨b1,b2⟩,b3⟩,b4⟩:=hb;rw[fO,aW,wrap_i64 (n:=m.Free[k].At+m.Free[k].Size) (by omega) (by omega),ih _ (by omega),c9]
   ·intro f a hI
    show M.mn (m.Bytes.length:Int) m (f+1) a (m.Free.length:Int)=_
    rw[M.mn];simp[chainB]
  ·rw[bD (by omega:(4096:Int)<(m.Free.length:Int)),lI,cE];have:fU m.Bytes m.Free=false:=by
    rw[yd];intro h;exact h2 (gn.len ((A6 _ _).1 h))
   rw[this]
 ·rw[bD (by omega:(4096:Int)<(m.Bytes.length:Int)),dy,cE];unfold fU;rw[av h1];rfl
theorem A8(B:List UInt8)(F:List af)(a:Int)(n:Nat)(hB:B.length<=4096)(hn:n<=1073741824):M.mK (M.eQ.mk B F) a (n:Int)=some (decide (0<=a/\a+n<=B.length)):=by
 unfold M.mK;congr 1;show(((decide ((0:Int)<=a)&&decide ((0:Int)<=(n:Int)))&&decide (a<=(B.length:Int)))&&decide ((n:Int)<=IntKind.wrap .i64 ((B.length:Int)-a)))=_
 by_cases h1:0<=a
 ·by_cases h2:a<=(B.length:Int)
  ·rw[wrap_i64 (by omega) (by omega),bD h1,bD h2,bD (by omega:(0:Int)<=(n:Int))];simp only[c9];congr 1;exact propext ⟨fun h=>⟨h1,by omega⟩,fun h=>by omega⟩
  ·rw[av h2,Bool.and_false,oy,av (by omega)]
 ·rw[av h1,oy,oy,oy,av (by omega)]
theorem adk(a:Int)(bs B:List UInt8)(F:List af)(hB:B.length<=4096)(hn:bs.length<=1073741824):∃b,M.uR a bs B F=some (b,ee a bs B,F):=by
 unfold M.uR ee;rw[A8 B F a bs.length hB hn];by_cases h:0<=a/\a+bs.length<=B.length
 ·rw[bG h,bD h];have h3:bF a (B.length:Int) B.length=true:=by unfold bF;simp;omega
  simp only[aC,fO,aW,aR,bP,h3,aQ,List.map_id'];rw[bD (bn _),bD (by omega),aQ,cE];exact⟨true,rfl⟩
 ·rw[bH h,av h];exact⟨false,rfl⟩
theorem A9(a:Int)(bs B:List UInt8)(F:List af)(x:Int)(hB:B.length<=4096)(hn:bs.length<=1073741824):M.jZ a bs x 0 B F=some (x,0,ee a bs B,F):=by
 obtain⟨b,e⟩:=adk a bs B F hB hn;unfold M.jZ;rw[e];rfl
theorem FU(a:Int)(bs B:List UInt8)(F:List af)(x c:Int)(hc:c≠0):M.jZ a bs x c B F=some (x,c,B,F):=by
 unfold M.jZ;rw[de hc];rfl
theorem QQ(a:Int)(bs B:List UInt8)(F:List af)(hB:B.length<=4096)(hF:F.length<=1073741824)(hn:bs.length<=1073741824):
 M.pU (M.ax.mk B F) a bs=some (if 0<=a/\a+bs.length<=B.length then(ee a bs B,0,F)else([],10,[])):=by
 unfold M.pU;have e:M.mw (M.ax.mk B F) a (bs.length:Int)=some (decide (0<=a/\a+bs.length<=B.length)):=by
  have:=A8 B F a bs.length hB hn;unfold M.mK at this;unfold M.mw;rw[<-this];simp only[Bool.and_comm (decide ((0:Int)<=(bs.length:Int)))]
 rw[e];by_cases h:0<=a/\a+bs.length<=B.length
 ·have h4:M.jW (M.ax.mk B F)=some (B,F):=by
   unfold M.jW;rw[bD (by show 0+F.length<=_;omega)];rfl
  obtain⟨n,rfl⟩:=mU h.1;have h1:bF 0 (n:Int) B.length=true:=by unfold bF;simp;omega
  have h2:bF ((n:Int)+bs.length) (B.length:Int) B.length=true:=by unfold bF;simp;omega
  have c1:dS (List.take n B) bs=true:=by unfold dS;rw[aZ,hU];omega
  have c2:dS (List.take n B++bs) (List.drop (n+bs.length) B)=true:=by unfold dS;rw[aZ,dj,hU,List.length_drop];omega
  rw[bG h,bD h,h4];simp only[aC,fO,aW,aR,bP,Int.toNat_zero,fN,aQ,sj,c9];rw[wrap_i64 (n:=(n:Int)+bs.length) (by omega) (by omega),h2,h1,show((n:Int)+(bs.length:Int)).toNat=n+bs.length by omega,c1,c2];unfold ee;rw[bG h];simp
 ·rw[bH h,av h];rfl
theorem Ba(a n:Int)(k:Nat)(B:List UInt8)(F:List af)(x c:Int)(hB:B.length<=4096)(hF:F.length<=1073741824)(hk:k<=8):M.ln a n (k:Int) B x c F=some (ee a (fixF n k) B,x,c,F):=by
 unfold M.ln;rw[A5 n k hk];simp only[aC];rw[QQ a (fixF n k) B F hB hF (by rw[gm];omega)];by_cases h:0<=a/\a+(fixF n k).length<=B.length
 ·rw[bG h];rfl
 ·rw[bH h];have:ee a (fixF n k) B=B:=by unfold ee;rw[bH h]
  rw[this];rfl
end M
namespace M
open Go Go.V
theorem Bc(x y z:List af)(hx:x.length<=65536)(hy:y.length<=65536)(hz:z.length<=65536):M.nZ [x,y,z]=some (x++(y++z)):=by
 obtain⟨f,hf⟩:∃f,ai=f+4:=⟨ai-4,by have:=cJ;omega⟩;have w1:IntKind.wrap .i64 ((0:Int)+(x.length:Int))=(x.length:Int):=by rw[wrap_i64 (by omega) (by omega)];omega
 have w2:IntKind.wrap .i64 ((x.length:Int)+(y.length:Int))=((x.length+y.length:Nat):Int):=by rw[wrap_i64 (by omega) (by omega)];omega
 have w3:IntKind.wrap .i64 (((x.length+y.length:Nat):Int)+(z.length:Int))=((x.length+y.length+z.length:Nat):Int):=by rw[wrap_i64 (by omega) (by omega)];omega
 have e0:M.nX [x,y,z] [x,y,z] 3 (f+4) 0 0=some ([x,y,z],((x.length+y.length+z.length:Nat):Int)):=by
  have n1:decide ((x.length:Int)<0)=false:=av (by omega);have n2:decide (((x.length+y.length:Nat):Int)<0)=false:=av (by omega);have n3:decide (((x.length+y.length+z.length:Nat):Int)<0)=false:=av (by omega);rw[M.nX];simp only[show decide ((0:Int)<3)=true from rfl,cE,show([x,y,z].getD (Int.toNat 0) [])=x from rfl,w1,n1,aW,show(inB 0 [x,y,z].length&&true)=true from rfl,show IntKind.wrap .i64 ((0:Int)+1)=1 from rfl];rw[M.nX];simp only[show decide ((1:Int)<3)=true from rfl,cE,show([x,y,z].getD (Int.toNat 1) [])=y from rfl,w2,n2,aW,show(inB 1 [x,y,z].length&&true)=true from rfl,show IntKind.wrap .i64 ((1:Int)+1)=2 from rfl];rw[M.nX];simp only[show decide ((2:Int)<3)=true from rfl,cE,show([x,y,z].getD (Int.toNat 2) [])=z from rfl,w3,n3,aW,show(inB 2 [x,y,z].length&&true)=true from rfl,show IntKind.wrap .i64 ((2:Int)+1)=3 from rfl];rw[M.nX];rfl
 have e1:M.nY [x,y,z] 3 (f+4) 0 []=some (x++(y++z)):=by
  rw[M.nY];simp only[show decide ((0:Int)<3)=true from rfl,cE,show([x,y,z].getD (Int.toNat 0) [])=x from rfl,show(inB 0 [x,y,z].length&&true)=true from rfl,show IntKind.wrap .i64 ((0:Int)+1)=1 from rfl,jB,iD];rw[bD (by omega:0+x.length<=1073741824),mR,cE,M.nY];simp only[show decide ((1:Int)<3)=true from rfl,cE,show([x,y,z].getD (Int.toNat 1) [])=y from rfl,show(inB 1 [x,y,z].length&&true)=true from rfl,show IntKind.wrap .i64 ((1:Int)+1)=2 from rfl];rw[bD (by omega:x.length+y.length<=1073741824),mR,cE,M.nY];simp only[show decide ((2:Int)<3)=true from rfl,cE,show([x,y,z].getD (Int.toNat 2) [])=z from rfl,show(inB 2 [x,y,z].length&&true)=true from rfl,show IntKind.wrap .i64 ((2:Int)+1)=3 from rfl];rw[bD (by rw[dj];omega:(x++y).length+z.length<=1073741824),mR,cE,M.nY];rw[fS];rfl
 unfold M.nZ;have l3:(([x,y,z]:List (List af)).length:Int)=3:=rfl;rw[hf,l3,e0];have g:M.qa ((x.length+y.length+z.length:Nat):Int)=some []:=by
  unfold M.qa;rw[bD (by omega),bD (by omega)];rfl
 simp only[g,aC,aR];rw[l3,e1];rfl
theorem QR{b:af}{al:Nat}(ha:cU al)(h0:0<=b.At)(h1:b.At<=1048576):M.iO b.At (al:Int)=some (dr b al):=by
 unfold dr;have:=xI b.At.toNat al ha (by omega)
 rwa [Int.toNat_of_nonneg h0]at this
theorem QS(k n:Nat)(h:k<=n):bF (k:Int) (n:Int) n=true:=by unfold bF;simp;omega
theorem QT(k n:Nat)(h:k<=n):bF 0 (k:Int) n=true:=by unfold bF;simp;omega
theorem adl(many al:Nat)(B:List UInt8)(F:List af)(hm:many<=1099511627776)(ha:cU al)(hM:gn B F):
 M.uQ (many:Int) (al:Int) B F=some (match eN many al F with|none=>(0,4,B,F)|some p=>(p.1,0,B,p.2)):=by
 have hF:=hM.len;unfold M.uQ eN;by_cases h0:many=0
 ·subst h0;rfl
 rw[bH h0,de (by omega:(many:Int)≠0),aW];have e:=vg (F:=fun f i=>M.mM (many:Int) (al:Int) (F.length:Int) F B f i) (n:=F.length)
  (res:=fun k=>some (match jH many al (F.drop k)with|none=>.inr (B,F)|some p=>.inl (p.1,0,B,F.take k++p.2))) (by omega) ?_ ?_
 ·have e':M.mM (many:Int) (al:Int) (F.length:Int) F B ai 0=_:=e;rw[e',fN];cases jH many al F with
  |none=>rfl
  |some p=>rfl
 ·intro f k hk ih;have hb:=Chain.mem hM.2 F[k] (an hk);have hB:=hM.1
  show M.mM (many:Int) (al:Int) (F.length:Int) F B (f+1) (k:Int)=_
  rw[M.mM];have hp:=QR (b:=F[k]) ha (by omega) (by omega);have hg:=FR (b:=F[k]) ha (by omega);have b9:=ha.le;simp only[eF,hk,gQ,cE,bP,getD_lt hk,cD,aQ,c9,hp,aC,aR];rw[wrap_i64 (n:=F[k].At+F[k].Size) (by omega) (by omega),wrap_i64 (n:=F[k].At+F[k].Size-dr F[k] al) (by omega) (by omega),cq hk (by omega:F.length<2^62),wrap_i64 (n:=dr F[k] al+many) (by omega) (by omega),wrap_i64 (n:=dr F[k] al-F[k].At) (by omega) (by omega),wrap_i64 (n:=F[k].At+F[k].Size-(dr F[k] al+many)) (by omega) (by omega)];simp only[bP,Int.toNat_zero,fN,sj,QS (k+1) F.length (by omega),QT k F.length (by omega),aQ,jB];rw[fe hk,jH];by_cases hc:dr F[k] al+many<=F[k].At+F[k].Size
  ·rw[bG hc,av (by omega:¬F[k].At+F[k].Size-dr F[k] al<(many:Int)),aW];simp only[xO];have l1:(F.take k).length<=65536:=by rw[hU];omega
   have l2:(F.drop (k+1)).length<=65536:=by rw[List.length_drop];omega
   by_cases c1:F[k].At<dr F[k] al
   ·rw[bG c1,bD c1,cE];by_cases c2:dr F[k] al+many<F[k].At+F[k].Size
    ·rw[bG c2,bD c2,cE,Bc _ _ _ l1 (by simp) l2];rfl
    ·rw[bH c2,av c2,aW,Bc _ _ _ l1 (by simp) l2];rfl
   ·rw[bH c1,av c1,aW];by_cases c2:dr F[k] al+many<F[k].At+F[k].Size
    ·rw[bG c2,bD c2,cE,Bc _ _ _ l1 (by simp) l2];rfl
    ·rw[bH c2,av c2,aW,Bc _ _ _ l1 (by simp) l2];rfl
  ·rw[bH hc,bD (by omega:F[k].At+F[k].Size-dr F[k] al<(many:Int)),cE];refine Eq.trans ih ?_;have ht:F.take (k+1)=F.take k++[F[k]]:=by rw[List.take_append_getElem hk]
   cases jH many al (F.drop (k+1))with
   |none=>rfl
   |some p=>simp only[ka,ht,fS,List.singleton_append]
 ·intro f
  show M.mM (many:Int) (al:Int) (F.length:Int) F B (f+1) (F.length:Int)=_
  rw[M.mM,j9];simp[jH]
theorem QU(many al:Nat)(B:List UInt8)(F:List af)(x:Int)(hm:many<=1099511627776)(ha:cU al)(hM:gn B F):
 M.oa (many:Int) (al:Int) x 0 B F=some (match eN many al F with|none=>(0,x,4,B,F)|some p=>(p.1,x,0,B,p.2)):=by
 unfold M.oa;rw[adl many al B F hm ha hM];cases eN many al F<;>rfl
theorem adn(many al:Int)(B:List UInt8)(F:List af)(x c:Int)(hc:c≠0):M.oa many al x c B F=some (0,x,c,B,F):=by
 unfold M.oa;have:(c !=0)=true:=by rw[sE];exact hc
 rw[this];rfl
theorem QV(B:List UInt8)(F:List af)(h:F.length<=1073741824):M.jW (M.ax.mk B F)=some (B,F):=by
 unfold M.jW;rw[bD (by show 0+F.length<=_;omega)];rfl
theorem ado(many al:Nat)(B:List UInt8)(F:List af)(hm:many<=1099511627776)(ha:cU al)(hM:gn B F):
 M.uz (M.ax.mk B F) (many:Int) (al:Int)=some (match eN many al F with|none=>([],0,4,[])|some p=>(B,p.1,0,p.2)):=by
 have hF:=hM.len;unfold M.uz eN;by_cases h0:many=0
 ·subst h0;rw[QV B F (by omega)];rfl
 rw[bH h0,de (by omega:(many:Int)≠0),aW];have e:=vg (F:=fun f i=>M.mA (many:Int) (al:Int) (M.ax.mk B F) [] [] f i) (n:=F.length)
  (res:=fun k=>some (match jH many al (F.drop k)with|none=>.inr ([],[])|some p=>.inl (p.1,0,B,F.take k++p.2))) (by omega) ?_ ?_
 ·have e':M.mA (many:Int) (al:Int) (M.ax.mk B F) [] [] ai 0=_:=e;rw[e',fN];cases jH many al F with
  |none=>rfl
  |some p=>rfl
 ·intro f k hk ih;have hb:=Chain.mem hM.2 F[k] (an hk);have hB:=hM.1
  show M.mA (many:Int) (al:Int) (M.ax.mk B F) [] [] (f+1) (k:Int)=_
  rw[M.mA];have hp:M.jf F[k].At (al:Int)=some (dr F[k] al):=QR (b:=F[k]) ha (by omega) (by omega);have hg:=FR (b:=F[k]) ha (by omega);have b9:=ha.le;simp only[eF,hk,gQ,cE,bP,getD_lt hk,cD,aQ,c9,hp,aC,aR];rw[wrap_i64 (n:=F[k].At+F[k].Size) (by omega) (by omega),wrap_i64 (n:=dr F[k] al-F[k].At) (by omega) (by omega),wrap_i64 (n:=F[k].Size-many) (by omega) (by omega),cq hk (by omega:F.length<2^62),wrap_i64 (n:=dr F[k] al+many) (by omega) (by omega),wrap_i64 (n:=F[k].At+F[k].Size-dr F[k] al) (by omega) (by omega),wrap_i64 (n:=F[k].At+F[k].Size-dr F[k] al-many) (by omega) (by omega)];simp only[bP,Int.toNat_zero,fN,sj,QS (k+1) F.length (by omega),QT k F.length (by omega),aQ,jB,hU,List.length_drop,dj,bY,iD];have s1:decide (0+min k F.length<=1073741824)=true:=bD (by omega);rw[fe hk,jH];by_cases hc:dr F[k] al+many<=F[k].At+F[k].Size
  ·rw[bG hc,av (by omega:¬F[k].Size<(many:Int)),av (by omega:¬F[k].Size-many<dr F[k] al-F[k].At),gj,aW];simp only[xO,s1];by_cases c1:F[k].At<dr F[k] al
   ·rw[bG c1,bD c1,cE];by_cases c2:dr F[k] al+many<F[k].At+F[k].Size
    ·rw[bG c2,bD (by omega:0<F[k].At+F[k].Size-dr F[k] al-many),cE,bD (by omega),bD (by omega),bD (by omega),show F[k].At+F[k].Size-dr F[k] al-many=F[k].At+F[k].Size-(dr F[k] al+many) by omega];simp
    ·rw[bH c2,av (by omega:¬0<F[k].At+F[k].Size-dr F[k] al-many),aW,bD (by omega),bD (by omega)];simp
   ·rw[bH c1,av c1,aW];by_cases c2:dr F[k] al+many<F[k].At+F[k].Size
    ·rw[bG c2,bD (by omega:0<F[k].At+F[k].Size-dr F[k] al-many),cE,bD (by omega),bD (by omega),show F[k].At+F[k].Size-dr F[k] al-many=F[k].At+F[k].Size-(dr F[k] al+many) by omega];simp
    ·rw[bH c2,av (by omega:¬0<F[k].At+F[k].Size-dr F[k] al-many),aW,bD (by omega)];simp
  ·rw[bH hc];have:(decide (F[k].Size<(many:Int))||decide (F[k].Size-many<dr F[k] al-F[k].At))=true:=by
    rw[iz,aZ,aZ];omega
   rw[this,cE];refine Eq.trans ih ?_;have ht:F.take (k+1)=F.take k++[F[k]]:=by rw[List.take_append_getElem hk]
   cases jH many al (F.drop (k+1))with
   |none=>rfl
   |some p=>simp only[ka,ht,fS,List.singleton_append]
 ·intro f
  show M.mA (many:Int) (al:Int) (M.ax.mk B F) [] [] (f+1) (F.length:Int)=_
  rw[M.mA,j9];simp[jH]
theorem QW(many al:Nat)(B:List UInt8)(F:List af)(x c:Int)(hm:many<=1099511627776)(ha:cU al)(hM:gn B F):
 M.pT (many:Int) (al:Int) B x c F=some (match eN many al F with|none=>(0,B,x,4,F)|some p=>(p.1,B,x,c,p.2)):=by
 unfold M.pT;rw[ado many al B F hm ha hM];cases eN many al F<;>rfl
end M
namespace M
open Go Go.V Go.Lib
theorem adp(m:Nat)(h:iE m=true):encodeRune (m:Int)=gp m:=by
 rw[FV]at h;have t:∀(z:Int)(n:Nat),z=(n:Int)->z.toNat.toUInt8=UInt8.ofNat n:=fun z n e=>by subst e;rfl
 unfold encodeRune gp;by_cases h1:m<128
 ·rw[encodeRuneZ_one (by omega) (by omega),bG h1];rfl
 ·rw[bH h1];by_cases h2:m<2048
  ·rw[encodeRuneZ_two (by omega) (by omega),bG h2];simp only[eB,List.map_nil];rw[t _ (192+m/64) (by omega),t _ (128+m%64) (by omega)]
  ·rw[bH h2];by_cases h3:m<65536
   ·rw[encodeRuneZ_three (by omega),bG h3];simp only[eB,List.map_nil];rw[t _ (224+m/4096) (by omega),t _ (128+m/64%64) (by omega),t _ (128+m%64) (by omega)]
   ·rw[bH h3,encodeRuneZ_four (by omega) (by omega)];simp only[eB,List.map_nil];rw[t _ (240+m/262144) (by omega),t _ (128+m/4096%64) (by omega),t _ (128+m/64%64) (by omega),t _ (128+m%64) (by omega)]
theorem adq{a b:Nat}(ha:a<=1114111)(hb:b<=1114111)(h:gp a=gp b):a=b:=by
 have e:eX a=eX b:=by
  have h1:=(Bd a ha (gp b)).1 (by rw[h,kD]);have h2:=(Bd b hb (gp b)).1 (by rw[kD]);rw[h1,h2]
 by_cases h1:b<128
 ·rw[show eX b=[b] by unfold eX;rw[bG h1],FW]at e;exact e.2
 ·by_cases h2:b<2048
  ·rw[show eX b=[192+b/64,128+b%64] by unfold eX;rw[bH h1,bG h2],FX]at e;omega
  ·by_cases h3:b<65536
   ·rw[show eX b=[224+b/4096,128+b/64%64,128+b%64] by unfold eX;rw[bH h1,bH h2,bG h3],FY]at e;omega
   ·rw[show eX b=[240+b/262144,128+b/4096%64,128+b/64%64,128+b%64] by unfold eX;rw[bH h1,bH h2,bH h3],FZ]at e;omega
theorem adr(s:List UInt8)(h:(eG s).2≠0):iE (eG s).1=true/\gp (eG s).1=s.take (eG s).2:=by
 unfold eG at h⊢;split at h
 ·exact absurd rfl h
 ·rename_i h1;rw[bH h1];split at h
  ·rename_i h2;rw[bG h2];rw[aU,jI]at h2;exact h2
  ·exact absurd rfl h
theorem ads(s:List UInt8)(hv:¬((decodeL s).1=65533/\(decodeL s).2=1)):iE (decodeL s).1=true:=by
 rw[FV];rw[decodeL_N]at hv⊢;have k0:=(s.getD 0 0).toNat_lt;rcases decodeN_shape s.length (s.getD 0 0).toNat (s.getD 1 0).toNat (s.getD 2 0).toNat (s.getD 3 0).toNat with⟨c,e⟩|⟨c1,c2,c3,cv,e⟩|⟨c1,c2,c3,c4,cv,cs,e⟩|⟨c1,c2,c3,c4,c5,cv,cw,e⟩|e
 ·rw[e];left;simp only;omega
 ·rw[e];left;simp only;omega
 ·rw[e];simp only;omega
 ·rw[e];simp only;omega
 ·rw[e]at hv;exact absurd ⟨rfl,rfl⟩ hv
theorem adt(s:List UInt8)(hne:s≠[])(hv:¬((decodeL s).1=65533/\(decodeL s).2=1)):(eG s).1=(decodeL s).1/\(eG s).2=(decodeL s).2:=by
 have hd:=QX s hne;rw[bH hv]at hd;have hw:=decodeL_width s;have hp:=adr s (by omega);have he:=encode_decode s hne hv;have ho:=ads s hv;rw[adp _ ho,<-hd,<-hp.2]at he;have h1:=F3 ho;have h2:=F3 hp.1;exact⟨(adq h1 h2 he).symm,hd⟩
theorem QY:∀(m f:Nat)(s:List UInt8)(out:List Int),s.length<=m->s.length<=1048576->out.length+s.length<=1048576->validGoD m s=true->
 M.nN (f+m+1) s out=some (.inr (out++fw m s))
 |0,f,s,out,hm,hs,ho,_=>by
  have e:s=[]:=cA (by omega);subst e;simp only[fw,mV];rfl
 |m+1,f,s,out,hm,hs,ho,hv=>by
  rw[show f+(m+1)+1=(f+m+1)+1 by omega,M.nN];by_cases hne:s=[]
  ·subst hne;rw[Qp,mV];rfl
  ·have hl:0<s.length:=List.length_pos_iff.2 hne;have d:decide ((0:Int)<(s.length:Int))=true:=bD (by omega);rw[d,QZ s hne hs];simp only[cE,aC,aR,aQ,bY,iD,fZ];rw[validGoD,bH hne]at hv;by_cases hb:(decodeL s).1=65533/\(decodeL s).2=1
   ·rw[bG hb]at hv;cases hv
   ·rw[bH hb]at hv;obtain⟨v1,v2⟩:=adt s hne hb;have hle:=Q0 s hne;have hw:=decodeL_width s;have d0:(((eG s).2:Int)==0)=false:=by rw[jj];omega
    have hsl:bF ((eG s).2:Int) (s.length:Int) s.length=true:=by unfold bF;simp;omega
    have hlen:decide (out.length+1<=1073741824)=true:=bD (by omega);rw[d0,hsl,hlen];simp only[aW,cE,mR,bP,sj];have hdl:(s.drop (eG s).2).length=s.length-(eG s).2:=List.length_drop;rw[QY m f (s.drop (eG s).2) (out++[((eG s).1:Int)]) (by omega) (by omega) (by rw[dj];simp;omega) (by rw[v2];exact hv)];rw[fw,bH (by omega),v1,v2];simp
theorem adu(s:List UInt8)(h:fA s=true):M.mf s=some (fw s.length s,true):=by
 unfold fA at h;rw[aU,aZ]at h;obtain⟨f,hf⟩:∃f,ai=f+s.length+1:=⟨ai-(s.length+1),by have:=cJ;omega⟩;unfold M.mf;rw[hf,QY s.length f s [] (bn _) (by omega) (by simp;omega) h.2];rfl
theorem adv(s:List UInt8)(h:fA s=true):M.pZ s=some (fw s.length s):=by
 unfold fA at h;rw[aU,aZ]at h;unfold M.pZ;rw[bD (by omega)];rfl
theorem Be:∀(m:Nat)(s:List UInt8),(fw m s).length<=m
 |0,s=>bn _
 |m+1,s=>by
  unfold fw;split
  ·simp
  ·have:=Be m (s.drop (decodeL s).2);simp only[bY];omega
def sk(n:Int):List UInt8:=if n<65536 then fixF n 2
 else fixF (IntKind.wrap .i64 (55296+ft .i64 (IntKind.wrap .i64 (n-65536)) 10)) 2++fixF (IntKind.wrap .i64 (56320+dR .and .i64 (IntKind.wrap .i64 (n-65536)) 1023)) 2
theorem F4(n:Int):(sk n).length<=4:=by
 unfold sk;split
 ·rw[gm];omega
 ·rw[dj,gm,gm];omega
theorem adw(n:Int):M.uN n=some (sk n):=by
 unfold M.uN sk;by_cases h:n<65536
 ·rw[bG h,bD h,cE,show(2:Int)=((2:Nat):Int)from rfl,qm n 2 (by omega)];rfl
 ·rw[bH h,av h,aW,show(2:Int)=((2:Nat):Int)from rfl,qm _ 2 (by omega),qm _ 2 (by omega)];simp only[aC,aR,aQ];rw[show dS (fixF (IntKind.wrap .i64 (55296+ft .i64 (IntKind.wrap .i64 (n-65536)) 10)) 2) (fixF (IntKind.wrap .i64 (56320+dR .and .i64 (IntKind.wrap .i64 (n-65536)) 1023)) 2)=true from by
   unfold dS;rw[aZ,gm,gm];omega]
  rfl
theorem adx(n:Int):M.ux n=some (sk n):=by
 unfold M.ux sk;by_cases h:n<65536
 ·rw[bG h,bD h,cE,show(2:Int)=((2:Nat):Int)from rfl,A5 n 2 (by omega)];rfl
 ·rw[bH h,av h,aW,show(2:Int)=((2:Nat):Int)from rfl,A5 _ 2 (by omega),A5 _ 2 (by omega)];simp only[aC,aR,aQ];rw[show dS (fixF (IntKind.wrap .i64 (55296+ft .i64 (IntKind.wrap .i64 (n-65536)) 10)) 2) (fixF (IntKind.wrap .i64 (56320+dR .and .i64 (IntKind.wrap .i64 (n-65536)) 1023)) 2)=true from by
   unfold dS;rw[aZ,gm,gm];omega]
  rfl
def ib(enc:Int):List Int->Option (List UInt8)
 |[]=>some []
 |n::r=>if enc=2 then(ib enc r).map (sk n++·)else if n<256 then(ib enc r).map (fixF n 1++·)else none
def kE(enc:Int)(s:List UInt8):Option (List UInt8):=if enc=1 then some s else ib enc (fw s.length s)
theorem F5(enc:Int):∀(l:List Int)(b:List UInt8),ib enc l=some b->b.length<=4*l.length
 |[],b,h=>by simp[ib]at h;subst h;simp
 |n::r,b,h=>by
  unfold ib at h;have hp:=F4 n;have hf:=gm n 1;split at h
  ·rw[dB]at h;obtain⟨x,h1,rfl⟩:=h;have:=F5 enc r x h1;rw[dj,bY];omega
  ·split at h
   ·rw[dB]at h;obtain⟨x,h1,rfl⟩:=h;have:=F5 enc r x h1;rw[dj,bY];omega
   ·cases h
theorem Q1(enc:Int)(s b:List UInt8)(hs:fA s=true)(h:kE enc s=some b):b.length<=96:=by
 unfold fA at hs;rw[aU,aZ]at hs;unfold kE at h;split at h
 ·simp only[ak]at h;subst h;omega
 ·have:=F5 enc _ b h;have:=Be s.length s;omega
theorem ady(n:Int):fixF n 1=[dO (IntKind.wrap .u8 n)]:=rfl
theorem adz(enc:Int)(s:List UInt8)(hs:fA s=true):M.uO enc s=some (match kE enc s with|none=>([],19)|some b=>(b,0)):=by
 unfold M.uO kE;by_cases h1:enc=1
 ·subst h1;rfl
 ·rw[bH h1,de h1,aW,adv s hs];simp only[aC,aR,aQ];have hl:=Be s.length s;have adA:s.length<=24:=by unfold fA at hs;rw[aU,aZ]at hs;exact hs.1
  generalize hP:fw s.length s=P at*;have e:=jl (F:=fun f i (a:List UInt8)=>M.lq enc (P.length:Int) P f a i) P (by omega)
   (fun r a=>some (match ib enc r with|none=>.inl ([],19)|some b=>.inr (a++b))) (fun k a=>a.length<=4*k) ?_ ?_ [] (by simp)
  ·have e':M.lq enc (P.length:Int) P ai [] 0=_:=e;rw[e'];cases ib enc P<;>rfl
  ·intro f k a hk hI ih
   show M.lq enc (P.length:Int) P (f+1) a (k:Int)=_
   rw[M.lq];have hpl:=F4 P[k];have hc:∀b:List UInt8,b.length<=4->dS a b=true:=fun b hb=>by unfold dS;rw[aZ];omega
   simp only[eF,hk,gQ,cE,bP,getD_lt hk,cD,aQ,adw,aC,aR,hc _ hpl];rw[cq hk (by omega:P.length<2^62),ib];by_cases h2:enc=2
   ·rw[bG h2,h2];subst h2;simp only[kD,cE];rw[ih _ (by rw[dj];omega)];cases ib 2 (P.drop (k+1))<;>simp
   ·rw[bH h2,de h2,aW,show(1:Int)=((1:Nat):Int)from rfl,qm _ 1 (by omega)];simp only[aC,aR,hc _ (by rw[gm];omega:(fixF P[k] 1).length<=4),aQ];by_cases h3:P[k]<256
    ·rw[bG h3,bD h3,cE,cE,ih _ (by rw[dj,gm];omega)];cases ib enc (P.drop (k+1))<;>simp
    ·rw[bH h3,av h3];rfl
  ·intro f a hI
   show M.lq enc (P.length:Int) P (f+1) a (P.length:Int)=_
   rw[M.lq];simp[ib]
theorem adB(enc:Int)(s:List UInt8)(hs:fA s=true):M.uy enc s=some (match kE enc s with|none=>([],19)|some b=>(b,0)):=by
 unfold M.uy kE;by_cases h1:enc=1
 ·subst h1;rfl
 ·rw[bH h1,de h1,aW,adu s hs];simp only[aC,aR,aQ];have hl:=Be s.length s;have adA:s.length<=24:=by unfold fA at hs;rw[aU,aZ]at hs;exact hs.1
  generalize hP:fw s.length s=P at*;have e:=jl (F:=fun f i (a:List UInt8)=>M.lj enc P f a i) P (by omega)
   (fun r a=>some (match ib enc r with|none=>.inl ([],19)|some b=>.inr (a++b))) (fun k a=>a.length<=4*k) ?_ ?_ [] (by simp)
  ·have e':M.lj enc P ai [] 0=_:=e;rw[e'];cases ib enc P<;>rfl
  ·intro f k a hk hI ih
   show M.lj enc P (f+1) a (k:Int)=_
   rw[M.lj];have hpl:=F4 P[k];have hc:∀b:List UInt8,b.length<=4->dS a b=true:=fun b hb=>by unfold dS;rw[aZ];omega
   simp only[eF,hk,gQ,cE,bP,getD_lt hk,cD,aQ,adx,aC,aR,hc _ hpl,FT];rw[cq hk (by omega:P.length<2^62),ib];by_cases h2:enc=2
   ·rw[bG h2,h2];subst h2;simp only[kD,cE];rw[ih _ (by rw[dj];omega)];cases ib 2 (P.drop (k+1))<;>simp
   ·rw[bH h2,de h2,aW];simp only[List.map_id',hc [dO (IntKind.wrap .u8 P[k])] (by simp),aQ];by_cases h3:P[k]<256
    ·rw[bG h3,av (by omega:¬(255:Int)<P[k]),aW,cE,ih _ (by rw[dj];simp;omega),ady];cases ib enc (P.drop (k+1))<;>simp
    ·rw[bH h3,bD (by omega:(255:Int)<P[k])];rfl
  ·intro f a hI
   show M.lj enc P (f+1) a (P.length:Int)=_
   rw[M.lj];simp[ib]
end M
