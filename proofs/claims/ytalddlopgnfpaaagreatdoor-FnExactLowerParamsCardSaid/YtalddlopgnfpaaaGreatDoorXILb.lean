/-
  MEMORIES by the program and by the reference: numbers as bytes, what is right, allocation, writing.
-/
import Derived.Test.YtalddlopgnfpaaaGreatDoorXILa
import Derived.Test.YtalddlopgnfpaaaGreatDoorXIU
import Derived.Test.YtalddlopgnfpaaaGreatDoorXIhandA
set_option linter.unusedVariables false
set_option linter.unusedSimpArgs false
namespace M
open Go Go.V
theorem wrap_u8(n:Int):IntKind.wrap .u8 n=n%256:=rfl
theorem JZ(n:Int):fH (IntKind.wrap .u8 n)=true:=by
 rw[wrap_u8];unfold fH;rw[aZ,bh,bh];omega
theorem akp(n:Int):IntKind.wrap .u8 (dX .and .i64 n 255)=IntKind.wrap .u8 n:=by
 have e:(BitVec.ofInt 64 n&&& BitVec.ofInt 64 (255:Int)).toNat=(n%18446744073709551616).toNat%256:=by
  rw[BitVec.toNat_and];have h1:(BitVec.ofInt 64 n).toNat=(n%18446744073709551616).toNat:=by rw[BitVec.toNat_ofInt];rfl
  have h2:(BitVec.ofInt 64 (255:Int)).toNat=255:=by decide
  rw[h1,h2];exact Nat.and_two_pow_sub_one_eq_mod _ 8
 have e2:dX .and .i64 n 255=IntKind.wrap .i64 (((n%18446744073709551616).toNat%256:Nat):Int):=by
  show IntKind.wrap .i64 (((BitVec.ofInt 64 n&&& BitVec.ofInt 64 (255:Int)).toNat:Nat):Int)=_
  rw[e]
 rw[e2,m5 _ (by omega),wrap_u8,wrap_u8];omega
theorem sM(n:Int)(k:Nat)(hk:k<=64):M.jn n (k:Int)=some (fixF n k):=by
 have e:=kd (F:=fun f i (a:Int×List UInt8)=>M.oi (k:Int) f a.1 i a.2) (List.replicate k ()) (by rw[gw];omega)
  (fun r a=>some (a.2++fixF a.1 r.length)) (fun j a=>a.2.length<=j) ?_ ?_ (n,[]) (bg _)
 ·have e':M.oi (k:Int) ah n 0 []=_:=e;unfold M.jn;rw[e'];simp
 ·rintro f j ⟨a1,a2⟩ hj hI ih
  simp only at hI;rw[gw]at hj
  show M.oi (k:Int) (f+1) _ (j:Int) _=_
  rw[M.oi];simp only[cJ,hj,cn,aA,JZ,aO,bX,dn];rw[aY (by omega:a2.length+(0+1)<=1073741824),aA,cm hj (by omega:k<2^62)];refine Eq.trans (ih (_,_) (by simp only[cI,bX,dn];omega)) ?_;simp[fixF];rfl
 ·rintro f ⟨a1,a2⟩ hI
  show M.oi (k:Int) (f+1) _ ((List.replicate k ()).length:Int) _=_
  rw[gw,M.oi];simp[fixF]
theorem E3(n:Int)(k:Nat)(hk:k<=8):M.nW n (k:Int)=some (fixF n k):=by
 have e:=kd (F:=fun f i (a:Int×List UInt8)=>M.nV (k:Int) f a.1 i a.2) (List.replicate k ()) (by rw[gw];omega)
  (fun r a=>some (a.2++fixF a.1 r.length)) (fun j a=>a.2.length<=j) ?_ ?_ (n,[]) (bg _)
 ·have e':M.nV (k:Int) ah n 0 []=_:=e;unfold M.nW;rw[e'];simp
 ·rintro f j ⟨a1,a2⟩ hj hI ih
  simp only at hI;rw[gw]at hj
  show M.nV (k:Int) (f+1) _ (j:Int) _=_
  rw[M.nV];have d1:decide ((k:Int)<=8)=true:=aY (by omega);have d2:decide ((0:Int)<=(k:Int))=true:=aY (by omega);simp only[cJ,hj,cn,aA,akp,JZ,aO,bX,dn,d1,d2];rw[aY (by omega:a2.length+(0+1)<=1073741824),aA,cm hj (by omega:k<2^62)];refine Eq.trans (ih (_,_) (by simp only[cI,bX,dn];omega)) ?_;simp[fixF];rfl
 ·rintro f ⟨a1,a2⟩ hI
  show M.nV (k:Int) (f+1) _ ((List.replicate k ()).length:Int) _=_
  rw[gw,M.nV];simp[fixF]
def jI(B:List UInt8)(F:List af):Bool:=decide (B.length<=4096)&&chainB B.length 7 F
def i4(B:List UInt8)(F:List af):Prop:=B.length<=4096/\Chain B.length 7 F
theorem Xr(B:List UInt8)(F:List af):jI B F=true↔i4 B F:=by unfold jI i4 Chain;rw[aZ,bh]
theorem i4.len{B:List UInt8}{F:List af}(h:i4 B F):F.length<=4096:=by
 by_cases h7:(7:Int)<=B.length
 ·have:=Chain.len h.2 h7;have:=h.1;omega
 ·cases F with
  |nil=>simp
  |cons b r=>have:=(m4.1 h.2).1;omega
def oO(e last:Int)(b:af):Bool:=((decide (1<=b.Size)&&decide (last<b.At))&&decide (b.At<=e))&&decide (b.Size<=e-b.At)
theorem Xs(e last:Int)(b:af)(h0:0<=last)(he:0<=e)(h1:e<=1099511627776)(c:Bool)(hc:c=decide (b.Size<=0)):
 (((c||decide (b.At<=last))||decide (e<b.At))||decide (IntKind.wrap .i64 (e-b.At)<b.Size))= !oO e last b:=by
 subst hc;unfold oO;by_cases a1:b.Size<=0
 ·rw[aY a1,bU (by omega:¬1<=b.Size)];rfl
 ·rw[bU a1,aY (by omega:1<=b.Size)];by_cases a2:b.At<=last
  ·rw[aY a2,bU (by omega:¬last<b.At)];rfl
  ·rw[bU a2,aY (by omega:last<b.At)];by_cases a3:e<b.At
   ·rw[aY a3,bU (by omega:¬b.At<=e)];rfl
   ·rw[bU a3,aY (by omega:b.At<=e),wrap_i64 (by omega) (by omega)];by_cases a4:e-b.At<b.Size
    ·rw[aY a4,bU (by omega:¬b.Size<=e-b.At)];rfl
    ·rw[bU a4,aY (by omega:b.Size<=e-b.At)];rfl
theorem akq(F:List af)(e:Nat)(hF:F.length<=1048576)(he:e<=1099511627776):M.xi F (e:Int)=some (chainB e 7 F):=by
 have e1:=kd (F:=fun f i (a:Int)=>M.nY (e:Int) F (F.length:Int) f a i) F (by omega)
  (fun r a=>some (if chainB e a r then .inr ()else .inl false)) (fun k a=>0<=a) ?_ ?_ 7 (by decide)
 ·have e':M.nY (e:Int) F (F.length:Int) ah 7 0=_:=e1;unfold M.xi;rw[e'];cases chainB e 7 F<;>rfl
 ·intro f k a hk hI ih
  show M.nY (e:Int) F (F.length:Int) (f+1) a (k:Int)=_
  rw[M.nY];simp only[cJ,hk,cn,aA,bL,getD_lt hk,cq,aO,bM];rw[Xs (e:Int) a F[k] hI (by omega) (by omega) _ rfl,cm hk (by omega:F.length<2^62)]
  show _=some (if chainB e a (F[k]::F.drop (k+1))then _ else _)
  rw[chainB];change(bif !oO e a F[k]then _ else _)=some (if(oO e a F[k]&&chainB e (F[k].At+F[k].Size) (F.drop (k+1)))=true then _ else _);cases hb:oO e a F[k]with
  |false=>rfl
  |true=>
   unfold oO at hb;simp only[aZ,bh]at hb;obtain⟨⟨⟨b1,b2⟩,b3⟩,b4⟩:=hb;rw[gz,aT,wrap_i64 (n:=F[k].At+F[k].Size) (by omega) (by omega),ih _ (by omega),bM]
 ·intro f a hI
  show M.nY (e:Int) F (F.length:Int) (f+1) a (F.length:Int)=_
  rw[M.nY];simp[chainB]
theorem akr(m:aB)(hB:m.Bytes.length<=1048576)(hF:m.Free.length<=1048576):M.xj m=some (jI m.Bytes m.Free):=by
 unfold M.xj jI;rw[akq m.Free m.Bytes.length hF (by omega)];have d:decide ((m.Bytes.length:Int)<=4096)=decide (m.Bytes.length<=4096):=by congr 1;exact propext ⟨fun h=>by omega,fun h=>by omega⟩
 rw[d];rfl
theorem aks(m:aB)(hB:m.Bytes.length<=1048576)(hF:m.Free.length<=1048576):M.wZ m=some (jI m.Bytes m.Free):=by
 unfold M.wZ;by_cases h1:m.Bytes.length<=4096
 ·by_cases h2:m.Free.length<=4096
  ·rw[bU (by omega:¬(4096:Int)<(m.Bytes.length:Int)),bU (by omega:¬(4096:Int)<(m.Free.length:Int)),ip,aT];have e1:=kd (F:=fun f i (a:Int)=>M.nS (m.Bytes.length:Int) m f a i) m.Free (by omega)
    (fun r a=>some (if chainB m.Bytes.length a r then .inr ()else .inl false)) (fun k a=>0<=a) ?_ ?_ 7 (by decide)
   ·have e':M.nS (m.Bytes.length:Int) m ah 7 0=_:=e1;rw[e'];unfold jI;rw[aY h1];cases chainB m.Bytes.length 7 m.Free<;>rfl
   ·intro f k a hk hI ih
    show M.nS (m.Bytes.length:Int) m (f+1) a (k:Int)=_
    rw[M.nS];simp only[cJ,hk,cn,aA,bL,getD_lt hk,cq,aO,bM];rw[Xs (m.Bytes.length:Int) a m.Free[k] hI (by omega) (by omega) _ (by congr 1;exact propext ⟨fun h=>by omega,fun h=>by omega⟩),cm hk (by omega:m.Free.length<2^62)]
    show _=some (if chainB m.Bytes.length a (m.Free[k]::m.Free.drop (k+1))then _ else _)
    rw[chainB];change(bif !oO m.Bytes.length a m.Free[k]then _ else _)=some (if(oO m.Bytes.length a m.Free[k]&&chainB m.Bytes.length (m.Free[k].At+m.Free[k].Size) (m.Free.drop (k+1)))=true then _ else _);cases hb:oO m.Bytes.length a m.Free[k]with
    |false=>rfl
    |true=>
     unfold oO at hb;simp only[aZ,bh]at hb;obtain⟨⟨⟨b1,b2⟩,b3⟩,b4⟩:=hb;rw[gz,aT,wrap_i64 (n:=m.Free[k].At+m.Free[k].Size) (by omega) (by omega),ih _ (by omega),bM]
   ·intro f a hI
    show M.nS (m.Bytes.length:Int) m (f+1) a (m.Free.length:Int)=_
    rw[M.nS];simp[chainB]
  ·rw[aY (by omega:(4096:Int)<(m.Free.length:Int)),kN,aA];have:jI m.Bytes m.Free=false:=by
    rw[E4];intro h;exact h2 (i4.len ((Xr _ _).1 h))
   rw[this]
 ·rw[aY (by omega:(4096:Int)<(m.Bytes.length:Int)),cD,aA];unfold jI;rw[bU h1];rfl
theorem Xt(B:List UInt8)(F:List af)(a:Int)(n:Nat)(hB:B.length<=4096)(hn:n<=1073741824):M.uI (M.ig.mk B F) a (n:Int)=some (decide (0<=a/\a+n<=B.length)):=by
 unfold M.uI;congr 1;show(((decide ((0:Int)<=a)&&decide ((0:Int)<=(n:Int)))&&decide (a<=(B.length:Int)))&&decide ((n:Int)<=IntKind.wrap .i64 ((B.length:Int)-a)))=_
 by_cases h1:0<=a
 ·by_cases h2:a<=(B.length:Int)
  ·rw[wrap_i64 (by omega) (by omega),aY h1,aY h2,aY (by omega:(0:Int)<=(n:Int))];simp only[bM];congr 1;exact propext ⟨fun h=>⟨h1,by omega⟩,fun h=>by omega⟩
  ·rw[bU h2,Bool.and_false,oP,bU (by omega)]
 ·rw[bU h1,oP,oP,oP,bU (by omega)]
theorem akt(a:Int)(bs B:List UInt8)(F:List af)(hB:B.length<=4096)(hn:bs.length<=1073741824):∃b,M.xu a bs B F=some (b,eX a bs B,F):=by
 unfold M.xu eX;rw[Xt B F a bs.length hB hn];by_cases h:0<=a/\a+bs.length<=B.length
 ·rw[av h,aY h];have h3:bV a (B.length:Int) B.length=true:=by unfold bV;simp;omega
  simp only[aQ,gz,aT,aU,bL,h3,aO,List.map_id'];rw[aY (bg _),aY (by omega),aO,aA];exact⟨true,rfl⟩
 ·rw[an h,bU h];exact⟨false,rfl⟩
theorem E5(a:Int)(bs B:List UInt8)(F:List af)(x:Int)(hB:B.length<=4096)(hn:bs.length<=1073741824):M.j0 a bs x 0 B F=some (x,0,eX a bs B,F):=by
 obtain⟨b,e⟩:=akt a bs B F hB hn;unfold M.j0;rw[e];rfl
theorem J0(a:Int)(bs B:List UInt8)(F:List af)(x c:Int)(hc:c≠0):M.j0 a bs x c B F=some (x,c,B,F):=by
 unfold M.j0;rw[cr hc];rfl
theorem Xu(a:Int)(bs B:List UInt8)(F:List af)(hB:B.length<=4096)(hF:F.length<=1073741824)(hn:bs.length<=1073741824):
 M.rM (M.aB.mk B F) a bs=some (if 0<=a/\a+bs.length<=B.length then(eX a bs B,0,F)else([],10,[])):=by
 unfold M.rM;have e:M.xa (M.aB.mk B F) a (bs.length:Int)=some (decide (0<=a/\a+bs.length<=B.length)):=by
  have:=Xt B F a bs.length hB hn;unfold M.uI at this;unfold M.xa;rw[<-this];simp only[Bool.and_comm (decide ((0:Int)<=(bs.length:Int)))]
 rw[e];by_cases h:0<=a/\a+bs.length<=B.length
 ·have h4:M.jm (M.aB.mk B F)=some (B,F):=by
   unfold M.jm;rw[aY (by show 0+F.length<=_;omega)];rfl
  obtain⟨n,rfl⟩:=mW h.1;have h1:bV 0 (n:Int) B.length=true:=by unfold bV;simp;omega
  have h2:bV ((n:Int)+bs.length) (B.length:Int) B.length=true:=by unfold bV;simp;omega
  have c1:eE (List.take n B) bs=true:=by unfold eE;rw[bh,i3];omega
  have c2:eE (List.take n B++bs) (List.drop (n+bs.length) B)=true:=by unfold eE;rw[bh,cI,i3,List.length_drop];omega
  rw[av h,aY h,h4];simp only[aQ,gz,aT,aU,bL,Int.toNat_zero,ej,aO,vf,bM];rw[wrap_i64 (n:=(n:Int)+bs.length) (by omega) (by omega),h2,h1,show((n:Int)+(bs.length:Int)).toNat=n+bs.length by omega,c1,c2];unfold eX;rw[av h];simp
 ·rw[an h,bU h];rfl
theorem E6(a n:Int)(k:Nat)(B:List UInt8)(F:List af)(x c:Int)(hB:B.length<=4096)(hF:F.length<=1073741824)(hk:k<=8):M.mM a n (k:Int) B x c F=some (eX a (fixF n k) B,x,c,F):=by
 unfold M.mM;rw[E3 n k hk];simp only[aQ];rw[Xu a (fixF n k) B F hB hF (by rw[iq];omega)];by_cases h:0<=a/\a+(fixF n k).length<=B.length
 ·rw[av h];rfl
 ·rw[an h];have:eX a (fixF n k) B=B:=by unfold eX;rw[an h]
  rw[this];rfl
end M
namespace M
open Go Go.V
theorem E7(x y z:List af)(hx:x.length<=65536)(hy:y.length<=65536)(hz:z.length<=65536):M.qe [x,y,z]=some (x++(y++z)):=by
 obtain⟨f,hf⟩:∃f,ah=f+4:=⟨ah-4,by have:=cC;omega⟩;have w1:IntKind.wrap .i64 ((0:Int)+(x.length:Int))=(x.length:Int):=by rw[wrap_i64 (by omega) (by omega)];omega
 have w2:IntKind.wrap .i64 ((x.length:Int)+(y.length:Int))=((x.length+y.length:Nat):Int):=by rw[wrap_i64 (by omega) (by omega)];omega
 have w3:IntKind.wrap .i64 (((x.length+y.length:Nat):Int)+(z.length:Int))=((x.length+y.length+z.length:Nat):Int):=by rw[wrap_i64 (by omega) (by omega)];omega
 have e0:M.qc [x,y,z] [x,y,z] 3 (f+4) 0 0=some ([x,y,z],((x.length+y.length+z.length:Nat):Int)):=by
  have n1:decide ((x.length:Int)<0)=false:=bU (by omega);have n2:decide (((x.length+y.length:Nat):Int)<0)=false:=bU (by omega);have n3:decide (((x.length+y.length+z.length:Nat):Int)<0)=false:=bU (by omega);rw[M.qc];simp only[show decide ((0:Int)<3)=true from rfl,aA,show([x,y,z].getD (Int.toNat 0) [])=x from rfl,w1,n1,aT,show(inB 0 [x,y,z].length&&true)=true from rfl,show IntKind.wrap .i64 ((0:Int)+1)=1 from rfl];rw[M.qc];simp only[show decide ((1:Int)<3)=true from rfl,aA,show([x,y,z].getD (Int.toNat 1) [])=y from rfl,w2,n2,aT,show(inB 1 [x,y,z].length&&true)=true from rfl,show IntKind.wrap .i64 ((1:Int)+1)=2 from rfl];rw[M.qc];simp only[show decide ((2:Int)<3)=true from rfl,aA,show([x,y,z].getD (Int.toNat 2) [])=z from rfl,w3,n3,aT,show(inB 2 [x,y,z].length&&true)=true from rfl,show IntKind.wrap .i64 ((2:Int)+1)=3 from rfl];rw[M.qc];rfl
 have e1:M.qd [x,y,z] 3 (f+4) 0 []=some (x++(y++z)):=by
  rw[M.qd];simp only[show decide ((0:Int)<3)=true from rfl,aA,show([x,y,z].getD (Int.toNat 0) [])=x from rfl,show(inB 0 [x,y,z].length&&true)=true from rfl,show IntKind.wrap .i64 ((0:Int)+1)=1 from rfl,jF,dn];rw[aY (by omega:0+x.length<=1073741824),fF,aA,M.qd];simp only[show decide ((1:Int)<3)=true from rfl,aA,show([x,y,z].getD (Int.toNat 1) [])=y from rfl,show(inB 1 [x,y,z].length&&true)=true from rfl,show IntKind.wrap .i64 ((1:Int)+1)=2 from rfl];rw[aY (by omega:x.length+y.length<=1073741824),fF,aA,M.qd];simp only[show decide ((2:Int)<3)=true from rfl,aA,show([x,y,z].getD (Int.toNat 2) [])=z from rfl,show(inB 2 [x,y,z].length&&true)=true from rfl,show IntKind.wrap .i64 ((2:Int)+1)=3 from rfl];rw[aY (by rw[cI];omega:(x++y).length+z.length<=1073741824),fF,aA,M.qd];rw[iI];rfl
 unfold M.qe;have l3:(([x,y,z]:List (List af)).length:Int)=3:=rfl;rw[hf,l3,e0];have g:M.rV ((x.length+y.length+z.length:Nat):Int)=some []:=by
  unfold M.rV;rw[aY (by omega),aY (by omega)];rfl
 simp only[g,aQ,aU];rw[l3,e1];rfl
theorem Xv{b:af}{al:Nat}(ha:cZ al)(h0:0<=b.At)(h1:b.At<=1048576):M.ib b.At (al:Int)=some (dK b al):=by
 unfold dK;have:=AY b.At.toNat al ha (by omega)
 rwa [Int.toNat_of_nonneg h0]at this
theorem Xw(k n:Nat)(h:k<=n):bV (k:Int) (n:Int) n=true:=by unfold bV;simp;omega
theorem Xx(k n:Nat)(h:k<=n):bV 0 (k:Int) n=true:=by unfold bV;simp;omega
theorem aku(many al:Nat)(B:List UInt8)(F:List af)(hm:many<=1099511627776)(ha:cZ al)(hM:i4 B F):
 M.xt (many:Int) (al:Int) B F=some (match eV many al F with|none=>(0,4,B,F)|some p=>(p.1,0,B,p.2)):=by
 have hF:=hM.len;unfold M.xt eV;by_cases h0:many=0
 ·subst h0;rfl
 rw[an h0,cr (by omega:(many:Int)≠0),aT];have e:=yp (F:=fun f i=>M.om (many:Int) (al:Int) (F.length:Int) F B f i) (n:=F.length)
  (res:=fun k=>some (match kM many al (F.drop k)with|none=>.inr (B,F)|some p=>.inl (p.1,0,B,F.take k++p.2))) (by omega) ?_ ?_
 ·have e':M.om (many:Int) (al:Int) (F.length:Int) F B ah 0=_:=e;rw[e',ej];cases kM many al F with
  |none=>rfl
  |some p=>rfl
 ·intro f k hk ih;have hb:=Chain.mem hM.2 F[k] (bn hk);have hB:=hM.1
  show M.om (many:Int) (al:Int) (F.length:Int) F B (f+1) (k:Int)=_
  rw[M.om];have hp:=Xv (b:=F[k]) ha (by omega) (by omega);have hg:=JY (b:=F[k]) ha (by omega);have ha8:=ha.le;simp only[cJ,hk,cn,aA,bL,getD_lt hk,cq,aO,bM,hp,aQ,aU];rw[wrap_i64 (n:=F[k].At+F[k].Size) (by omega) (by omega),wrap_i64 (n:=F[k].At+F[k].Size-dK F[k] al) (by omega) (by omega),cm hk (by omega:F.length<2^62),wrap_i64 (n:=dK F[k] al+many) (by omega) (by omega),wrap_i64 (n:=dK F[k] al-F[k].At) (by omega) (by omega),wrap_i64 (n:=F[k].At+F[k].Size-(dK F[k] al+many)) (by omega) (by omega)];simp only[bL,Int.toNat_zero,ej,vf,Xw (k+1) F.length (by omega),Xx k F.length (by omega),aO,jF];rw[dZ hk,kM];by_cases hc:dK F[k] al+many<=F[k].At+F[k].Size
  ·rw[av hc,bU (by omega:¬F[k].At+F[k].Size-dK F[k] al<(many:Int)),aT];simp only[A6];have l1:(F.take k).length<=65536:=by rw[i3];omega
   have l2:(F.drop (k+1)).length<=65536:=by rw[List.length_drop];omega
   by_cases c1:F[k].At<dK F[k] al
   ·rw[av c1,aY c1,aA];by_cases c2:dK F[k] al+many<F[k].At+F[k].Size
    ·rw[av c2,aY c2,aA,E7 _ _ _ l1 (by simp) l2];rfl
    ·rw[an c2,bU c2,aT,E7 _ _ _ l1 (by simp) l2];rfl
   ·rw[an c1,bU c1,aT];by_cases c2:dK F[k] al+many<F[k].At+F[k].Size
    ·rw[av c2,aY c2,aA,E7 _ _ _ l1 (by simp) l2];rfl
    ·rw[an c2,bU c2,aT,E7 _ _ _ l1 (by simp) l2];rfl
  ·rw[an hc,aY (by omega:F[k].At+F[k].Size-dK F[k] al<(many:Int)),aA];refine Eq.trans ih ?_;have ht:F.take (k+1)=F.take k++[F[k]]:=by rw[List.take_append_getElem hk]
   cases kM many al (F.drop (k+1))with
   |none=>rfl
   |some p=>simp only[lG,ht,iI,List.singleton_append]
 ·intro f
  show M.om (many:Int) (al:Int) (F.length:Int) F B (f+1) (F.length:Int)=_
  rw[M.om,hC];simp[kM]
theorem J1(many al:Nat)(B:List UInt8)(F:List af)(x:Int)(hm:many<=1099511627776)(ha:cZ al)(hM:i4 B F):
 M.jZ (many:Int) (al:Int) x 0 B F=some (match eV many al F with|none=>(0,x,4,B,F)|some p=>(p.1,x,0,B,p.2)):=by
 unfold M.jZ;rw[aku many al B F hm ha hM];cases eV many al F<;>rfl
theorem akw(many al:Int)(B:List UInt8)(F:List af)(x c:Int)(hc:c≠0):M.jZ many al x c B F=some (0,x,c,B,F):=by
 unfold M.jZ;have:(c !=0)=true:=by rw[oK];exact hc
 rw[this];rfl
theorem Xy(B:List UInt8)(F:List af)(h:F.length<=1073741824):M.jm (M.aB.mk B F)=some (B,F):=by
 unfold M.jm;rw[aY (by show 0+F.length<=_;omega)];rfl
theorem akx(many al:Nat)(B:List UInt8)(F:List af)(hm:many<=1099511627776)(ha:cZ al)(hM:i4 B F):
 M.xd (M.aB.mk B F) (many:Int) (al:Int)=some (match eV many al F with|none=>([],0,4,[])|some p=>(B,p.1,0,p.2)):=by
 have hF:=hM.len;unfold M.xd eV;by_cases h0:many=0
 ·subst h0;rw[Xy B F (by omega)];rfl
 rw[an h0,cr (by omega:(many:Int)≠0),aT];have e:=yp (F:=fun f i=>M.nX (many:Int) (al:Int) (M.aB.mk B F) [] [] f i) (n:=F.length)
  (res:=fun k=>some (match kM many al (F.drop k)with|none=>.inr ([],[])|some p=>.inl (p.1,0,B,F.take k++p.2))) (by omega) ?_ ?_
 ·have e':M.nX (many:Int) (al:Int) (M.aB.mk B F) [] [] ah 0=_:=e;rw[e',ej];cases kM many al F with
  |none=>rfl
  |some p=>rfl
 ·intro f k hk ih;have hb:=Chain.mem hM.2 F[k] (bn hk);have hB:=hM.1
  show M.nX (many:Int) (al:Int) (M.aB.mk B F) [] [] (f+1) (k:Int)=_
  rw[M.nX];have hp:M.iQ F[k].At (al:Int)=some (dK F[k] al):=Xv (b:=F[k]) ha (by omega) (by omega);have hg:=JY (b:=F[k]) ha (by omega);have ha8:=ha.le;simp only[cJ,hk,cn,aA,bL,getD_lt hk,cq,aO,bM,hp,aQ,aU];rw[wrap_i64 (n:=F[k].At+F[k].Size) (by omega) (by omega),wrap_i64 (n:=dK F[k] al-F[k].At) (by omega) (by omega),wrap_i64 (n:=F[k].Size-many) (by omega) (by omega),cm hk (by omega:F.length<2^62),wrap_i64 (n:=dK F[k] al+many) (by omega) (by omega),wrap_i64 (n:=F[k].At+F[k].Size-dK F[k] al) (by omega) (by omega),wrap_i64 (n:=F[k].At+F[k].Size-dK F[k] al-many) (by omega) (by omega)];simp only[bL,Int.toNat_zero,ej,vf,Xw (k+1) F.length (by omega),Xx k F.length (by omega),aO,jF,i3,List.length_drop,cI,bX,dn];have s1:decide (0+min k F.length<=1073741824)=true:=aY (by omega);rw[dZ hk,kM];by_cases hc:dK F[k] al+many<=F[k].At+F[k].Size
  ·rw[av hc,bU (by omega:¬F[k].Size<(many:Int)),bU (by omega:¬F[k].Size-many<dK F[k] al-F[k].At),ip,aT];simp only[A6,s1];by_cases c1:F[k].At<dK F[k] al
   ·rw[av c1,aY c1,aA];by_cases c2:dK F[k] al+many<F[k].At+F[k].Size
    ·rw[av c2,aY (by omega:0<F[k].At+F[k].Size-dK F[k] al-many),aA,aY (by omega),aY (by omega),aY (by omega),show F[k].At+F[k].Size-dK F[k] al-many=F[k].At+F[k].Size-(dK F[k] al+many) by omega];simp
    ·rw[an c2,bU (by omega:¬0<F[k].At+F[k].Size-dK F[k] al-many),aT,aY (by omega),aY (by omega)];simp
   ·rw[an c1,bU c1,aT];by_cases c2:dK F[k] al+many<F[k].At+F[k].Size
    ·rw[av c2,aY (by omega:0<F[k].At+F[k].Size-dK F[k] al-many),aA,aY (by omega),aY (by omega),show F[k].At+F[k].Size-dK F[k] al-many=F[k].At+F[k].Size-(dK F[k] al+many) by omega];simp
    ·rw[an c2,bU (by omega:¬0<F[k].At+F[k].Size-dK F[k] al-many),aT,aY (by omega)];simp
  ·rw[an hc];have:(decide (F[k].Size<(many:Int))||decide (F[k].Size-many<dK F[k] al-F[k].At))=true:=by
    rw[i5,bh,bh];omega
   rw[this,aA];refine Eq.trans ih ?_;have ht:F.take (k+1)=F.take k++[F[k]]:=by rw[List.take_append_getElem hk]
   cases kM many al (F.drop (k+1))with
   |none=>rfl
   |some p=>simp only[lG,ht,iI,List.singleton_append]
 ·intro f
  show M.nX (many:Int) (al:Int) (M.aB.mk B F) [] [] (f+1) (F.length:Int)=_
  rw[M.nX,hC];simp[kM]
theorem J2(many al:Nat)(B:List UInt8)(F:List af)(x c:Int)(hm:many<=1099511627776)(ha:cZ al)(hM:i4 B F):
 M.jX (many:Int) (al:Int) B x c F=some (match eV many al F with|none=>(0,B,x,4,F)|some p=>(p.1,B,x,c,p.2)):=by
 unfold M.jX;rw[akx many al B F hm ha hM];cases eV many al F<;>rfl
end M
namespace M
open Go Go.V Go.Lib
theorem aky(m:Nat)(h:js m=true):encodeRune (m:Int)=ir m:=by
 rw[J3]at h;have t:∀(z:Int)(n:Nat),z=(n:Int)->z.toNat.toUInt8=UInt8.ofNat n:=fun z n e=>by subst e;rfl
 unfold encodeRune ir;by_cases h1:m<128
 ·rw[encodeRuneZ_one (by omega) (by omega),av h1];rfl
 ·rw[an h1];by_cases h2:m<2048
  ·rw[encodeRuneZ_two (by omega) (by omega),av h2];simp only[fm,List.map_nil];rw[t _ (192+m/64) (by omega),t _ (128+m%64) (by omega)]
  ·rw[an h2];by_cases h3:m<65536
   ·rw[encodeRuneZ_three (by omega),av h3];simp only[fm,List.map_nil];rw[t _ (224+m/4096) (by omega),t _ (128+m/64%64) (by omega),t _ (128+m%64) (by omega)]
   ·rw[an h3,encodeRuneZ_four (by omega) (by omega)];simp only[fm,List.map_nil];rw[t _ (240+m/262144) (by omega),t _ (128+m/4096%64) (by omega),t _ (128+m/64%64) (by omega),t _ (128+m%64) (by omega)]
theorem akz{a b:Nat}(ha:a<=1114111)(hb:b<=1114111)(h:ir a=ir b):a=b:=by
 have e:fM a=fM b:=by
  have h1:=(E8 a ha (ir b)).1 (by rw[h,lH]);have h2:=(E8 b hb (ir b)).1 (by rw[lH]);rw[h1,h2]
 by_cases h1:b<128
 ·rw[show fM b=[b] by unfold fM;rw[av h1],J4]at e;exact e.2
 ·by_cases h2:b<2048
  ·rw[show fM b=[192+b/64,128+b%64] by unfold fM;rw[an h1,av h2],J5]at e;omega
  ·by_cases h3:b<65536
   ·rw[show fM b=[224+b/4096,128+b/64%64,128+b%64] by unfold fM;rw[an h1,an h2,av h3],J6]at e;omega
   ·rw[show fM b=[240+b/262144,128+b/4096%64,128+b/64%64,128+b%64] by unfold fM;rw[an h1,an h2,an h3],J7]at e;omega
theorem akA(s:List UInt8)(h:(fx s).2≠0):js (fx s).1=true/\ir (fx s).1=s.take (fx s).2:=by
 unfold fx at h⊢;split at h
 ·exact absurd rfl h
 ·rename_i h1;rw[an h1];split at h
  ·rename_i h2;rw[av h2];rw[aZ,kO]at h2;exact h2
  ·exact absurd rfl h
theorem akB(s:List UInt8)(hv:¬((decodeL s).1=65533/\(decodeL s).2=1)):js (decodeL s).1=true:=by
 rw[J3];rw[decodeL_N]at hv⊢;have k0:=(s.getD 0 0).toNat_lt;rcases decodeN_shape s.length (s.getD 0 0).toNat (s.getD 1 0).toNat (s.getD 2 0).toNat (s.getD 3 0).toNat with⟨c,e⟩|⟨c1,c2,c3,cv,e⟩|⟨c1,c2,c3,c4,cv,cs,e⟩|⟨c1,c2,c3,c4,c5,cv,cw,e⟩|e
 ·rw[e];left;simp only;omega
 ·rw[e];left;simp only;omega
 ·rw[e];simp only;omega
 ·rw[e];simp only;omega
 ·rw[e]at hv;exact absurd ⟨rfl,rfl⟩ hv
theorem akC(s:List UInt8)(hne:s≠[])(hv:¬((decodeL s).1=65533/\(decodeL s).2=1)):(fx s).1=(decodeL s).1/\(fx s).2=(decodeL s).2:=by
 have hd:=Xz s hne;rw[an hv]at hd;have hw:=decodeL_width s;have hp:=akA s (by omega);have he:=encode_decode s hne hv;have ho:=akB s hv;rw[aky _ ho,<-hd,<-hp.2]at he;have h1:=J8 ho;have h2:=J8 hp.1;exact⟨(akz h1 h2 he).symm,hd⟩
theorem XA:∀(m f:Nat)(s:List UInt8)(out:List Int),s.length<=m->s.length<=1048576->out.length+s.length<=1048576->validGoD m s=true->
 M.pO (f+m+1) s out=some (.inr (out++gu m s))
 |0,f,s,out,hm,hs,ho,_=>by
  have e:s=[]:=iZ (by omega);subst e;simp only[gu,mb];rfl
 |m+1,f,s,out,hm,hs,ho,hv=>by
  rw[show f+(m+1)+1=(f+m+1)+1 by omega,M.pO];by_cases hne:s=[]
  ·subst hne;rw[W0,mb];rfl
  ·have hl:0<s.length:=List.length_pos_iff.2 hne;have d:decide ((0:Int)<(s.length:Int))=true:=aY (by omega);rw[d,XB s hne hs];simp only[aA,aQ,aU,aO,bX,dn,dD];rw[validGoD,an hne]at hv;by_cases hb:(decodeL s).1=65533/\(decodeL s).2=1
   ·rw[av hb]at hv;cases hv
   ·rw[an hb]at hv;obtain⟨v1,v2⟩:=akC s hne hb;have hle:=XC s hne;have hw:=decodeL_width s;have d0:(((fx s).2:Int)==0)=false:=by rw[kK];omega
    have hsl:bV ((fx s).2:Int) (s.length:Int) s.length=true:=by unfold bV;simp;omega
    have hlen:decide (out.length+1<=1073741824)=true:=aY (by omega);rw[d0,hsl,hlen];simp only[aT,aA,fF,bL,vf];have hdl:(s.drop (fx s).2).length=s.length-(fx s).2:=List.length_drop;rw[XA m f (s.drop (fx s).2) (out++[((fx s).1:Int)]) (by omega) (by omega) (by rw[cI];simp;omega) (by rw[v2];exact hv)];rw[gu,an (by omega),v1,v2];simp
theorem akD(s:List UInt8)(h:gA s=true):M.nK s=some (gu s.length s,true):=by
 unfold gA at h;rw[aZ,bh]at h;obtain⟨f,hf⟩:∃f,ah=f+s.length+1:=⟨ah-(s.length+1),by have:=cC;omega⟩;unfold M.nK;rw[hf,XA s.length f s [] (bg _) (by omega) (by simp;omega) h.2];rfl
theorem akE(s:List UInt8)(h:gA s=true):M.rT s=some (gu s.length s):=by
 unfold gA at h;rw[aZ,bh]at h;unfold M.rT;rw[aY (by omega)];rfl
theorem E9:∀(m:Nat)(s:List UInt8),(gu m s).length<=m
 |0,s=>bg _
 |m+1,s=>by
  unfold gu;split
  ·simp
  ·have:=E9 m (s.drop (decodeL s).2);simp only[bX];omega
def vg(n:Int):List UInt8:=if n<65536 then fixF n 2
 else fixF (IntKind.wrap .i64 (55296+gi .i64 (IntKind.wrap .i64 (n-65536)) 10)) 2++fixF (IntKind.wrap .i64 (56320+dX .and .i64 (IntKind.wrap .i64 (n-65536)) 1023)) 2
theorem J9(n:Int):(vg n).length<=4:=by
 unfold vg;split
 ·rw[iq];omega
 ·rw[cI,iq,iq];omega
theorem akF(n:Int):M.xq n=some (vg n):=by
 unfold M.xq vg;by_cases h:n<65536
 ·rw[av h,aY h,aA,show(2:Int)=((2:Nat):Int)from rfl,sM n 2 (by omega)];rfl
 ·rw[an h,bU h,aT,show(2:Int)=((2:Nat):Int)from rfl,sM _ 2 (by omega),sM _ 2 (by omega)];simp only[aQ,aU,aO];rw[show eE (fixF (IntKind.wrap .i64 (55296+gi .i64 (IntKind.wrap .i64 (n-65536)) 10)) 2) (fixF (IntKind.wrap .i64 (56320+dX .and .i64 (IntKind.wrap .i64 (n-65536)) 1023)) 2)=true from by
   unfold eE;rw[bh,iq,iq];omega]
  rfl
theorem akG(n:Int):M.xb n=some (vg n):=by
 unfold M.xb vg;by_cases h:n<65536
 ·rw[av h,aY h,aA,show(2:Int)=((2:Nat):Int)from rfl,E3 n 2 (by omega)];rfl
 ·rw[an h,bU h,aT,show(2:Int)=((2:Nat):Int)from rfl,E3 _ 2 (by omega),E3 _ 2 (by omega)];simp only[aQ,aU,aO];rw[show eE (fixF (IntKind.wrap .i64 (55296+gi .i64 (IntKind.wrap .i64 (n-65536)) 10)) 2) (fixF (IntKind.wrap .i64 (56320+dX .and .i64 (IntKind.wrap .i64 (n-65536)) 1023)) 2)=true from by
   unfold eE;rw[bh,iq,iq];omega]
  rfl
def i6(enc:Int):List Int->Option (List UInt8)
 |[]=>some []
 |n::r=>if enc=2 then(i6 enc r).map (vg n++·)else if n<256 then(i6 enc r).map (fixF n 1++·)else none
def md(enc:Int)(s:List UInt8):Option (List UInt8):=if enc=1 then some s else i6 enc (gu s.length s)
theorem Ko(enc:Int):∀(l:List Int)(b:List UInt8),i6 enc l=some b->b.length<=4*l.length
 |[],b,h=>by simp[i6]at h;subst h;simp
 |n::r,b,h=>by
  unfold i6 at h;have hp:=J9 n;have hf:=iq n 1;split at h
  ·rw[dS]at h;obtain⟨x,h1,rfl⟩:=h;have:=Ko enc r x h1;rw[cI,bX];omega
  ·split at h
   ·rw[dS]at h;obtain⟨x,h1,rfl⟩:=h;have:=Ko enc r x h1;rw[cI,bX];omega
   ·cases h
theorem XD(enc:Int)(s b:List UInt8)(hs:gA s=true)(h:md enc s=some b):b.length<=96:=by
 unfold gA at hs;rw[aZ,bh]at hs;unfold md at h;split at h
 ·simp only[ar]at h;subst h;omega
 ·have:=Ko enc _ b h;have:=E9 s.length s;omega
theorem akH(n:Int):fixF n 1=[eA (IntKind.wrap .u8 n)]:=rfl
theorem akI(enc:Int)(s:List UInt8)(hs:gA s=true):M.rU enc s=some (match md enc s with|none=>([],19)|some b=>(b,0)):=by
 unfold M.rU md;by_cases h1:enc=1
 ·subst h1;rfl
 ·rw[an h1,cr h1,aT,akE s hs];simp only[aQ,aU,aO];have hl:=E9 s.length s;have akJ:s.length<=24:=by unfold gA at hs;rw[aZ,bh]at hs;exact hs.1
  generalize hP:gu s.length s=P at*;have e:=kd (F:=fun f i (a:List UInt8)=>M.mO enc (P.length:Int) P f a i) P (by omega)
   (fun r a=>some (match i6 enc r with|none=>.inl ([],19)|some b=>.inr (a++b))) (fun k a=>a.length<=4*k) ?_ ?_ [] (by simp)
  ·have e':M.mO enc (P.length:Int) P ah [] 0=_:=e;rw[e'];cases i6 enc P<;>rfl
  ·intro f k a hk hI ih
   show M.mO enc (P.length:Int) P (f+1) a (k:Int)=_
   rw[M.mO];have hpl:=J9 P[k];have hc:∀b:List UInt8,b.length<=4->eE a b=true:=fun b hb=>by unfold eE;rw[bh];omega
   simp only[cJ,hk,cn,aA,bL,getD_lt hk,cq,aO,akF,aQ,aU,hc _ hpl];rw[cm hk (by omega:P.length<2^62),i6];by_cases h2:enc=2
   ·rw[av h2,h2];subst h2;simp only[lH,aA];rw[ih _ (by rw[cI];omega)];cases i6 2 (P.drop (k+1))<;>simp
   ·rw[an h2,cr h2,aT,show(1:Int)=((1:Nat):Int)from rfl,sM _ 1 (by omega)];simp only[aQ,aU,hc _ (by rw[iq];omega:(fixF P[k] 1).length<=4),aO];by_cases h3:P[k]<256
    ·rw[av h3,aY h3,aA,aA,ih _ (by rw[cI,iq];omega)];cases i6 enc (P.drop (k+1))<;>simp
    ·rw[an h3,bU h3];rfl
  ·intro f a hI
   show M.mO enc (P.length:Int) P (f+1) a (P.length:Int)=_
   rw[M.mO];simp[i6]
theorem akK(enc:Int)(s:List UInt8)(hs:gA s=true):M.xc enc s=some (match md enc s with|none=>([],19)|some b=>(b,0)):=by
 unfold M.xc md;by_cases h1:enc=1
 ·subst h1;rfl
 ·rw[an h1,cr h1,aT,akD s hs];simp only[aQ,aU,aO];have hl:=E9 s.length s;have akJ:s.length<=24:=by unfold gA at hs;rw[aZ,bh]at hs;exact hs.1
  generalize hP:gu s.length s=P at*;have e:=kd (F:=fun f i (a:List UInt8)=>M.mL enc P f a i) P (by omega)
   (fun r a=>some (match i6 enc r with|none=>.inl ([],19)|some b=>.inr (a++b))) (fun k a=>a.length<=4*k) ?_ ?_ [] (by simp)
  ·have e':M.mL enc P ah [] 0=_:=e;rw[e'];cases i6 enc P<;>rfl
  ·intro f k a hk hI ih
   show M.mL enc P (f+1) a (k:Int)=_
   rw[M.mL];have hpl:=J9 P[k];have hc:∀b:List UInt8,b.length<=4->eE a b=true:=fun b hb=>by unfold eE;rw[bh];omega
   simp only[cJ,hk,cn,aA,bL,getD_lt hk,cq,aO,akG,aQ,aU,hc _ hpl,JZ];rw[cm hk (by omega:P.length<2^62),i6];by_cases h2:enc=2
   ·rw[av h2,h2];subst h2;simp only[lH,aA];rw[ih _ (by rw[cI];omega)];cases i6 2 (P.drop (k+1))<;>simp
   ·rw[an h2,cr h2,aT];simp only[List.map_id',hc [eA (IntKind.wrap .u8 P[k])] (by simp),aO];by_cases h3:P[k]<256
    ·rw[av h3,bU (by omega:¬(255:Int)<P[k]),aT,aA,ih _ (by rw[cI];simp;omega),akH];cases i6 enc (P.drop (k+1))<;>simp
    ·rw[an h3,aY (by omega:(255:Int)<P[k])];rfl
  ·intro f a hI
   show M.mL enc P (f+1) a (P.length:Int)=_
   rw[M.mL];simp[i6]
end M
