/-
  A TEXT'S FIRST CODE POINT, as the reference reckons it, beside the decoder of the language: in plain words.
-/
import Derived.Test.YtgonjnjoklpegaaGreatDoorXOTP
import Derived.Lib.MapLaws
set_option linter.unusedVariables false
set_option linter.unusedSimpArgs false
namespace M
open Go Go.V Go.Lib
theorem PD(n:Nat)(h:n<256):IntKind.wrap .u8 (n:Int)=(n:Int):=by
 have:∀m:Fin 256,IntKind.wrap .u8 ((m.val:Nat):Int)=((m.val:Nat):Int):=by decide+kernel
 exact this ⟨n,h⟩
theorem mi(n:Nat)(h:n<2^62):IntKind.wrap .i64 (n:Int)=(n:Int):=wrap_i64 (by omega) (by omega)
theorem Ea(n:Nat)(h:n<2^62):fH .and .i64 (n:Int) 63=((n%64:Nat):Int):=by
 have e:(BitVec.ofInt 64 (n:Int)&&& BitVec.ofInt 64 (63:Int)).toNat=n%64:=by
  rw[BitVec.toNat_and];have h1:(BitVec.ofInt 64 (n:Int)).toNat=n:=by rw[BitVec.toNat_ofInt];omega
  have h2:(BitVec.ofInt 64 (63:Int)).toNat=63:=by decide
  rw[h1,h2];exact Nat.and_two_pow_sub_one_eq_mod n 6
 show IntKind.wrap .i64 (((BitVec.ofInt 64 (n:Int)&&& BitVec.ofInt 64 (63:Int)).toNat:Nat):Int)=_
 rw[e,mi _ (by omega)]
theorem ac4(x:UInt8):fH .and .u8 ((x.toNat:Nat):Int) 63=((x.toNat%64:Nat):Int):=by
 have:∀m:Fin 256,fH .and .u8 ((m.val:Nat):Int) 63=((m.val%64:Nat):Int):=by decide+kernel
 exact this ⟨x.toNat,x.toNat_lt⟩
theorem ac5(n r:Nat)(hr:r<64)(h:n<2^40):fH .or .i64 ((n*64:Nat):Int) (r:Int)=((n*64+r:Nat):Int):=by
 have e:(BitVec.ofInt 64 ((n*64:Nat):Int)|||BitVec.ofInt 64 (r:Int)).toNat=n*64+r:=by
  rw[BitVec.toNat_or];have h1:(BitVec.ofInt 64 ((n*64:Nat):Int)).toNat=n*64:=by rw[BitVec.toNat_ofInt];omega
  have h2:(BitVec.ofInt 64 (r:Int)).toNat=r:=by rw[BitVec.toNat_ofInt];omega
  rw[h1,h2];have:=Nat.two_pow_add_eq_or_of_lt (b:=r) (i:=6) (by simpa using hr) n;rw[show(2:Nat)^6=64 by rfl]at this;rw[tZ n 64,<-this]
 show IntKind.wrap .i64 (((BitVec.ofInt 64 ((n*64:Nat):Int)|||BitVec.ofInt 64 (r:Int)).toNat:Nat):Int)=_
 rw[e,mi _ (by omega)]
theorem ac6(n:Nat)(h:n<2^40):md .i64 (n:Int) 6=((n*64:Nat):Int):=by
 have:md .i64 (n:Int) 6=IntKind.wrap .i64 ((n:Int)*64):=rfl;rw[this,show(n:Int)*64=((n*64:Nat):Int) by omega,mi _ (by omega)]
theorem ac7(n:Nat):iF .i64 (n:Int) 6=((n/64:Nat):Int):=by
 have:iF .i64 (n:Int) 6=(n:Int).fdiv 64:=rfl;rw[this,Int.fdiv_eq_ediv_of_nonneg _ (by omega)];omega
theorem ac8(n:Nat):iF .i64 (n:Int) 12=((n/4096:Nat):Int):=by
 have:iF .i64 (n:Int) 12=(n:Int).fdiv 4096:=rfl;rw[this,Int.fdiv_eq_ediv_of_nonneg _ (by omega)];omega
theorem ac9(n:Nat):iF .i64 (n:Int) 18=((n/262144:Nat):Int):=by
 have:iF .i64 (n:Int) 18=(n:Int).fdiv 262144:=rfl;rw[this,Int.fdiv_eq_ediv_of_nonneg _ (by omega)];omega
theorem ua(k:Int)(m:Nat)(h:k=(m:Int))(hm:m<256):IntKind.wrap .u8 (IntKind.wrap .i64 k)=(m:Int):=by
 subst h;rw[mi m (by omega),PD m hm]
theorem kZ(m:Nat)(h:m<256):fE (m:Int)=true:=by unfold fE;simp;omega
theorem zb(m:Nat):eI (m:Int)=UInt8.ofNat m:=rfl
def je(n:Nat):List UInt8:=
 if n<128 then[UInt8.ofNat n]
 else if n<2048 then[UInt8.ofNat (192+n/64),UInt8.ofNat (128+n%64)]
 else if n<65536 then[UInt8.ofNat (224+n/4096),UInt8.ofNat (128+n/64%64),UInt8.ofNat (128+n%64)]
 else[UInt8.ofNat (240+n/262144),UInt8.ofNat (128+n/4096%64),UInt8.ofNat (128+n/64%64),UInt8.ofNat (128+n%64)]
theorem ada(n:Nat)(h:n<=1114111):M.lZ (n:Int)=some (je n):=by
 have ha:=Ea n (by omega);have hb:=Ea (n/64) (by omega);have hc:=Ea (n/4096) (by omega);unfold M.lZ je;rw[ac7,ac8,ac9,hb,hc,ha];by_cases h1:n<128
 ·rw[aC h1,PD n (by omega),kZ n (by omega),zb];have:decide ((n:Int)<128)=true:=by simp;omega
  rw[this];rfl
 ·rw[ax h1];have d1:decide ((n:Int)<128)=false:=by simp;omega
  rw[d1];have b0:=ua (128+((n%64:Nat):Int)) (128+n%64) (by omega) (by omega);rw[b0];by_cases h2:n<2048
  ·have d2:decide ((n:Int)<2048)=true:=by simp;omega
   have b1:=ua (192+((n/64:Nat):Int)) (192+n/64) (by omega) (by omega);rw[aC h2,d2,b1];simp only[bF,aT,kZ _ (show 192+n/64<256 by omega),kZ _ (show 128+n%64<256 by omega),zb,cI,List.map_id']
  ·rw[ax h2];have d2:decide ((n:Int)<2048)=false:=by simp;omega
   have b2:=ua (128+((n/64%64:Nat):Int)) (128+n/64%64) (by omega) (by omega);rw[d2,b2];by_cases h3:n<65536
   ·have d3:decide ((n:Int)<65536)=true:=by simp;omega
    have b1:=ua (224+((n/4096:Nat):Int)) (224+n/4096) (by omega) (by omega);rw[aC h3,d3,b1];simp only[bF,aT,kZ _ (show 224+n/4096<256 by omega),kZ _ (show 128+n/64%64<256 by omega),kZ _ (show 128+n%64<256 by omega),zb,cI,List.map_id']
   ·have d3:decide ((n:Int)<65536)=false:=by simp;omega
    have b1:=ua (240+((n/262144:Nat):Int)) (240+n/262144) (by omega) (by omega);have b3:=ua (128+((n/4096%64:Nat):Int)) (128+n/4096%64) (by omega) (by omega);rw[ax h3,d3,b1,b3];simp only[bF,aT,kZ _ (show 240+n/262144<256 by omega),kZ _ (show 128+n/4096%64<256 by omega),kZ _ (show 128+n/64%64<256 by omega),kZ _ (show 128+n%64<256 by omega),zb,cI,List.map_id']
def jB(n:Nat):List UInt8->Nat
 |[]=>n
 |x::r=>jB (n*64+x.toNat%64) r
theorem PE(s:List UInt8)(many:Nat)(hm:many<=s.length)(hs:s.length<=1048576):∀(d f n i:Nat),i+d=many->d<=3->(n+1)*64^d<=2^24->
 M.nB s (many:Int) (f+d+1) (n:Int) (i:Int)=some (s,(many:Int),((jB n ((s.take many).drop i):Nat):Int))
 |0,f,n,i,hi,_,hn=>by
  have d:decide ((i:Int)<(many:Int))=false:=by simp;omega
  have e:(s.take many).drop i=[]:=List.drop_eq_nil_of_le (by rw[iw];omega);rw[e];simp only[M.nB,d,bF,jB]
 |d+1,f,n,i,hi,hd,hn=>by
  have d1:decide ((i:Int)<(many:Int))=true:=by simp;omega
  have hin:inB (i:Int) s.length=true:=by rw[cg];simp;omega
  have hil:i<(s.take many).length:=by rw[iw];omega
  have hg:s.getD i 0=(s.take many)[i]:=by rw[getD_lt (by omega),List.getElem_take]
  have hp:64^(d+1)=64*64^d:=by rw[Nat.pow_succ,tZ]
  have hn2:n<2^24:=by
   have:(n+1)*1<=(n+1)*64^(d+1):=Nat.mul_le_mul_left _ (Nat.pos_of_ne_zero (by simp));omega
  have hb:((s.getD i 0).toNat%64)<64:=Nat.mod_lt _ (by omega);have hstep:(n*64+(s.getD i 0).toNat%64+1)*64^d<=2^24:=by
   have:(n*64+(s.getD i 0).toNat%64+1)*64^d<=((n+1)*64)*64^d:=dc _ (by omega);rw[hp,<-Nat.mul_assoc]at hn;omega
  have ih:=PE s many hm hs d f (n*64+(s.getD i 0).toNat%64) (i+1) (by omega) (by omega) hstep;rw[jP hil,jB];rw[show f+(d+1)+1=(f+d+1)+1 by omega,M.nB];rw[d1,bY,hin];simp only[aT,bX];rw[ac6 n (by omega),ac4,mi ((s.getD i 0).toNat%64) (by omega),ac5 n _ hb (by omega),bM (show i<many by omega) (by omega)];rw[ih,hg]
end M
namespace M
open Go Go.V Go.Lib
def eM(b:Nat):Nat:=if 240<=b then 4 else if 224<=b then 3 else if 192<=b then 2 else 1
def fq(b:Nat):Nat:=if 240<=b then b-240 else if 224<=b then b-224 else if 192<=b then b-192 else b
def iI(n:Nat):Bool:=decide (n<=55295)||(decide (57344<=n)&&decide (n<=1114111))
def jf(s:List UInt8):Nat×Nat:=
 if s.length<eM (s.getD 0 0).toNat then(0,0)
 else if iI (jB (fq (s.getD 0 0).toNat) ((s.take (eM (s.getD 0 0).toNat)).drop 1))&&(je (jB (fq (s.getD 0 0).toNat) ((s.take (eM (s.getD 0 0).toNat)).drop 1))==s.take (eM (s.getD 0 0).toNat))then
  (jB (fq (s.getD 0 0).toNat) ((s.take (eM (s.getD 0 0).toNat)).drop 1),eM (s.getD 0 0).toNat)
 else(0,0)
theorem adb(n:Nat):M.gJ (n:Int)=some (iI n):=by
 unfold M.gJ iI;have h1:decide ((0:Int)<=(n:Int))=true:=by simp
 have h2:decide ((n:Int)<=55295)=decide (n<=55295):=by congr 1;exact propext ⟨fun h=>by omega,fun h=>by omega⟩
 have h3:decide ((57344:Int)<=(n:Int))=decide (57344<=n):=by congr 1;exact propext ⟨fun h=>by omega,fun h=>by omega⟩
 have h4:decide ((n:Int)<=1114111)=decide (n<=1114111):=by congr 1;exact propext ⟨fun h=>by omega,fun h=>by omega⟩
 rw[h1,h2,h3,h4,bU]
theorem ade{n:Nat}(h:iI n=true):n<=1114111:=by
 unfold iI at h;simp only[fU,bc,bP]at h;omega
theorem zc(s:List UInt8)(m n:Nat)(hm:m<=s.length)(q9:Bool)(h9:q9=true):
 (bif((!(Option.getD (M.gJ (n:Int)) Inhabited.default))||(!((Option.getD (M.lZ (n:Int)) Inhabited.default)==(List.drop (Int.toNat (0:Int)) (List.take (Int.toNat (m:Int)) s)))))then
   (bif(((Go.V.cu (0:Int) (m:Int) (List.length s))||(!((!(Option.getD (M.gJ (n:Int)) Inhabited.default))==false)))&&(((Option.isSome (M.lZ (n:Int)))||(!((!(Option.getD (M.gJ (n:Int)) Inhabited.default))==false)))&&((Option.isSome (M.gJ (n:Int)))&&q9)))then some ((0:Int),(0:Int))else none)
 else
  (bif(((Go.V.cu (0:Int) (m:Int) (List.length s))||(!((!(Option.getD (M.gJ (n:Int)) Inhabited.default))==false)))&&(((Option.isSome (M.lZ (n:Int)))||(!((!(Option.getD (M.gJ (n:Int)) Inhabited.default))==false)))&&((Option.isSome (M.gJ (n:Int)))&&q9)))then some ((n:Int),(m:Int))else none))=
 some (if iI n&&(je n==s.take m)then(((n:Nat):Int),((m:Nat):Int))else(0,0)):=by
 subst h9;have hsl:cu (0:Int) (m:Int) s.length=true:=by unfold cu;simp;omega
 rw[adb,hsl,bY];simp only[bH,bQ,bZ,bX,bU];cases hc:iI n
 ·simp
 ·rw[ada n (ade hc)];simp only[bH,bQ,d5,nY,Int.toNat_zero,ix,bZ,cI,aT,bU];cases hb:(je n==s.take m)<;>simp
theorem adf(s:List UInt8)(hne:s≠[])(hs:s.length<=1048576):M.sA s=some (((jf s).1:Int),((jf s).2:Int)):=by
 have hl:0<s.length:=List.length_pos_iff.2 hne;have e0:(s==[])=false:=by cases s with
  |nil=>exact absurd rfl hne
  |cons a r=>rfl
 have hin:inB (0:Int) s.length=true:=by have:=cg 0 s.length;simpa [hl]using this
 have hb:(s.getD 0 0).toNat<256:=UInt8.toNat_lt _;obtain⟨f,hf⟩:∃f,al=f+3+1:=⟨al-4,by have:=jZ (n:=100) (by omega);omega⟩;have key:∀(m n0:Nat),eM (s.getD 0 0).toNat=m->fq (s.getD 0 0).toNat=n0->1<=m->m<=4->(n0+1)*64^(m-1)<=2^24->¬s.length<m->M.nB s (m:Int) al (n0:Int) 1=some (s,(m:Int),((jB n0 ((s.take m).drop 1):Nat):Int)):=fun m n0 h1 h2 h3 h4 h5 h6=>by
  have:=PE s m (by omega) hs (m-1) (f+4-m) n0 1 (by omega) (by omega) h5;rw[hf,show f+3+1=(f+4-m)+(m-1)+1 by omega];exact this
 unfold M.sA;rw[e0,Int.toNat_zero];have hw:IntKind.wrap .i64 ((s.getD 0 0).toNat:Int)=((s.getD 0 0).toNat:Int):=mi _ (by omega);unfold jf;by_cases gq:240<=(s.getD 0 0).toNat
 ·have vW:decide ((240:Int)<=((s.getD 0 0).toNat:Int))=true:=cZ (by omega);have hm:eM (s.getD 0 0).toNat=4:=by unfold eM;rw[aC gq]
  have hn:fq (s.getD 0 0).toNat=(s.getD 0 0).toNat-240:=by unfold fq;rw[aC gq]
  have hw2:IntKind.wrap .i64 (((s.getD 0 0).toNat:Int)-240)=(((s.getD 0 0).toNat-240:Nat):Int):=by rw[show((s.getD 0 0).toNat:Int)-240=(((s.getD 0 0).toNat-240:Nat):Int) by omega];exact mi _ (by omega)
  rw[hm,hn];simp only[vW,bF,aT,hw,hw2,hin,bZ,bX,jg,bU,d5,kq];by_cases hsl:s.length<4
  ·have d:decide ((s.length:Int)<4)=true:=by simp;omega
   rw[aC hsl,d];rfl
  ·have d:decide ((s.length:Int)<4)=false:=by simp;omega
   have:=key 4 _ hm hn (by omega) (by omega) (by omega) hsl;rw[ax hsl,d];simp only[bF];rw[show(4:Int)=((4:Nat):Int)from rfl,this];refine(zc s 4 _ (by omega) _ (by rfl)).trans ?_;split<;>rfl
 ·have vW:decide ((240:Int)<=((s.getD 0 0).toNat:Int))=false:=dw (by omega);by_cases jh:224<=(s.getD 0 0).toNat
  ·have zd:decide ((224:Int)<=((s.getD 0 0).toNat:Int))=true:=cZ (by omega);have hm:eM (s.getD 0 0).toNat=3:=by unfold eM;rw[ax gq,aC jh]
   have hn:fq (s.getD 0 0).toNat=(s.getD 0 0).toNat-224:=by unfold fq;rw[ax gq,aC jh]
   have hw2:IntKind.wrap .i64 (((s.getD 0 0).toNat:Int)-224)=(((s.getD 0 0).toNat-224:Nat):Int):=by rw[show((s.getD 0 0).toNat:Int)-224=(((s.getD 0 0).toNat-224:Nat):Int) by omega];exact mi _ (by omega)
   rw[hm,hn];simp only[vW,zd,bF,aT,hw,hw2,hin,bZ,bX,jg,bU,d5,iE,kq];by_cases hsl:s.length<3
   ·have d:decide ((s.length:Int)<3)=true:=by simp;omega
    rw[aC hsl,d];rfl
   ·have d:decide ((s.length:Int)<3)=false:=by simp;omega
    have:=key 3 _ hm hn (by omega) (by omega) (by omega) hsl;rw[ax hsl,d];simp only[bF];rw[show(3:Int)=((3:Nat):Int)from rfl,this];refine(zc s 3 _ (by omega) _ (by rfl)).trans ?_;split<;>rfl
  ·have zd:decide ((224:Int)<=((s.getD 0 0).toNat:Int))=false:=dw (by omega);by_cases mj:192<=(s.getD 0 0).toNat
   ·have Eb:decide ((192:Int)<=((s.getD 0 0).toNat:Int))=true:=cZ (by omega);have hm:eM (s.getD 0 0).toNat=2:=by unfold eM;rw[ax gq,ax jh,aC mj]
    have hn:fq (s.getD 0 0).toNat=(s.getD 0 0).toNat-192:=by unfold fq;rw[ax gq,ax jh,aC mj]
    have hw2:IntKind.wrap .i64 (((s.getD 0 0).toNat:Int)-192)=(((s.getD 0 0).toNat-192:Nat):Int):=by rw[show((s.getD 0 0).toNat:Int)-192=(((s.getD 0 0).toNat-192:Nat):Int) by omega];exact mi _ (by omega)
    rw[hm,hn];simp only[vW,zd,Eb,bF,aT,hw,hw2,hin,bZ,bX,jg,bU,d5,iE,kq];by_cases hsl:s.length<2
    ·have d:decide ((s.length:Int)<2)=true:=by simp;omega
     rw[aC hsl,d];rfl
    ·have d:decide ((s.length:Int)<2)=false:=by simp;omega
     have:=key 2 _ hm hn (by omega) (by omega) (by omega) hsl;rw[ax hsl,d];simp only[bF];rw[show(2:Int)=((2:Nat):Int)from rfl,this];refine(zc s 2 _ (by omega) _ (by rfl)).trans ?_;split<;>rfl
   ·have Eb:decide ((192:Int)<=((s.getD 0 0).toNat:Int))=false:=dw (by omega);have hm:eM (s.getD 0 0).toNat=1:=by unfold eM;rw[ax gq,ax jh,ax mj]
    have hn:fq (s.getD 0 0).toNat=(s.getD 0 0).toNat:=by unfold fq;rw[ax gq,ax jh,ax mj]
    rw[hm,hn];simp only[vW,zd,Eb,bF,aT,hw,hin,bZ,bX,jg,bU,d5,iE,kq];have hsl:¬s.length<1:=by omega
    have d:decide ((s.length:Int)<1)=false:=by simp;omega
    have:=key 1 _ hm hn (by omega) (by omega) (by omega) hsl;rw[ax hsl,d];simp only[bF];rw[show(1:Int)=((1:Nat):Int)from rfl]at this⊢;rw[this];refine(zc s 1 _ (by omega) _ (by rfl)).trans ?_;split<;>rfl
end M
namespace M
open Go Go.V Go.Lib
def iJ(n:Nat):List Nat:=
 if n<128 then[n]
 else if n<2048 then[192+n/64,128+n%64]
 else if n<65536 then[224+n/4096,128+n/64%64,128+n%64]
 else[240+n/262144,128+n/4096%64,128+n/64%64,128+n%64]
theorem adg(n:Nat):je n=(iJ n).map UInt8.ofNat:=by
 unfold je iJ
 repeat' split
 all_goals rfl
theorem adh(n:Nat)(h:n<=1114111):∀x∈iJ n,x<256:=by
 unfold iJ
 repeat' split
 all_goals (intro x hx;simp only[eJ,List.not_mem_nil,iY]at hx;omega)
theorem PG:∀(l:List Nat)(s:List UInt8),(∀x∈l,x<256)->(l.map UInt8.ofNat=s↔l=s.map UInt8.toNat)
 |[],[],_=>by simp
 |[],y::s,_=>by simp
 |x::l,[],_=>by simp
 |x::l,y::s,h=>by
  have ih:=PG l s fun z hz=>h z (tX _ hz)
  have hx:=h x (D8 ..);simp only[fF,List.cons.injEq,ih];refine and_congr_left fun _=>⟨fun e=>?_,fun e=>?_⟩
  ·rw[<-e];simp;omega
  ·rw[e];simp
theorem PH(n:Nat)(h:n<=1114111)(s:List UInt8):(je n==s)=true↔iJ n=s.map UInt8.toNat:=by
 rw[iH,adg];exact PG _ _ (adh n h)
theorem PI(n a:Nat):iJ n=[a]↔n<128/\n=a:=by
 unfold iJ
 repeat' split
 all_goals (simp only[List.cons.injEq,and_true,reduceCtorEq,and_false,false_iff,not_and];omega)
theorem PK(n a b:Nat):iJ n=[a,b]↔128<=n/\n<2048/\192+n/64=a/\128+n%64=b:=by
 unfold iJ
 repeat' split
 all_goals (simp only[List.cons.injEq,and_true,reduceCtorEq,and_false,false_iff,not_and];omega)
theorem PL(n a b c:Nat):iJ n=[a,b,c]↔2048<=n/\n<65536/\224+n/4096=a/\128+n/64%64=b/\128+n%64=c:=by
 unfold iJ
 repeat' split
 all_goals (simp only[List.cons.injEq,and_true,reduceCtorEq,and_false,false_iff,not_and];omega)
theorem PM(n a b c d:Nat):iJ n=[a,b,c,d]↔65536<=n/\240+n/262144=a/\128+n/4096%64=b/\128+n/64%64=c/\128+n%64=d:=by
 unfold iJ
 repeat' split
 all_goals (simp only[List.cons.injEq,and_true,reduceCtorEq,and_false,false_iff,not_and];omega)
theorem adi(n:Nat):iI n=true↔n<=55295\/(57344<=n/\n<=1114111):=by unfold iI;simp
theorem nZ(n:Nat)(s:List UInt8):(iI n&&(je n==s))=true↔(n<=55295\/(57344<=n/\n<=1114111))/\iJ n=s.map UInt8.toNat:=by
 rw[bc,adi];constructor
 ·rintro ⟨h1,h2⟩;exact⟨h1,(PH n (by omega) s).1 h2⟩
 ·rintro ⟨h1,h2⟩;exact⟨h1,(PH n (by omega) s).2 h2⟩
theorem adk(s:List UInt8)(hne:s≠[]):(jf s).2=if(decodeL s).1=65533/\(decodeL s).2=1 then 0 else(decodeL s).2:=by
 have hl:0<s.length:=List.length_pos_iff.2 hne;have k0:=(s.getD 0 0).toNat_lt;have k1:=(s.getD 1 0).toNat_lt;have k2:=(s.getD 2 0).toNat_lt;have k3:=(s.getD 3 0).toNat_lt;have oa:=decodeN_shape s.length (s.getD 0 0).toNat (s.getD 1 0).toNat (s.getD 2 0).toNat (s.getD 3 0).toNat;rw[decodeL_N];generalize hD:decodeN s.length (s.getD 0 0).toNat (s.getD 1 0).toNat (s.getD 2 0).toNat (s.getD 3 0).toNat=D at oa⊢;have hD':=hD;unfold decodeN at hD;unfold jf;by_cases gq:240<=(s.getD 0 0).toNat
 ·have hm:eM (s.getD 0 0).toNat=4:=by unfold eM;rw[aC gq]
  have hn:fq (s.getD 0 0).toNat=(s.getD 0 0).toNat-240:=by unfold fq;rw[aC gq]
  rw[hm,hn];by_cases hsl:s.length<4
  ·rw[aC hsl];rcases oa with⟨c,e⟩|⟨c1,c2,c3,cv,e⟩|⟨c1,c2,c3,c4,cv,cs,e⟩|⟨c1,c2,c3,c4,c5,cv,cw,e⟩|e
   all_goals first|(exfalso;omega)|(rw[e];rfl)
  ·rw[ax hsl,takeD s (by omega)];simp only[List.drop_succ_cons,ix,jB];generalize hN:(((s.getD 0 0).toNat-240)*64+(s.getD 1 0).toNat%64)*64+(s.getD 2 0).toNat%64=N1;by_cases de:(iI (N1*64+(s.getD 3 0).toNat%64)&&(je (N1*64+(s.getD 3 0).toNat%64)==[s.getD 0 0,s.getD 1 0,s.getD 2 0,s.getD 3 0]))=true
   ·rw[aC de];rw[nZ]at de;simp only[fF,List.map_nil,PM]at de;obtain⟨q1,q2,q3,q4,q5,q6⟩:=de;rw[ax (by omega),ax (by omega),ax (by omega),aC ⟨by omega,⟨by omega,by omega⟩,⟨by omega,by omega⟩,by omega,by omega⟩,aC ⟨by omega,by omega⟩]at hD;rw[<-hD,ax (by simp)]
   ·rw[ax de];rw[nZ]at de;simp only[fF,List.map_nil,PM]at de;rcases oa with⟨c,e⟩|⟨c1,c2,c3,cv,e⟩|⟨c1,c2,c3,c4,cv,cs,e⟩|⟨c1,c2,c3,c4,c5,cv,cw,e⟩|e
    ·exfalso;omega
    ·exfalso;omega
    ·exfalso;omega
    ·exfalso;apply de;have:(262144:Nat)<=262144:=bu _;rw[ax (by omega),ax (by omega),ax (by omega),aC ⟨by omega,⟨by omega,by omega⟩,⟨by omega,by omega⟩,by omega,by omega⟩]at hD;split at hD
     ·rename_i hv;exact⟨by omega,by omega,by omega,by omega,by omega,by omega⟩
     ·rw[<-hD]at e;simp at e
    ·rw[e];rfl
 ·by_cases jh:224<=(s.getD 0 0).toNat
  ·have hm:eM (s.getD 0 0).toNat=3:=by unfold eM;rw[ax gq,aC jh]
   have hn:fq (s.getD 0 0).toNat=(s.getD 0 0).toNat-224:=by unfold fq;rw[ax gq,aC jh]
   rw[hm,hn];by_cases hsl:s.length<3
   ·rw[aC hsl];rcases oa with⟨c,e⟩|⟨c1,c2,c3,cv,e⟩|⟨c1,c2,c3,c4,cv,cs,e⟩|⟨c1,c2,c3,c4,c5,cv,cw,e⟩|e
    all_goals first|(exfalso;omega)|(rw[e];rfl)
   ·rw[ax hsl,takeC s (by omega)];simp only[List.drop_succ_cons,ix,jB];generalize hN:(((s.getD 0 0).toNat-224)*64+(s.getD 1 0).toNat%64)*64+(s.getD 2 0).toNat%64=N;by_cases de:(iI N&&(je N==[s.getD 0 0,s.getD 1 0,s.getD 2 0]))=true
    ·rw[aC de];rw[nZ]at de;simp only[fF,List.map_nil,PL]at de;obtain⟨q1,q2,q3,q4,q5,q6⟩:=de;rw[ax (by omega),ax (by omega),aC ⟨by omega,⟨by omega,by omega⟩,by omega,by omega⟩,aC ⟨by omega,by omega⟩]at hD;rw[<-hD,ax (by simp)]
    ·rw[ax de];rw[nZ]at de;simp only[fF,List.map_nil,PL]at de;rcases oa with⟨c,e⟩|⟨c1,c2,c3,cv,e⟩|⟨c1,c2,c3,c4,cv,cs,e⟩|⟨c1,c2,c3,c4,c5,cv,cw,e⟩|e
     ·exfalso;omega
     ·exfalso;omega
     ·exfalso;apply de;exact⟨by omega,by omega,by omega,by omega,by omega,by omega⟩
     ·exfalso;omega
     ·rw[e];rfl
  ·by_cases mj:192<=(s.getD 0 0).toNat
   ·have hm:eM (s.getD 0 0).toNat=2:=by unfold eM;rw[ax gq,ax jh,aC mj]
    have hn:fq (s.getD 0 0).toNat=(s.getD 0 0).toNat-192:=by unfold fq;rw[ax gq,ax jh,aC mj]
    rw[hm,hn];by_cases hsl:s.length<2
    ·rw[aC hsl];rcases oa with⟨c,e⟩|⟨c1,c2,c3,cv,e⟩|⟨c1,c2,c3,c4,cv,cs,e⟩|⟨c1,c2,c3,c4,c5,cv,cw,e⟩|e
     all_goals first|(exfalso;omega)|(rw[e];rfl)
    ·rw[ax hsl,takeB s (by omega)];simp only[List.drop_succ_cons,ix,jB];generalize hN:((s.getD 0 0).toNat-192)*64+(s.getD 1 0).toNat%64=N;by_cases de:(iI N&&(je N==[s.getD 0 0,s.getD 1 0]))=true
     ·rw[aC de];rw[nZ]at de;simp only[fF,List.map_nil,PK]at de;obtain⟨q1,q2,q3,q4,q5⟩:=de;rw[ax (by omega),aC ⟨by omega,by omega,by omega⟩,aC (by omega)]at hD;rw[<-hD,ax (by simp)]
     ·rw[ax de];rw[nZ]at de;simp only[fF,List.map_nil,PK]at de;rcases oa with⟨c,e⟩|⟨c1,c2,c3,cv,e⟩|⟨c1,c2,c3,c4,cv,cs,e⟩|⟨c1,c2,c3,c4,c5,cv,cw,e⟩|e
      ·exfalso;omega
      ·exfalso;apply de;exact⟨by omega,by omega,by omega,by omega,by omega⟩
      ·exfalso;omega
      ·exfalso;omega
      ·rw[e];rfl
   ·have hm:eM (s.getD 0 0).toNat=1:=by unfold eM;rw[ax gq,ax jh,ax mj]
    have hn:fq (s.getD 0 0).toNat=(s.getD 0 0).toNat:=by unfold fq;rw[ax gq,ax jh,ax mj]
    rw[hm,hn];rw[ax (show ¬s.length<1 by omega),takeA s hl];simp only[List.drop_succ_cons,ix,jB];by_cases de:(iI (s.getD 0 0).toNat&&(je (s.getD 0 0).toNat==[s.getD 0 0]))=true
    ·rw[aC de];rw[nZ]at de;simp only[fF,List.map_nil,PI]at de;rw[aC (by omega)]at hD;rw[<-hD,ax (by simp only;omega)]
    ·rw[ax de];rw[nZ]at de;simp only[fF,List.map_nil,PI]at de;rcases oa with⟨c,e⟩|⟨c1,c2,c3,cv,e⟩|⟨c1,c2,c3,c4,cv,cs,e⟩|⟨c1,c2,c3,c4,c5,cv,cw,e⟩|e
     ·exfalso;simp only[and_true]at de;omega
     ·exfalso;omega
     ·exfalso;omega
     ·exfalso;omega
     ·rw[e];rfl
theorem adl(s:List UInt8)(hne:s≠[]):(jf s).2<=s.length:=by
 unfold jf;split
 ·exact ew _
 ·split
  ·rename_i h1 h2;exact Nat.le_of_not_lt h1
  ·exact ew _
theorem PN:∀(m f:Nat)(s:List UInt8)(out:List Int),s.length<=m->s.length<=1048576->out.length+s.length<=1048576->
 ∃r,M.pP (f+m+1) s out=some r/\(match r with|.inl a=>a.1=false/\validGoD m s=false|.inr _=>validGoD m s=true)
 |0,f,s,out,hm,hs,ho=>by
  have e:s=[]:=iW (by omega);subst e;exact⟨.inr out,rfl,rfl⟩
 |m+1,f,s,out,hm,hs,ho=>by
  rw[show f+(m+1)+1=(f+m+1)+1 by omega,M.pP];by_cases hne:s=[]
  ·subst hne;exact⟨.inr out,rfl,rfl⟩
  ·have hl:0<s.length:=List.length_pos_iff.2 hne;have d:decide ((0:Int)<(s.length:Int))=true:=cZ (by omega);rw[d,adf s hne hs];simp only[aT,bH,bQ,bX,cV,kn,dB];have hp:=adk s hne;have hle:=adl s hne;have hv:validGoD (m+1) s=if(decodeL s).1=65533/\(decodeL s).2=1 then false else validGoD m (s.drop (decodeL s).2):=by
    rw[validGoD,ax hne]
   by_cases hb:(decodeL s).1=65533/\(decodeL s).2=1
   ·rw[aC hb]at hp hv;rw[hp];exact⟨.inl (false,[]),rfl,rfl,hv⟩
   ·rw[ax hb]at hp hv;have hw:=decodeL_width s;rw[<-hp]at hv hw;have d0:(((jf s).2:Int)==0)=false:=by rw[gZ];omega
    have hsl:cu ((jf s).2:Int) (s.length:Int) s.length=true:=by unfold cu;simp;omega
    have hlen:decide (out.length+1<=1073741824)=true:=cZ (by omega);rw[d0,hsl,hlen];simp only[bF,aT,cI,bY,AG];have hdl:(s.drop (jf s).2).length=s.length-(jf s).2:=List.length_drop;obtain⟨r,h1,h2⟩:=PN m f (s.drop (jf s).2) (out++[((jf s).1:Int)]) (by omega) (by omega) (by rw[fm];simp;omega);refine⟨r,h1,?_⟩;rw[hv];exact h2
def k7(s:List UInt8):Bool:=decide (s.length<=24)&&validD s
theorem adm(s:List UInt8)(hs:s.length<=1048576):M.sC s=some (k7 s):=by
 unfold M.sC k7;by_cases h:s.length<=24
 ·have d:decide ((24:Int)<(s.length:Int))=false:=dw (by omega);rw[d,cZ h];obtain⟨f,hf⟩:∃f,al=f+s.length+1:=⟨al-(s.length+1),by have:=jZ hs;omega⟩;obtain⟨r,h1,h2⟩:=PN s.length f s [] (bu _) hs (by simp;omega);have e:∀r,M.pP (f+s.length+1) s []=some r->M.sB s=(match r with|.inl a=>some (a.2,a.1)|.inr b=>some (b,true)):=fun r h=>by
   unfold M.sB;rw[hf,h];cases r<;>rfl
  have e:=e r h1;cases r with
  |inl a=>
   simp only at h2 e;rw[e];simp only[bF,bQ,bX,aT,bH,bU,h2.1];exact fe some h2.2.symm
  |inr b=>
   simp only at h2 e;rw[e];simp only[bF,bQ,bX,aT,bH,bU];exact fe some h2.symm
 ·have d:decide ((24:Int)<(s.length:Int))=true:=cZ (by omega);rw[d,dw h];rfl
theorem adn(s:List UInt8)(hs:s.length<=1048576):M.sM s=some (k7 s):=by
 have e:M.mU s=some (validD s):=by
  unfold M.mU;rw[cZ (show s.length<=9223372036854775807 by omega)];rfl
 have d:decide ((s.length:Int)<=24)=decide (s.length<=24):=by congr 1;exact propext ⟨fun h=>by omega,fun h=>by omega⟩
 unfold M.sM k7;rw[e,d];rfl
end M
namespace M
open Go.V (inB cu al cE)
theorem ae.PO{a:ae}{N:Nat}(h:a.sz<=N):a.Text.length<=N:=by rw[ae.cy]at h;omega
theorem ae.y9{a:ae}{N:Nat}(h:a.sz<=N):aF ae.sz a.Kids<=N:=by rw[ae.cy]at h;omega
theorem ae.ib{a:ae}{N:Nat}(h:a.sz<=N):a.Kids.length<=N:=eU (da _ _) (ae.y9 h)
theorem ae.ic{a x:ae}(h:x∈a.Kids):x.sz<a.sz:=by
 rw[ae.cy a];have:=lL ae.sz _ _ h;omega
def j0(k:Int):Int×Int:=
 if k=3 then(0,255)else if k=4 then(-128,127)else if k=5 then(0,65535)else if k=6 then(-32768,32767)else if k=7 then(0,4294967295)else if k=8 then(-2147483648,2147483647)
 else if k=9 then(-9223372036854775808,9223372036854775807)else(0,0)
def PQ(n:Int):Bool:=(decide ((0:Int)<=n)&&decide (n<=(55295:Int)))||(decide ((57344:Int)<=n)&&decide (n<=(1114111:Int)))
def Ec(t:aa):Int:=Go.IntKind.wrap .i64 (Go.V.md .i64 (1:Int) (t.bK.length:Int)-1)
def qq(t:aa):Int:=
 if t.Kind=17\/t.Kind=18 then Go.IntKind.wrap .i64 ((t.bK.length:Int)-1)else if t.Kind=19 then Ec t
 else if t.Kind=20\/t.Kind=21\/t.Kind=22\/t.Kind=23 then 2147483647 else 0
def ft(n:Int)(t:aa):Bool:=
 if t.Kind=2\/t.Kind=13\/t.Kind=14 then decide ((0:Int)<=n)&&decide (n<=(1:Int))
 else if 3<=t.Kind/\t.Kind<=9 then decide ((j0 t.Kind).1<=n)&&decide (n<=(j0 t.Kind).2)
 else if t.Kind=10 then PQ n
 else decide ((0:Int)<=n)&&decide (n<=qq t)
def iK(t:aa):List aa:=if fi t then[]else[t]
def kT(n:Int)(len:Nat)(t:aa):Option (List aa):=
 if t.Kind=12 then some (List.replicate (min len 8) (t.Kids.getD 0 aa.zero))
 else if t.Kind=15\/t.Kind=16 then some t.Kids
 else if t.Kind=13 then(if n=0 then some []else if n=1 then some (iK (t.Kids.getD 0 aa.zero))else none)
 else if t.Kind=14\/t.Kind=17 then(if 0<=n/\n<(t.Kids.length:Int)then some (iK (t.Kids.getD n.toNat aa.zero))else none)
 else some []
def headB(k n:Int)(x:List UInt8)(t:aa):Bool:=(((k==t.Kind)&&ft n t)&&(x==[]||t.Kind==11))&&k7 x
mutual
def dz:ae->aa->Bool
 |.mk k n x kids,t=>headB k n x t&&(match kT n kids.length t with
   |some ts=>decide (ts.length=kids.length)&&ie kids ts
   |none=>false)
def ie:List ae->List aa->Bool
 |[],_=>true
 |v::r,ts=>dz v (ts.headD aa.zero)&&ie r ts.tail
end
theorem PR(v:ae)(t:aa):dz v t=(headB v.Kind v.Num v.Text t&&(match kT v.Num v.Kids.length t with
 |some ts=>decide (ts.length=v.Kids.length)&&ie v.Kids ts
 |none=>false)):=by cases v;rfl
theorem Ed:∀(a:List ae)(b:List aa),b.length=a.length->ie a b=(List.range a.length).all fun k=>dz (a.getD k ae.zero) (b.getD k aa.zero)
 |[],_,_=>rfl
 |v::r,[],h=>by simp at h
 |v::r,t::ts,h=>by
  rw[ie,List.headD_cons,List.tail_cons,Ed r ts (by simpa using h),cV,List.range_succ_eq_map,jc,List.all_map];rfl
theorem PS(t:aa):∀(a:List ae)(n:Nat),n=a.length->ie a (List.replicate n t)=a.all fun v=>dz v t
 |[],_,_=>rfl
 |v::r,n,h=>by
  subst h;rw[cV,List.replicate_succ,ie,List.headD_cons,List.tail_cons,PS t r r.length rfl,jc]
theorem kb{a b:Int}(h:a≠b):(a==b)=false:=by rw[gZ];exact h
theorem kt{a b:Int}(h:a=b):(a==b)=true:=by rw[h];exact AH b
theorem PT(k:Int):∃b,M.sK k=some ((j0 k).1,(j0 k).2,b):=by
 unfold M.sK j0;by_cases h3:k=3
 ·subst h3;exact⟨true,rfl⟩
 by_cases h4:k=4
 ·subst h4;exact⟨true,rfl⟩
 by_cases h5:k=5
 ·subst h5;exact⟨true,rfl⟩
 by_cases h6:k=6
 ·subst h6;exact⟨true,rfl⟩
 by_cases h7:k=7
 ·subst h7;exact⟨true,rfl⟩
 by_cases h8:k=8
 ·subst h8;exact⟨true,rfl⟩
 by_cases h9:k=9
 ·subst h9;exact⟨true,rfl⟩
 exact⟨false,by simp[h3,h4,h5,h6,h7,h8,h9,kb h3,kb h4,kb h5,kb h6,kb h7,kb h8,kb h9]⟩
theorem PU(k:Int):∃b,M.vE k=some ((j0 k).1,(j0 k).2,b):=PT k
theorem ado{k:Int}(h:¬(3<=k/\k<=9)):j0 k=(0,0):=by
 unfold j0;rw[ax (by omega),ax (by omega),ax (by omega),ax (by omega),ax (by omega),ax (by omega),ax (by omega)]
theorem adp(v:ae)(t:aa):M.sL v t=some (ft v.Num t):=by
 unfold M.sL ft;by_cases h1:t.Kind=2\/t.Kind=13\/t.Kind=14
 ·rw[aC h1];rcases h1 with h|h|h<;>simp[h]
 ·rw[ax h1];simp only[k9]at h1;obtain⟨a2,a13,a14⟩:=h1;simp only[kb a2,kb a13,kb a14,bF];by_cases h2:3<=t.Kind/\t.Kind<=9
  ·rw[aC h2];obtain⟨b,e⟩:=PT t.Kind;have:(bif t.Kind==3 then t.Kind==3 else bif t.Kind==4 then t.Kind==4 else bif t.Kind==5 then t.Kind==5 else bif t.Kind==6 then t.Kind==6 else bif t.Kind==7 then t.Kind==7 else bif t.Kind==8 then t.Kind==8 else t.Kind==9)=true:=by
    have:t.Kind=3\/t.Kind=4\/t.Kind=5\/t.Kind=6\/t.Kind=7\/t.Kind=8\/t.Kind=9:=by omega
    rcases this with h|h|h|h|h|h|h<;>simp[h]
   rw[this,e];rfl
  ·rw[ax h2];have:(bif t.Kind==3 then t.Kind==3 else bif t.Kind==4 then t.Kind==4 else bif t.Kind==5 then t.Kind==5 else bif t.Kind==6 then t.Kind==6 else bif t.Kind==7 then t.Kind==7 else bif t.Kind==8 then t.Kind==8 else t.Kind==9)=false:=by
    simp only[kb (show t.Kind≠3 by omega),kb (show t.Kind≠4 by omega),kb (show t.Kind≠5 by omega),kb (show t.Kind≠6 by omega),kb (show t.Kind≠7 by omega),kb (show t.Kind≠8 by omega),kb (show t.Kind≠9 by omega),bF]
   rw[this];simp only[bF];by_cases h3:t.Kind=10
   ·rw[aC h3,kt h3];rfl
   ·rw[ax h3,kb h3];simp only[bF];unfold qq Ec;by_cases h4:t.Kind=17
    ·simp[h4]
    by_cases h5:t.Kind=18
    ·simp[h5]
    by_cases h6:t.Kind=19
    ·simp[h6]
    by_cases h7:t.Kind=20
    ·simp[h7]
    by_cases h8:t.Kind=21
    ·simp[h8]
    by_cases h9:t.Kind=22
    ·simp[h9]
    by_cases h10:t.Kind=23
    ·simp[h10]
    simp[h4,h5,h6,h7,h8,h9,h10,kb h4,kb h5,kb h6,kb h7,kb h8,kb h9,kb h10]
theorem ze{t:aa}(h:ei t=true):(t.Kind=12->t.Kids.length=1)/\(t.Kind=13->t.Kids.length=1/\fi (t.Kids.getD 0 aa.zero)=false)/\(t.Kind=14->t.Kids.length=2)/\(t.Kind=17->t.Kids.length=t.bK.length):=by
 rw[vT]at h;simp only[bc]at h;have hk:=h.1;unfold nW at hk;simp only[bc]at hk;have hk:=hk.2;unfold yZ at hk;refine⟨fun e=>?_,fun e=>?_,fun e=>?_,fun e=>?_⟩
 ·rw[aC (.inl e)]at hk;simp at hk;exact hk.1
 ·rw[aC (.inr e)]at hk;simp only[bc,iH,eZ]at hk;refine⟨hk.1,?_⟩;have hl:0<t.Kids.length:=by omega
  rw[getD_lt hl];have:=List.any_eq_false.1 hk.2 _ (ca hl);simpa using this
 ·rw[ax (by omega),aC e]at hk;simp at hk;exact hk
 ·rw[ax (by omega),ax (by omega),ax (by omega),ax (by omega),aC e]at hk;simp at hk;exact hk
theorem ads(t:aa)(n:Int)(hl:t.Kids.length<=1048576)(h:t.Kind≠13):M.nD t n=some (if 0<=n/\n<(t.Kids.length:Int)then(t.Kids.getD n.toNat aa.zero,true)else(.mk 0 [] [] [],false)):=by
 unfold M.nD;rw[kb h,wrap_i64 (show(-9223372036854775808:Int)<=(t.Kids.length:Int)-1 by omega) (by omega)];simp only[bF];by_cases hn:0<=n/\n<(t.Kids.length:Int)
 ·rw[aC hn,cZ hn.1,cZ (show n<=(t.Kids.length:Int)-1 by omega)];have hin:inB n t.Kids.length=true:=by unfold inB;rw[cZ hn.1,cZ hn.2];rfl
  rw[hin,aa.aE];rfl
 ·rw[ax hn];have:(decide ((0:Int)<=n)&&decide (n<=(t.Kids.length:Int)-1))=false:=by
   rw[Bool.and_eq_false_iff];by_cases h0:0<=n
   ·right;exact dw (by omega)
   ·left;exact dw h0
  rw[this];rfl
theorem adt(t:aa)(n:Int)(h:t.Kind=13)(hk:t.Kids.length=1)(hn:n=0\/n=1):M.nD t n=some (if n=0 then(.mk 1 [] [] [],true)else(t.Kids.getD 0 aa.zero,true)):=by
 unfold M.nD;rw[kt h,hk];rcases hn with rfl|rfl
 ·rfl
 ·have:Go.IntKind.wrap .i64 ((1:Int)-1)=0:=by decide
  have h2:Go.IntKind.wrap .i64 (((1:Nat):Int)-1)=0:=by decide
  rw[this,h2,aa.aE];rfl
theorem adu(v:ae)(t:aa)(hv:v.sz<=1048576)(ht:t.sz<=1048576)(hs:ei t=true)(hn:ft v.Num t=true):
 ∃l,M.sN v t=some (l,(kT v.Num v.Kids.length t).isSome)/\∀ts,kT v.Num v.Kids.length t=some ts->l=ts:=by
 obtain⟨s12,s13,s14,zf⟩:=ze hs;have hl:=ae.ib hv;have hl2:=aa.ib ht;unfold M.sN kT;by_cases h12:t.Kind=12
 ·rw[aC h12,kt h12];have hk:=s12 h12;have e:M.mS t.Kids (bif decide ((8:Int)<(v.Kids.length:Int))then 8 else(v.Kids.length:Int))=some (List.replicate (min v.Kids.length 8) (t.Kids.getD 0 aa.zero)):=by
   have e1:(bif decide ((8:Int)<(v.Kids.length:Int))then(8:Int)else(v.Kids.length:Int))=((min v.Kids.length 8:Nat):Int):=by
    by_cases h:(8:Int)<(v.Kids.length:Int)
    ·rw[cZ h,aT];omega
    ·rw[dw h,bF];omega
   rw[e1];unfold M.mS;rw[cZ hk,cZ (show(0:Int)<=((min v.Kids.length 8:Nat):Int) by omega),cZ (show((min v.Kids.length 8:Nat):Int)<=8 by omega),bY];rfl
  rw[e];exact⟨_,rfl,fun ts h=>eQ h⟩
 ·rw[ax h12,kb h12];simp only[bF];by_cases h15:t.Kind=15\/t.Kind=16
  ·rw[aC h15];have:(bif t.Kind==15 then t.Kind==15 else t.Kind==16)=true:=by rcases h15 with h|h<;>simp[h]
   rw[this];exact⟨_,rfl,fun ts h=>eQ h⟩
  ·rw[ax h15];simp only[k9]at h15;simp only[kb h15.1,kb h15.2,bF];by_cases h13:t.Kind=13
   ·rw[aC h13];simp only[kt h13,aT];obtain⟨k1,k2⟩:=s13 h13;have PV:v.Num=0\/v.Num=1:=by
     unfold ft at hn;rw[aC (.inr (.inl h13))]at hn;simp only[bc,bP]at hn;omega
    rw[aa.aE,adt t v.Num h13 k1 PV];rcases PV with e|e
    ·rw[e];exact⟨[],rfl,fun ts h=>eQ h⟩
    ·rw[e];have hku:((t.Kids.getD 0 aa.zero).Kind==1)=false:=k2;have ho:iK (t.Kids.getD 0 aa.zero)=[t.Kids.getD 0 aa.zero]:=by unfold iK;rw[k2];rfl
     rw[ax (by decide),ax (by decide),aC rfl,ho];simp only[bH,hku,bF,bQ,cI,aT,aa.aE];exact⟨_,rfl,fun ts h=>eQ h⟩
   ·rw[ax h13];by_cases fS:t.Kind=14\/t.Kind=17
    ·rw[aC fS];have:(bif t.Kind==13 then t.Kind==13 else bif t.Kind==14 then t.Kind==14 else t.Kind==17)=true:=by rcases fS with h|h<;>simp[h]
     rw[this,aa.aE,ads t v.Num hl2 h13];by_cases hb:0<=v.Num/\v.Num<(t.Kids.length:Int)
     ·rw[aC hb,aC hb];unfold iK fi;cases hu:((t.Kids.getD v.Num.toNat aa.zero).Kind==1)
      ·simp only[bH,hu,bF,aT,bQ,cI,aa.aE];exact⟨_,rfl,fun ts h=>eQ h⟩
      ·simp only[bH,hu,bF,aT,bQ,cI,aa.aE];exact⟨_,rfl,fun ts h=>eQ h⟩
     ·rw[ax hb,ax hb];exact⟨_,rfl,fun ts h=>by cases h⟩
    ·rw[ax fS];simp only[k9]at fS;simp only[kb h13,kb fS.1,kb fS.2,bF];exact⟨_,rfl,fun ts h=>eQ h⟩
theorem adw{n:Int}{len:Nat}{t:aa}(hs:ei t=true){ts:List aa}(h:kT n len t=some ts):∀x∈ts,ei x=true:=by
 have hkids:∀x∈t.Kids,ei x=true:=by
  rw[vT,bc,vU,dW]at hs;exact hs.2
 obtain⟨s12,s13,s14,zf⟩:=ze hs;have hone:∀k,k<t.Kids.length->∀x∈iK (t.Kids.getD k aa.zero),ei x=true:=fun k hk x hx=>by
  unfold iK at hx;split at hx
  ·cases hx
  ·rw[qs]at hx;subst hx;rw[getD_lt hk];exact hkids _ (ca hk)
 unfold kT at h;split at h
 ·rename_i h12;simp only[av]at h;subst h;intro x hx;rw[(List.mem_replicate.1 hx).2,getD_lt (by rw[s12 h12];omega)];exact hkids _ (ca _)
 ·split at h
  ·simp only[av]at h;subst h;exact hkids
  ·split at h
   ·rename_i h13;split at h
    ·simp only[av]at h;subst h;intro x hx;cases hx
    ·split at h
     ·simp only[av]at h;subst h;exact hone 0 (by rw[(s13 h13).1];omega)
     ·cases h
   ·split at h
    ·split at h
     ·rename_i hb;simp only[av]at h;subst h;exact hone _ (by omega)
     ·cases h
    ·simp only[av]at h;subst h;intro x hx;cases hx
theorem adx{n:Int}{len:Nat}{t:aa}(hs:ei t=true)(ht:t.sz<=1048576){ts:List aa}(h:kT n len t=some ts):∀x∈ts,x.sz<=1048576:=by
 obtain⟨s12,s13,s14,zf⟩:=ze hs;have hkids:∀x∈t.Kids,x.sz<=1048576:=fun x hx=>by have:=aa.ic hx;omega
 have hone:∀k,k<t.Kids.length->∀x∈iK (t.Kids.getD k aa.zero),x.sz<=1048576:=fun k hk x hx=>by
  unfold iK at hx;split at hx
  ·cases hx
  ·rw[qs]at hx;subst hx;rw[getD_lt hk];exact hkids _ (ca hk)
 unfold kT at h;split at h
 ·rename_i h12;simp only[av]at h;subst h;intro x hx;rw[(List.mem_replicate.1 hx).2,getD_lt (by rw[s12 h12];omega)];exact hkids _ (ca _)
 ·split at h
  ·simp only[av]at h;subst h;exact hkids
  ·split at h
   ·rename_i h13;split at h
    ·simp only[av]at h;subst h;intro x hx;cases hx
    ·split at h
     ·simp only[av]at h;subst h;exact hone 0 (by rw[(s13 h13).1];omega)
     ·cases h
   ·split at h
    ·split at h
     ·rename_i hb;simp only[av]at h;subst h;exact hone _ (by omega)
     ·cases h
    ·simp only[av]at h;subst h;intro x hx;cases hx
theorem PW:∀(m:Nat)(v:ae)(t:aa),v.sz<m->v.sz<=1048576->t.sz<=1048576->ei t=true->M.kM m v t=some (dz v t)
 |0,v,t,h,_,_,_=>absurd h (i4 _)
 |m+1,v,t,h,hv,ht,hs=>by
  have hl:=ae.ib hv
  show M.vF (M.kM m) v t=_
  unfold M.vF;rw[ae.aE,aa.aE,adp,adn _ (ae.PO hv),PR];simp only[bH,bQ,bZ,bX,aT,fK];have hhead:headB v.Kind v.Num v.Text t= !(((!(v.Kind==t.Kind))||(!ft v.Num t)||((!(v.Text==[]))&&(!(t.Kind==11))))||(!k7 v.Text)):=by
   unfold headB;cases (v.Kind==t.Kind)<;>cases ft v.Num t<;>cases (v.Text==[])<;>cases (t.Kind==11)<;>cases k7 v.Text<;>rfl
  cases hb:(((!(v.Kind==t.Kind))||(!ft v.Num t)||((!(v.Text==[]))&&(!(t.Kind==11))))||(!k7 v.Text))
  ·rw[hhead,hb];have hn:ft v.Num t=true:=by
    simp only[vX,Bool.not_eq_false']at hb;exact hb.1.1.2
   obtain⟨l,e1,e2⟩:=adu v t hv ht hs hn;rw[e1];simp only[bF,bH,bQ,iE,bU];cases hk:kT v.Num v.Kids.length t with
   |none=>rfl
   |some ts=>
    have:=e2 ts hk;subst this;simp only[bQ,d5,nY];by_cases hlen:l.length=v.Kids.length
    ·have:((l.length:Int)==(v.Kids.length:Int))=true:=by rw[iH];omega
     rw[this,cZ hlen];have hloop:=kX (p:=fun k=>dz (v.Kids.getD k ae.zero) (l.getD k aa.zero)) (F:=fun f i=>M.kL (M.kM m) l v.Kids (v.Kids.length:Int) f i) (e:=()) (b:=false) v.Kids.length (by omega) (fun f k hk2=>by
      show M.kL (M.kM m) l v.Kids (v.Kids.length:Int) (f+1) (k:Int)=_
      rw[M.kL];have hx:=ae.ic (ca hk2);have hkl:k<l.length:=by omega
      have hx2:=adx hs ht hk l[k] (ca hkl);have hx3:=adw hs hk l[k] (ca hkl);simp only[aa.aE,ae.aE,getD_lt hk2,getD_lt hkl,PW m v.Kids[k] l[k] (by omega) (by omega) hx2 hx3,bY,cg,cX,hk2,hkl,cz,aT,bZ,bU,bX,bM hk2 (by omega:v.Kids.length<2^62),bH,bQ];cases dz v.Kids[k] l[k]<;>rfl) (fun f=>by
      show M.kL (M.kM m) l v.Kids (v.Kids.length:Int) (f+1) _=_
      rw[M.kL];simp)
     have ady:M.kL (M.kM m) l v.Kids (v.Kids.length:Int) al 0=_:=hloop;rw[ady,Ed _ _ hlen];cases (List.range v.Kids.length).all fun k=>dz (v.Kids.getD k ae.zero) (l.getD k aa.zero)<;>rfl
    ·have:((l.length:Int)==(v.Kids.length:Int))=false:=by rw[gZ];omega
     rw[this,dw hlen];rfl
  ·rw[hhead,hb];rfl
end M
namespace M
open Go.V (inB cu al cE)
theorem adz:k7 []=true:=rfl
section
variable{rec :ae->aa->Option Bool}{kids:List ae}
theorem PX(most:Int)(t:aa)(hl:kids.length<=1048576)(hr:∀x∈kids,rec x t=some (dz x t)):
 M.pO rec kids most t=some (decide ((kids.length:Int)<=most)&&kids.all fun v=>dz v t):=by
 have e:=vV (p:=fun v=>dz v t) (F:=fun f i=>M.kH rec kids f i t) (e:=()) (b:=false) kids (by omega) (fun f k hk=>by
  show M.kH rec kids (f+1) (k:Int) t=_
  rw[M.kH];simp only[aa.aE,ae.aE,getD_lt hk,hr _ (ca hk),bY,cg,cX,hk,cz,aT,bZ,bU,bX,bM hk (by omega:kids.length<2^62),bH,bQ];cases dz kids[k] t<;>rfl) (fun f=>by
  show M.kH rec kids (f+1) _ t=_
  rw[M.kH];simp)
 have e':M.kH rec kids al 0 t=_:=e;unfold M.pO;rw[aa.aE,e'];by_cases h:(kids.length:Int)<=most
 ·rw[cZ h,dw (show ¬most<(kids.length:Int) by omega)];cases kids.all fun v=>dz v t<;>rfl
 ·rw[dw h,cZ (show most<(kids.length:Int) by omega)];rfl
theorem adA(ts:List aa)(hl:kids.length<=1048576)(hr:∀k,k<kids.length->k<ts.length->rec (kids.getD k ae.zero) (ts.getD k aa.zero)=some (dz (kids.getD k ae.zero) (ts.getD k aa.zero))):
 M.sD rec kids ts=some (decide (ts.length=kids.length)&&ie kids ts):=by
 unfold M.sD;by_cases hlen:ts.length=kids.length
 ·have e:=kX (p:=fun k=>dz (kids.getD k ae.zero) (ts.getD k aa.zero)) (F:=fun f i=>M.kJ rec kids ts f i) (e:=()) (b:=false) kids.length (by omega) (fun f k hk=>by
   show M.kJ rec kids ts (f+1) (k:Int)=_
   rw[M.kJ];have hk2:k<ts.length:=by omega
   simp only[aa.aE,ae.aE,bY,hr k hk hk2,cg,cX,hk,hk2,cz,aT,bZ,bU,bX,bM hk (by omega:kids.length<2^62),bH,bQ];cases dz (kids.getD k ae.zero) (ts.getD k aa.zero)<;>rfl) (fun f=>by
   show M.kJ rec kids ts (f+1) _=_
   rw[M.kJ];simp)
  have e':M.kJ rec kids ts al 0=_:=e;have hne:((kids.length:Int) !=(ts.length:Int))=false:=by rw[fK,hlen];simp
  rw[hne,e',cZ hlen,Ed _ _ hlen];cases (List.range kids.length).all fun k=>dz (kids.getD k ae.zero) (ts.getD k aa.zero)<;>rfl
 ·have hne:((kids.length:Int) !=(ts.length:Int))=true:=by rw[fK,kb (show(kids.length:Int)≠(ts.length:Int) by omega)];rfl
  rw[hne,dw hlen];rfl
theorem PY(t:aa)(hl:kids.length<=1048576)(hr:∀x∈kids,rec x t=some (dz x t)):
 M.pN rec kids t=some (decide ((iK t).length=kids.length)&&ie kids (iK t)):=by
 unfold M.pN iK fi;cases hu:(t.Kind==1)
 ·simp only[bF,gi,dN,aa.aE,ae.aE,Int.toNat_zero]
  match kids,hr with
  |[],_=>
    have h1:((([]:List ae).length:Int)==1)=false:=rfl;rw[h1];simp[ie]
  |[x],hr=>
    have:=hr x (qs.2 rfl);simp only[List.getD_cons_zero,this];simp[inB,ie]
  |x::y::r,_=>
   have h1:(((x::y::r).length:Int)==1)=false:=kb (by simp only[cV];omega);have h2:decide ([t].length=(x::y::r).length)=false:=dw (by simp);rw[h1,h2];simp
 ·simp only[aT,dC]
  match kids with
  |[]=>rfl
  |x::r=>
   have h1:(((x::r).length:Int)==0)=false:=kb (by simp only[cV];omega);have h2:decide (([]:List aa).length=(x::r).length)=false:=dw (by simp);rw[h1,h2];rfl
end
theorem len0(l:List ae):((l.length:Int)==0)=decide (([]:List aa).length=l.length):=by
 cases l with
 |nil=>rfl
 |cons a r=>rw[kb (by simp only[cV];omega),dw (by simp)]
theorem adB(l:List ae):(decide (([]:List aa).length=l.length)&&ie l [])=decide (([]:List aa).length=l.length):=by
 cases l with
 |nil=>rfl
 |cons a r=>rw[dw (by simp)];rfl
theorem adC(n:Nat)(h:n<=1048576):Go.IntKind.wrap .u64 (n:Int)=(n:Int):=Go.IntWalk.u64_in _ (by omega)
theorem zg(l:List ae):(decide (([]:List aa).length=l.length)&&ie l [])=((l.length:Int)==0):=by rw[adB,len0]
theorem Ee(n:Int):(decide ((0:Int)<=n)&&decide (n<=(0:Int)))=(n==0):=by
 by_cases h:n=0
 ·rw[h];rfl
 ·rw[kb h,Bool.and_eq_false_iff];by_cases h0:(0:Int)<=n
  ·right;exact dw (by omega)
  ·left;exact dw h0
section
variable{rec :ae->aa->Option Bool}
theorem adD(v:ae)(t:aa)(hv:v.sz<=1048576)(ht:t.sz<=1048576)(hs:ei t=true)
 (hrec:∀x∈v.Kids,∀y∈t.Kids,rec x y=some (dz x y)) (hk:v.Kind=t.Kind) (htx:t.Kind≠11) (hte:v.Text=[]):
 M.l4 rec v t=some (ft v.Num t&&(match kT v.Num v.Kids.length t with
 |some ts=>decide (ts.length=v.Kids.length)&&ie v.Kids ts
 |none=>false)):=by
 have hl:=ae.ib hv;have hl2:=aa.ib ht;have hlab:=aa.acR ht;obtain⟨s12,s13,s14,zf⟩:=ze hs;have zh:∀k,k<t.Kids.length->∀x∈v.Kids,rec x (t.Kids.getD k aa.zero)=some (dz x (t.Kids.getD k aa.zero)):=fun k hk x hx=>by
  rw[getD_lt hk];exact hrec x hx _ (ca hk)
 unfold M.l4;simp only[aa.aE,ae.aE,fK,kt hk,hte,AH,d5,Bool.and_false,fO,bF];by_cases h2:t.Kind=2
 ·unfold ft kT;simp only[h2,Int.reduceBEq,Int.reduceEq,aT,bF,fO,or_self,true_or,or_true,iY,false_or,dC,dN,zg];cases (decide ((0:Int)<=v.Num)&&decide (v.Num<=(1:Int)))<;>rfl
 by_cases fS:t.Kind=14
 ·unfold ft kT;simp only[fS,Int.reduceBEq,Int.reduceEq,aT,bF,fO,kq,jg,bZ,or_self,true_or,or_true,iY,false_or,dC,dN];by_cases hn:(decide ((0:Int)<=v.Num)&&decide (v.Num<=(1:Int)))=true
  ·rw[hn];simp only[bc,bP]at hn;have hk2:=s14 fS;have hin:inB v.Num t.Kids.length=true:=by unfold inB;rw[cZ hn.1,cZ (by omega)];rfl
   rw[PY (t.Kids.getD v.Num.toNat aa.zero) hl (zh _ (by omega)),hin,aC (show 0<=v.Num/\v.Num<(t.Kids.length:Int) by omega)];simp
  ·simp only[qp]at hn;rw[hn];rfl
 by_cases h13:t.Kind=13
 ·unfold ft kT;simp only[h13,Int.reduceBEq,Int.reduceEq,aT,bF,fO,kq,jg,bZ,or_self,true_or,or_true,iY,false_or,dC,dN];obtain⟨k1,k2⟩:=s13 h13;have hin:inB (0:Int) t.Kids.length=true:=by rw[k1];rfl
  have ho:iK (t.Kids.getD 0 aa.zero)=[t.Kids.getD 0 aa.zero]:=by unfold iK;rw[k2];rfl
  rw[Int.toNat_zero,PX 1 (t.Kids.getD 0 aa.zero) hl (zh 0 (by omega)),hin,ho];simp only[bQ,bZ,cI,aT,bH];congr 1
  match hkk:v.Kids with
  |[]=>
    by_cases hn:v.Num=0
    ·rw[hn];rfl
    ·rw[kb (show v.Num≠((([]:List ae).length:Nat):Int) by simpa using hn)];rw[ax hn];by_cases h1:v.Num=1
     ·rw[aC h1];simp
     ·rw[ax h1];simp
  |[x]=>
    by_cases hn:v.Num=1
    ·rw[hn];simp[ie]
    ·rw[kb (show v.Num≠((([x]:List ae).length:Nat):Int) by simpa using hn)];by_cases h1:v.Num=0
     ·rw[aC h1];simp
     ·rw[ax h1,ax hn];simp
  |x::y::r=>
   have e1:decide ((((x::y::r).length:Nat):Int)<=1)=false:=dw (by simp only[cV];omega);rw[e1];by_cases h0:v.Num=0
   ·rw[aC h0];simp
   ·rw[ax h0];by_cases h1:v.Num=1
    ·rw[aC h1];simp
    ·rw[ax h1];simp
 by_cases h10:t.Kind=10
 ·unfold ft kT;have hc:M.gJ v.Num=some (PQ v.Num):=rfl;simp only[h10,hc,Int.reduceBEq,Int.reduceEq,Int.reduceLE,aT,bF,fO,or_self,true_or,or_true,iY,false_or,and_false,and_true,dC,dN,zg,bH]
 by_cases h12:t.Kind=12
 ·unfold ft kT qq;simp only[h12,Int.reduceBEq,Int.reduceEq,Int.reduceLE,aT,bF,fO,kq,jg,bZ,or_self,true_or,or_true,iY,false_or,and_false,and_true,dC,dN,Ee];have k1:=s12 h12;have hin:inB (0:Int) t.Kids.length=true:=by rw[k1];rfl
  rw[Int.toNat_zero,PX 8 (t.Kids.getD 0 aa.zero) hl (zh 0 (by omega)),hin];simp only[bQ,bZ,cI,aT,bH,jO];by_cases h8:v.Kids.length<=8
  ·rw[cZ (show(v.Kids.length:Int)<=8 by omega),cZ (show min v.Kids.length 8=v.Kids.length by omega),PS _ _ _ (show min v.Kids.length 8=v.Kids.length by omega)]
  ·rw[dw (show ¬(v.Kids.length:Int)<=8 by omega),dw (show ¬min v.Kids.length 8=v.Kids.length by omega)];rfl
 by_cases h15:t.Kind=15\/t.Kind=16
 ·have e:=adA (rec:=rec) (kids:=v.Kids) t.Kids hl (fun k h1 h2=>by rw[getD_lt h1,getD_lt h2];exact hrec _ (ca h1) _ (ca h2));unfold ft kT qq;rcases h15 with h|h
  all_goals
   simp only[h,e,Int.reduceBEq,Int.reduceEq,Int.reduceLE,aT,bF,fO,kq,jg,bZ,or_self,true_or,or_true,iY,false_or,and_false,and_true,dC,dN,Ee,bQ,cI,bH]
 by_cases h17:t.Kind=17
 ·unfold ft kT qq;obtain⟨b,er⟩:=PU t.Kind;simp only[h17]at er;simp only[h17,er,Int.reduceBEq,Int.reduceEq,Int.reduceLE,aT,bF,fO,kq,jg,bZ,or_self,true_or,or_true,iY,false_or,and_false,and_true,dC,dN,bQ];have k1:=zf h17;have hw:Go.IntKind.wrap .i64 ((t.bK.length:Int)-1)=(t.bK.length:Int)-1:=wrap_i64 (by omega) (by omega);rw[hw];by_cases hn:0<=v.Num/\v.Num<(t.Kids.length:Int)
  ·have hin:inB v.Num t.Kids.length=true:=by unfold inB;rw[cZ hn.1,cZ hn.2];rfl
   rw[aC hn,cZ hn.1,cZ (show v.Num<=(t.bK.length:Int)-1 by omega),PY (t.Kids.getD v.Num.toNat aa.zero) hl (zh _ (by omega)),hin];simp
  ·have:(decide ((0:Int)<=v.Num)&&decide (v.Num<=(t.bK.length:Int)-1))=false:=by
    rw[Bool.and_eq_false_iff];by_cases h0:0<=v.Num
    ·right;exact dw (by omega)
    ·left;exact dw h0
   rw[ax hn,this];rfl
 simp only[k9]at h15;have Ef:kT v.Num v.Kids.length t=some []:=by
  unfold kT;rw[ax h12,ax (by omega),ax h13,ax (by omega)]
 rw[Ef];simp only[zg,kb h2,kb fS,kb h13,kb h10,kb htx,kb h12,kb h15.1,kb h15.2,kb h17,bF,fO];obtain⟨b,er⟩:=PU t.Kind;rw[er];simp only[bH,bQ,bU,bZ,bX,aT];rw[adC _ hlab];unfold ft;rw[ax (by omega),ax h10];unfold qq Ec;by_cases h18:t.Kind=18
 ·simp only[h18,Int.reduceBEq,Int.reduceEq,Int.reduceLE,aT,bF,or_self,true_or,or_true,iY,false_or,and_false,and_true,dC,dN];cases (decide ((0:Int)<=v.Num)&&decide (v.Num<=Go.IntKind.wrap .i64 ((t.bK.length:Int)-1)))<;>rfl
 by_cases h19:t.Kind=19
 ·simp only[h19,Int.reduceBEq,Int.reduceEq,Int.reduceLE,aT,bF,or_self,true_or,or_true,iY,false_or,and_false,and_true,dC,dN];cases (decide ((0:Int)<=v.Num)&&decide (v.Num<=Go.IntKind.wrap .i64 (Go.V.md .i64 (1:Int) (t.bK.length:Int)-1)))<;>rfl
 by_cases h20:t.Kind=20\/t.Kind=21\/t.Kind=22\/t.Kind=23
 ·rcases h20 with h|h|h|h
  all_goals
   simp only[h,Int.reduceBEq,Int.reduceEq,Int.reduceLE,aT,bF,or_self,true_or,or_true,iY,false_or,and_false,and_true,dC,dN];cases (decide ((0:Int)<=v.Num)&&decide (v.Num<=(2147483647:Int)))<;>rfl
 simp only[k9]at h20;simp only[kb h18,kb h19,kb h20.1,kb h20.2.1,kb h20.2.2.1,kb h20.2.2.2,bF];by_cases Eg:3<=t.Kind/\t.Kind<=9
 ·rw[aC Eg];cases (decide ((j0 t.Kind).1<=v.Num)&&decide (v.Num<=(j0 t.Kind).2))<;>rfl
 ·rw[ax Eg,ado Eg,ax (by omega),ax h19,ax (by omega)];cases (decide ((0:Int)<=v.Num)&&decide (v.Num<=(0:Int)))<;>rfl
end
theorem PZ:∀(m:Nat)(v:ae)(t:aa),v.sz<m->v.sz<=1048576->t.sz<=1048576->ei t=true->M.pQ m v t=some (dz v t)
 |0,v,t,h,_,_,_=>absurd h (i4 _)
 |m+1,v,t,h,hv,ht,hs=>by
  have adE:∀x∈t.Kids,ei x=true:=by
   rw[vT,bc,vU,dW]at hs;exact hs.2
  have hrec:∀x∈v.Kids,∀y∈t.Kids,M.pQ m x y=some (dz x y):=fun x hx y hy=>by
   have h1:=ae.ic hx;have h2:=aa.ic hy;exact PZ m x y (by omega) (by omega) (by omega) (adE y hy)
  show M.l4 (M.pQ m) v t=_
  rw[PR];by_cases hk:v.Kind=t.Kind
  ·by_cases h11:t.Kind=11
   ·have hh:headB v.Kind v.Num v.Text t=(k7 v.Text&&(v.Num==0)):=by
     unfold headB ft qq;simp only[kt hk,h11,kt (hk.trans h11),Int.reduceBEq,Int.reduceEq,Int.reduceLE,or_self,iY,false_or,and_false,and_true,dC,dN,Ee,jg,bX,bU];rw[Bool.and_comm]
    have Ef:kT v.Num v.Kids.length t=some []:=by
     unfold kT;rw[ax (by omega),ax (by omega),ax (by omega),ax (by omega)]
    rw[hh,Ef];unfold M.l4;simp only[aa.aE,ae.aE,fK,kt hk,h11,kt (hk.trans h11),zg,adm _ (ae.PO hv),Int.reduceBEq,d5,od,fO,aT,bF,bQ,bH,cI]
   ·by_cases hte:v.Text=[]
    ·rw[adD v t hv ht hs hrec hk h11 hte];have:headB v.Kind v.Num v.Text t=ft v.Num t:=by unfold headB;rw[kt hk,hte,adz];simp
     rw[this];try rfl
    ·have e:(v.Text==[])=false:=by
      cases h:v.Text with
      |nil=>exact absurd h hte
      |cons a r=>rfl
     have:headB v.Kind v.Num v.Text t=false:=by unfold headB;rw[e,kb h11];simp
     rw[this];unfold M.l4;rw[fK,fK,kt hk,kb h11,e];rfl
  ·have:headB v.Kind v.Num v.Text t=false:=by unfold headB;rw[kb hk];rfl
   rw[this];unfold M.l4;rw[fK,kb hk];rfl
end M
namespace M
open Go.V (inB cu al cE)
def vY(k:Int):Bool:=decide ((20:Int)<=k)&&decide (k<=23)
def ml(t:aa):Bool:=(jz t&& !fi t)&& !fJ vY t
theorem adF(k:Int):([(20:Int),21,22,23].any fun x=>k==x)=vY k:=by
 unfold vY;by_cases h:20<=k/\k<=23
 ·have:k=20\/k=21\/k=22\/k=23:=by omega
  rcases this with rfl|rfl|rfl|rfl<;>rfl
 ·simp only[List.any_cons,List.any_nil,kb (show k≠20 by omega),kb (show k≠21 by omega),kb (show k≠22 by omega),kb (show k≠23 by omega),fO];symm;rw[Bool.and_eq_false_iff];by_cases h0:(20:Int)<=k
  ·right;exact dw (by omega)
  ·left;exact dw h0
theorem adG(t:aa)(h:t.sz<=1048576):M.sx t=some (ml t):=by
 unfold M.sx ml;have e:M.kC t 20 23=some (fJ vY t):=D5 20 23 al t (jZ h) h;simp only[aa.aE,Px t h,e,bH,bQ,bZ,bX,aT,fK,fi]
theorem adH(t:aa)(h:t.sz<=1048576):M.sJ t=some (ml t):=by
 unfold M.sJ ml;have e:M.kG t [20,21,22,23]=some (fJ vY t):=by
  have:=D6 [20,21,22,23] (by simp) al t (jZ h) h;rw[D9 adF]at this;exact this
 simp only[aa.aE,ac3 t h,e,bH,bQ,bZ,bX,aT,fi]
def ub(s:ah):Bool:=s.Buffer.all fun v=>dz v s.bR
def stB(s:ah):Bool:=
 (((ml s.bR&&((decide ((1:Int)<=s.Room)&&decide (s.Room<=(6:Int)))&& !(s.db&& !(s.Room==1))))&&(decide ((s.Buffer.length:Int)<=s.Room)&&ub s))&&
   ((!(decide (s.dx<(0:Int)))&&(decide (s.dx<=s.Put)&&decide (s.Put<=(if s.db then 1 else 1000000:Int))))&&
     !((s.Gone&&decide ((0:Int)<(s.Buffer.length:Int)))||(!s.Gone&& !(Go.IntKind.wrap .i64 (s.Put-s.dx)==(s.Buffer.length:Int))))))&&
 (((!s.db|| !s.Shut)||(s.Put==1))||s.Gone)
theorem ah.zi{s:ah}{N:Nat}(h:s.sz<=N):s.bR.sz<=N:=by rw[ah.cy]at h;omega
theorem ah.Eh{s:ah}{N:Nat}(h:s.sz<=N):aF ae.sz s.Buffer<=N:=by rw[ah.cy]at h;omega
theorem ah.adI{s:ah}{N:Nat}(h:s.sz<=N):s.Buffer.length<=N:=eU (da _ _) (ah.Eh h)
theorem P0{t:aa}(h:jz t=true):ei t=true:=by
 unfold jz at h;rw[bc]at h;exact h.2
theorem P1{t:aa}(h:ml t=true):jz t=true:=by
 unfold ml at h;simp only[bc]at h;exact h.1.1
theorem adJ(v:ae)(t:aa)(hv:v.sz<=1048576)(ht:t.sz<=1048576)(ho:jz t=true):M.sE v t=some (dz v t):=by
 unfold M.sE;have e:M.yl v t=some (dz v t):=PZ al v t (jZ hv) hv ht (P0 ho);simp only[aa.aE,ae.aE,acZ t ht,ho,e,bH,bQ,bZ,cI,aT,bU]
theorem adK(v:ae)(t:aa)(hv:v.sz<=1048576)(ht:t.sz<=1048576)(ho:jz t=true):M.yp v t=some (dz v t):=
 PW al v t (jZ hv) hv ht (P0 ho)
theorem adL(l:List ae)(t:aa)(most:Int)(hl:aF ae.sz l<=1048576)(ht:t.sz<=1048576)(ho:jz t=true):
 M.sF l t most=some (decide ((l.length:Int)<=most)&&l.all fun v=>dz v t):=by
 have hlen:l.length<=1048576:=eU (da _ _) hl;have e:=vV (p:=fun v=>dz v t) (F:=fun f i=>M.kK l f i t) (e:=()) (b:=false) l (by omega) (fun f k hk=>by
  show M.kK l (f+1) (k:Int) t=_
  rw[M.kK];simp only[aa.aE,ae.aE,getD_lt hk,adJ l[k] t (O7 hl (ca hk)) ht ho,bY,cg,cX,hk,cz,aT,bZ,bU,bX,bM hk (by omega:l.length<2^62),bH,bQ];cases dz l[k] t<;>rfl) (fun f=>by
  show M.kK l (f+1) _ t=_
  rw[M.kK];simp)
 have e':M.kK l al 0 t=_:=e;unfold M.sF;rw[aa.aE,e'];by_cases h:(l.length:Int)<=most
 ·rw[cZ h,dw (show ¬most<(l.length:Int) by omega)];cases l.all fun v=>dz v t<;>rfl
 ·rw[dw h,cZ (show most<(l.length:Int) by omega)];rfl
theorem adM(s:ah)(h:s.sz<=1048576)(ho:jz s.bR=true):M.sQ s.Buffer s=some (!ub s):=by
 have hlen:=ah.adI h;have c:∀v∈s.Buffer,M.sP v s=some (!dz v s.bR):=fun v hv=>by
  unfold M.sP;rw[ae.aE,aa.aE,adK v s.bR (O7 (ah.Eh h) hv) (ah.zi h) ho];rfl
 have e:=contains_of (p:=fun v=> !dz v s.bR) (F:=M.pR s.Buffer s (s.Buffer.length:Int)) s.Buffer (by omega) (fun f k hk=>by
  rw[M.pR];simp only[ae.aE,getD_lt hk,c _ (ca hk),bY,cg,cX,hk,cz,aT,bZ,bU,bX,bM hk (by omega:s.Buffer.length<2^62),bH,bQ]) (fun f=>by
  rw[M.pR];simp)
 have e2:M.vG s.Buffer s=_:=e;unfold M.sQ;rw[e2];simp only[bH,bQ,bX,aT];rw[index_ge,ub,tW]
theorem adN(s:ah)(h:s.sz<=1048576):M.sG s=some (stB s):=by
 unfold M.sG stB;have ht:=adG s.bR (ah.zi h);simp only[aa.aE,ht,bH,bQ,bX,fK];cases hT:ml s.bR
 ·simp
 ·rw[adL s.Buffer s.bR s.Room (ah.Eh h) (ah.zi h) (P1 hT)];simp only[bH,bQ,bZ,cI,aT,d5,nY,bU];have em:(decide (s.Put<=(if s.db then 1 else 1000000:Int)))=(decide (s.Put<=(1000000:Int))&& !(s.db&&decide ((1:Int)<s.Put))):=by
   cases s.db
   ·simp
   ·simp only[dC,bU];by_cases h1:s.Put<=1
    ·rw[cZ h1,cZ (show s.Put<=1000000 by omega),dw (show ¬(1:Int)<s.Put by omega)];rfl
    ·rw[dw h1,cZ (show(1:Int)<s.Put by omega)];simp
  rw[em];generalize (decide ((1:Int)<=s.Room)&&decide (s.Room<=(6:Int)))=b1;generalize (s.Room==1)=b2;generalize decide ((s.Buffer.length:Int)<=s.Room)=b3;have:(s.Buffer.all fun v=>dz v s.bR)=ub s:=rfl;rw[this];generalize ub s=b4;generalize decide (s.dx<(0:Int))=b5;generalize decide (s.dx<=s.Put)=b6;generalize decide (s.Put<=(1000000:Int))=b7;generalize decide ((1:Int)<s.Put)=b8;generalize decide ((0:Int)<(s.Buffer.length:Int))=b9;generalize (Go.IntKind.wrap .i64 (s.Put-s.dx)==(s.Buffer.length:Int))=b10;generalize (s.Put==1)=b11;cases s.db<;>cases s.Gone<;>cases s.Shut<;>cases b1<;>cases b2<;>cases b3<;>cases b4<;>cases b5<;>cases b6<;>cases b7<;>cases b8<;>cases b9<;>cases b10<;>rfl
theorem adO(s:ah)(h:s.sz<=1048576):M.sS s=some (stB s):=by
 unfold M.sS stB;have ht:=adH s.bR (ah.zi h);simp only[aa.aE,ah.aE,ht,bH,bQ,bX,fK];cases hT:ml s.bR
 ·simp
 ·have em:M.sR s=some (if s.db then 1 else 1000000:Int):=by unfold M.sR;cases s.db<;>rfl
  have e3:decide (s.Room<(s.Buffer.length:Int))= !decide ((s.Buffer.length:Int)<=s.Room):=by
   by_cases h1:(s.Buffer.length:Int)<=s.Room
   ·rw[cZ h1,dw (show ¬s.Room<(s.Buffer.length:Int) by omega)];rfl
   ·rw[dw h1,cZ (show s.Room<(s.Buffer.length:Int) by omega)];rfl
  rw[adM s h (P1 hT),em,e3];simp only[bH,bQ,bZ,cI,aT,d5,nY,bU];generalize (decide ((1:Int)<=s.Room)&&decide (s.Room<=(6:Int)))=b1;generalize (s.Room==1)=b2;generalize decide ((s.Buffer.length:Int)<=s.Room)=b3;generalize ub s=b4;generalize decide (s.dx<(0:Int))=b5;generalize (decide (s.dx<=s.Put)&&decide (s.Put<=(if s.db then 1 else 1000000:Int)))=b6;generalize decide ((0:Int)<(s.Buffer.length:Int))=b9;generalize (Go.IntKind.wrap .i64 (s.Put-s.dx)==(s.Buffer.length:Int))=b10;generalize (s.Put==1)=b11;cases s.db<;>cases s.Gone<;>cases s.Shut<;>cases b1<;>cases b2<;>cases b3<;>cases b4<;>cases b5<;>cases b6<;>cases b9<;>cases b10<;>rfl
end M
