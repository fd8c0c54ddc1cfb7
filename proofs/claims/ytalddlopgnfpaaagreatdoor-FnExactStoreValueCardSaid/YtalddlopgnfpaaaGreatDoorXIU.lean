/-
  A TEXT'S FIRST CODE POINT, as the reference reckons it, beside the decoder of the language: in plain words.
-/
import Derived.Test.YtalddlopgnfpaaaGreatDoorXITP
import Derived.Lib.MapLaws
set_option linter.unusedVariables false
set_option linter.unusedSimpArgs false
namespace M
open Go Go.V Go.Lib
theorem Si(n:Nat)(h:n<256):IntKind.wrap .u8 (n:Int)=(n:Int):=by
 have:∀m:Fin 256,IntKind.wrap .u8 ((m.val:Nat):Int)=((m.val:Nat):Int):=by decide+kernel
 exact this ⟨n,h⟩
theorem m5(n:Nat)(h:n<2^62):IntKind.wrap .i64 (n:Int)=(n:Int):=wrap_i64 (by omega) (by omega)
theorem GR(n:Nat)(h:n<2^62):dR .and .i64 (n:Int) 63=((n%64:Nat):Int):=by
 have e:(BitVec.ofInt 64 (n:Int)&&& BitVec.ofInt 64 (63:Int)).toNat=n%64:=by
  rw[BitVec.toNat_and];have h1:(BitVec.ofInt 64 (n:Int)).toNat=n:=by rw[BitVec.toNat_ofInt];omega
  have h2:(BitVec.ofInt 64 (63:Int)).toNat=63:=by decide
  rw[h1,h2];exact Nat.and_two_pow_sub_one_eq_mod n 6
 show IntKind.wrap .i64 (((BitVec.ofInt 64 (n:Int)&&& BitVec.ofInt 64 (63:Int)).toNat:Nat):Int)=_
 rw[e,m5 _ (by omega)]
theorem aeH(x:UInt8):dR .and .u8 ((x.toNat:Nat):Int) 63=((x.toNat%64:Nat):Int):=by
 have:∀m:Fin 256,dR .and .u8 ((m.val:Nat):Int) 63=((m.val%64:Nat):Int):=by decide+kernel
 exact this ⟨x.toNat,x.toNat_lt⟩
theorem aeI(n r:Nat)(hr:r<64)(h:n<2^40):dR .or .i64 ((n*64:Nat):Int) (r:Int)=((n*64+r:Nat):Int):=by
 have e:(BitVec.ofInt 64 ((n*64:Nat):Int)|||BitVec.ofInt 64 (r:Int)).toNat=n*64+r:=by
  rw[BitVec.toNat_or];have h1:(BitVec.ofInt 64 ((n*64:Nat):Int)).toNat=n*64:=by rw[BitVec.toNat_ofInt];omega
  have h2:(BitVec.ofInt 64 (r:Int)).toNat=r:=by rw[BitVec.toNat_ofInt];omega
  rw[h1,h2];have:=Nat.two_pow_add_eq_or_of_lt (b:=r) (i:=6) (by simpa using hr) n;rw[show(2:Nat)^6=64 by rfl]at this;rw[vV n 64,<-this]
 show IntKind.wrap .i64 (((BitVec.ofInt 64 ((n*64:Nat):Int)|||BitVec.ofInt 64 (r:Int)).toNat:Nat):Int)=_
 rw[e,m5 _ (by omega)]
theorem aeJ(n:Nat)(h:n<2^40):oo .i64 (n:Int) 6=((n*64:Nat):Int):=by
 have:oo .i64 (n:Int) 6=IntKind.wrap .i64 ((n:Int)*64):=rfl;rw[this,show(n:Int)*64=((n*64:Nat):Int) by omega,m5 _ (by omega)]
theorem aeK(n:Nat):ft .i64 (n:Int) 6=((n/64:Nat):Int):=by
 have:ft .i64 (n:Int) 6=(n:Int).fdiv 64:=rfl;rw[this,Int.fdiv_eq_ediv_of_nonneg _ (by omega)];omega
theorem aeL(n:Nat):ft .i64 (n:Int) 12=((n/4096:Nat):Int):=by
 have:ft .i64 (n:Int) 12=(n:Int).fdiv 4096:=rfl;rw[this,Int.fdiv_eq_ediv_of_nonneg _ (by omega)];omega
theorem aeM(n:Nat):ft .i64 (n:Int) 18=((n/262144:Nat):Int):=by
 have:ft .i64 (n:Int) 18=(n:Int).fdiv 262144:=rfl;rw[this,Int.fdiv_eq_ediv_of_nonneg _ (by omega)];omega
theorem vp(k:Int)(m:Nat)(h:k=(m:Int))(hm:m<256):IntKind.wrap .u8 (IntKind.wrap .i64 k)=(m:Int):=by
 subst h;rw[m5 m (by omega),Si m hm]
theorem nf(m:Nat)(h:m<256):eS (m:Int)=true:=by unfold eS;simp;omega
theorem Bv(m:Nat):dO (m:Int)=UInt8.ofNat m:=rfl
def gp(n:Nat):List UInt8:=
 if n<128 then[UInt8.ofNat n]
 else if n<2048 then[UInt8.ofNat (192+n/64),UInt8.ofNat (128+n%64)]
 else if n<65536 then[UInt8.ofNat (224+n/4096),UInt8.ofNat (128+n/64%64),UInt8.ofNat (128+n%64)]
 else[UInt8.ofNat (240+n/262144),UInt8.ofNat (128+n/4096%64),UInt8.ofNat (128+n/64%64),UInt8.ofNat (128+n%64)]
theorem aeN(n:Nat)(h:n<=1114111):M.nM (n:Int)=some (gp n):=by
 have ha:=GR n (by omega);have hb:=GR (n/64) (by omega);have hc:=GR (n/4096) (by omega);unfold M.nM gp;rw[aeK,aeL,aeM,hb,hc,ha];by_cases h1:n<128
 ·rw[bG h1,Si n (by omega),nf n (by omega),Bv];have:decide ((n:Int)<128)=true:=by simp;omega
  rw[this];rfl
 ·rw[bH h1];have d1:decide ((n:Int)<128)=false:=by simp;omega
  rw[d1];have b0:=vp (128+((n%64:Nat):Int)) (128+n%64) (by omega) (by omega);rw[b0];by_cases h2:n<2048
  ·have d2:decide ((n:Int)<2048)=true:=by simp;omega
   have b1:=vp (192+((n/64:Nat):Int)) (192+n/64) (by omega) (by omega);rw[bG h2,d2,b1];simp only[aW,cE,nf _ (show 192+n/64<256 by omega),nf _ (show 128+n%64<256 by omega),Bv,mR,List.map_id']
  ·rw[bH h2];have d2:decide ((n:Int)<2048)=false:=by simp;omega
   have b2:=vp (128+((n/64%64:Nat):Int)) (128+n/64%64) (by omega) (by omega);rw[d2,b2];by_cases h3:n<65536
   ·have d3:decide ((n:Int)<65536)=true:=by simp;omega
    have b1:=vp (224+((n/4096:Nat):Int)) (224+n/4096) (by omega) (by omega);rw[bG h3,d3,b1];simp only[aW,cE,nf _ (show 224+n/4096<256 by omega),nf _ (show 128+n/64%64<256 by omega),nf _ (show 128+n%64<256 by omega),Bv,mR,List.map_id']
   ·have d3:decide ((n:Int)<65536)=false:=by simp;omega
    have b1:=vp (240+((n/262144:Nat):Int)) (240+n/262144) (by omega) (by omega);have b3:=vp (128+((n/4096%64:Nat):Int)) (128+n/4096%64) (by omega) (by omega);rw[bH h3,d3,b1,b3];simp only[aW,cE,nf _ (show 240+n/262144<256 by omega),nf _ (show 128+n/4096%64<256 by omega),nf _ (show 128+n/64%64<256 by omega),nf _ (show 128+n%64<256 by omega),Bv,mR,List.map_id']
def kG(n:Nat):List UInt8->Nat
 |[]=>n
 |x::r=>kG (n*64+x.toNat%64) r
theorem Sj(s:List UInt8)(many:Nat)(hm:many<=s.length)(hs:s.length<=1048576):∀(d f n i:Nat),i+d=many->d<=3->(n+1)*64^d<=2^24->
 M.pM s (many:Int) (f+d+1) (n:Int) (i:Int)=some (s,(many:Int),((kG n ((s.take many).drop i):Nat):Int))
 |0,f,n,i,hi,_,hn=>by
  have d:decide ((i:Int)<(many:Int))=false:=by simp;omega
  have e:(s.take many).drop i=[]:=List.drop_eq_nil_of_le (by rw[hU];omega);rw[e];simp only[M.pM,d,aW,kG]
 |d+1,f,n,i,hi,hd,hn=>by
  have d1:decide ((i:Int)<(many:Int))=true:=by simp;omega
  have hin:inB (i:Int) s.length=true:=by rw[cD];simp;omega
  have hil:i<(s.take many).length:=by rw[hU];omega
  have hg:s.getD i 0=(s.take many)[i]:=by rw[getD_lt (by omega),List.getElem_take]
  have hp:64^(d+1)=64*64^d:=by rw[Nat.pow_succ,vV]
  have hn2:n<2^24:=by
   have:(n+1)*1<=(n+1)*64^(d+1):=Nat.mul_le_mul_left _ (Nat.pos_of_ne_zero (by simp));omega
  have hb:((s.getD i 0).toNat%64)<64:=Nat.mod_lt _ (by omega);have hstep:(n*64+(s.getD i 0).toNat%64+1)*64^d<=2^24:=by
   have:(n*64+(s.getD i 0).toNat%64+1)*64^d<=((n+1)*64)*64^d:=bL _ (by omega);rw[hp,<-Nat.mul_assoc]at hn;omega
  have ih:=Sj s many hm hs d f (n*64+(s.getD i 0).toNat%64) (i+1) (by omega) (by omega) hstep;rw[fe hil,kG];rw[show f+(d+1)+1=(f+d+1)+1 by omega,M.pM];rw[d1,bP,hin];simp only[cE,aQ];rw[aeJ n (by omega),aeH,m5 ((s.getD i 0).toNat%64) (by omega),aeI n _ hb (by omega),cq (show i<many by omega) (by omega)];rw[ih,hg]
end M
namespace M
open Go Go.V Go.Lib
def fi(b:Nat):Nat:=if 240<=b then 4 else if 224<=b then 3 else if 192<=b then 2 else 1
def gu(b:Nat):Nat:=if 240<=b then b-240 else if 224<=b then b-224 else if 192<=b then b-192 else b
def iE(n:Nat):Bool:=decide (n<=55295)||(decide (57344<=n)&&decide (n<=1114111))
def eG(s:List UInt8):Nat×Nat:=
 if s.length<fi (s.getD 0 0).toNat then(0,0)
 else if iE (kG (gu (s.getD 0 0).toNat) ((s.take (fi (s.getD 0 0).toNat)).drop 1))&&(gp (kG (gu (s.getD 0 0).toNat) ((s.take (fi (s.getD 0 0).toNat)).drop 1))==s.take (fi (s.getD 0 0).toNat))then
  (kG (gu (s.getD 0 0).toNat) ((s.take (fi (s.getD 0 0).toNat)).drop 1),fi (s.getD 0 0).toNat)
 else(0,0)
theorem aeO(n:Nat):M.iN (n:Int)=some (iE n):=by
 unfold M.iN iE;have h1:decide ((0:Int)<=(n:Int))=true:=by simp
 have h2:decide ((n:Int)<=55295)=decide (n<=55295):=by congr 1;exact propext ⟨fun h=>by omega,fun h=>by omega⟩
 have h3:decide ((57344:Int)<=(n:Int))=decide (57344<=n):=by congr 1;exact propext ⟨fun h=>by omega,fun h=>by omega⟩
 have h4:decide ((n:Int)<=1114111)=decide (n<=1114111):=by congr 1;exact propext ⟨fun h=>by omega,fun h=>by omega⟩
 rw[h1,h2,h3,h4,c9]
theorem F3{n:Nat}(h:iE n=true):n<=1114111:=by
 unfold iE at h;simp only[iz,aU,aZ]at h;omega
theorem By(s:List UInt8)(m n:Nat)(hm:m<=s.length)(q9:Bool)(h9:q9=true):
 (bif((!(Option.getD (M.iN (n:Int)) Inhabited.default))||(!((Option.getD (M.nM (n:Int)) Inhabited.default)==(List.drop (Int.toNat (0:Int)) (List.take (Int.toNat (m:Int)) s)))))then
   (bif(((Go.V.bF (0:Int) (m:Int) (List.length s))||(!((!(Option.getD (M.iN (n:Int)) Inhabited.default))==false)))&&(((Option.isSome (M.nM (n:Int)))||(!((!(Option.getD (M.iN (n:Int)) Inhabited.default))==false)))&&((Option.isSome (M.iN (n:Int)))&&q9)))then some ((0:Int),(0:Int))else none)
 else
  (bif(((Go.V.bF (0:Int) (m:Int) (List.length s))||(!((!(Option.getD (M.iN (n:Int)) Inhabited.default))==false)))&&(((Option.isSome (M.nM (n:Int)))||(!((!(Option.getD (M.iN (n:Int)) Inhabited.default))==false)))&&((Option.isSome (M.iN (n:Int)))&&q9)))then some ((n:Int),(m:Int))else none))=
 some (if iE n&&(gp n==s.take m)then(((n:Nat):Int),((m:Nat):Int))else(0,0)):=by
 subst h9;have hsl:bF (0:Int) (m:Int) s.length=true:=by unfold bF;simp;omega
 rw[aeO,hsl,bP];simp only[aC,aR,dy,aQ,c9];cases hc:iE n
 ·simp
 ·rw[aeN n (F3 hc)];simp only[aC,aR,fO,x8,Int.toNat_zero,fN,dy,mR,cE,c9];cases hb:(gp n==s.take m)<;>simp
theorem QZ(s:List UInt8)(hne:s≠[])(hs:s.length<=1048576):M.tY s=some (((eG s).1:Int),((eG s).2:Int)):=by
 have hl:0<s.length:=List.length_pos_iff.2 hne;have e0:(s==[])=false:=by cases s with
  |nil=>exact absurd rfl hne
  |cons a r=>rfl
 have hin:inB (0:Int) s.length=true:=by have:=cD 0 s.length;simpa [hl]using this
 have hb:(s.getD 0 0).toNat<256:=UInt8.toNat_lt _;obtain⟨f,hf⟩:∃f,ai=f+3+1:=⟨ai-4,by have:=ia (n:=100) (by omega);omega⟩;have key:∀(m n0:Nat),fi (s.getD 0 0).toNat=m->gu (s.getD 0 0).toNat=n0->1<=m->m<=4->(n0+1)*64^(m-1)<=2^24->¬s.length<m->M.pM s (m:Int) ai (n0:Int) 1=some (s,(m:Int),((kG n0 ((s.take m).drop 1):Nat):Int)):=fun m n0 h1 h2 h3 h4 h5 h6=>by
  have:=Sj s m (by omega) hs (m-1) (f+4-m) n0 1 (by omega) (by omega) h5;rw[hf,show f+3+1=(f+4-m)+(m-1)+1 by omega];exact this
 unfold M.tY;rw[e0,Int.toNat_zero];have hw:IntKind.wrap .i64 ((s.getD 0 0).toNat:Int)=((s.getD 0 0).toNat:Int):=m5 _ (by omega);unfold eG;by_cases iH:240<=(s.getD 0 0).toNat
 ·have x7:decide ((240:Int)<=((s.getD 0 0).toNat:Int))=true:=bD (by omega);have hm:fi (s.getD 0 0).toNat=4:=by unfold fi;rw[bG iH]
  have hn:gu (s.getD 0 0).toNat=(s.getD 0 0).toNat-240:=by unfold gu;rw[bG iH]
  have hw2:IntKind.wrap .i64 (((s.getD 0 0).toNat:Int)-240)=(((s.getD 0 0).toNat-240:Nat):Int):=by rw[show((s.getD 0 0).toNat:Int)-240=(((s.getD 0 0).toNat-240:Nat):Int) by omega];exact m5 _ (by omega)
  rw[hm,hn];simp only[x7,aW,cE,hw,hw2,hin,dy,aQ,lI,c9,fO,nb];by_cases hsl:s.length<4
  ·have d:decide ((s.length:Int)<4)=true:=by simp;omega
   rw[bG hsl,d];rfl
  ·have d:decide ((s.length:Int)<4)=false:=by simp;omega
   have:=key 4 _ hm hn (by omega) (by omega) (by omega) hsl;rw[bH hsl,d];simp only[aW];rw[show(4:Int)=((4:Nat):Int)from rfl,this];refine(By s 4 _ (by omega) _ (by rfl)).trans ?_;split<;>rfl
 ·have x7:decide ((240:Int)<=((s.getD 0 0).toNat:Int))=false:=av (by omega);by_cases kd:224<=(s.getD 0 0).toNat
  ·have Bz:decide ((224:Int)<=((s.getD 0 0).toNat:Int))=true:=bD (by omega);have hm:fi (s.getD 0 0).toNat=3:=by unfold fi;rw[bH iH,bG kd]
   have hn:gu (s.getD 0 0).toNat=(s.getD 0 0).toNat-224:=by unfold gu;rw[bH iH,bG kd]
   have hw2:IntKind.wrap .i64 (((s.getD 0 0).toNat:Int)-224)=(((s.getD 0 0).toNat-224:Nat):Int):=by rw[show((s.getD 0 0).toNat:Int)-224=(((s.getD 0 0).toNat-224:Nat):Int) by omega];exact m5 _ (by omega)
   rw[hm,hn];simp only[x7,Bz,aW,cE,hw,hw2,hin,dy,aQ,lI,c9,fO,qh,nb];by_cases hsl:s.length<3
   ·have d:decide ((s.length:Int)<3)=true:=by simp;omega
    rw[bG hsl,d];rfl
   ·have d:decide ((s.length:Int)<3)=false:=by simp;omega
    have:=key 3 _ hm hn (by omega) (by omega) (by omega) hsl;rw[bH hsl,d];simp only[aW];rw[show(3:Int)=((3:Nat):Int)from rfl,this];refine(By s 3 _ (by omega) _ (by rfl)).trans ?_;split<;>rfl
  ·have Bz:decide ((224:Int)<=((s.getD 0 0).toNat:Int))=false:=av (by omega);by_cases oH:192<=(s.getD 0 0).toNat
   ·have GU:decide ((192:Int)<=((s.getD 0 0).toNat:Int))=true:=bD (by omega);have hm:fi (s.getD 0 0).toNat=2:=by unfold fi;rw[bH iH,bH kd,bG oH]
    have hn:gu (s.getD 0 0).toNat=(s.getD 0 0).toNat-192:=by unfold gu;rw[bH iH,bH kd,bG oH]
    have hw2:IntKind.wrap .i64 (((s.getD 0 0).toNat:Int)-192)=(((s.getD 0 0).toNat-192:Nat):Int):=by rw[show((s.getD 0 0).toNat:Int)-192=(((s.getD 0 0).toNat-192:Nat):Int) by omega];exact m5 _ (by omega)
    rw[hm,hn];simp only[x7,Bz,GU,aW,cE,hw,hw2,hin,dy,aQ,lI,c9,fO,qh,nb];by_cases hsl:s.length<2
    ·have d:decide ((s.length:Int)<2)=true:=by simp;omega
     rw[bG hsl,d];rfl
    ·have d:decide ((s.length:Int)<2)=false:=by simp;omega
     have:=key 2 _ hm hn (by omega) (by omega) (by omega) hsl;rw[bH hsl,d];simp only[aW];rw[show(2:Int)=((2:Nat):Int)from rfl,this];refine(By s 2 _ (by omega) _ (by rfl)).trans ?_;split<;>rfl
   ·have GU:decide ((192:Int)<=((s.getD 0 0).toNat:Int))=false:=av (by omega);have hm:fi (s.getD 0 0).toNat=1:=by unfold fi;rw[bH iH,bH kd,bH oH]
    have hn:gu (s.getD 0 0).toNat=(s.getD 0 0).toNat:=by unfold gu;rw[bH iH,bH kd,bH oH]
    rw[hm,hn];simp only[x7,Bz,GU,aW,cE,hw,hin,dy,aQ,lI,c9,fO,qh,nb];have hsl:¬s.length<1:=by omega
    have d:decide ((s.length:Int)<1)=false:=by simp;omega
    have:=key 1 _ hm hn (by omega) (by omega) (by omega) hsl;rw[bH hsl,d];simp only[aW];rw[show(1:Int)=((1:Nat):Int)from rfl]at this⊢;rw[this];refine(By s 1 _ (by omega) _ (by rfl)).trans ?_;split<;>rfl
end M
namespace M
open Go Go.V Go.Lib
def eX(n:Nat):List Nat:=
 if n<128 then[n]
 else if n<2048 then[192+n/64,128+n%64]
 else if n<65536 then[224+n/4096,128+n/64%64,128+n%64]
 else[240+n/262144,128+n/4096%64,128+n/64%64,128+n%64]
theorem aeP(n:Nat):gp n=(eX n).map UInt8.ofNat:=by
 unfold gp eX
 repeat' split
 all_goals rfl
theorem aeQ(n:Nat)(h:n<=1114111):∀x∈eX n,x<256:=by
 unfold eX
 repeat' split
 all_goals (intro x hx;simp only[dP,FB,jC]at hx;omega)
theorem Sl:∀(l:List Nat)(s:List UInt8),(∀x∈l,x<256)->(l.map UInt8.ofNat=s↔l=s.map UInt8.toNat)
 |[],[],_=>by simp
 |[],y::s,_=>by simp
 |x::l,[],_=>by simp
 |x::l,y::s,h=>by
  have ih:=Sl l s fun z hz=>h z (jF _ hz)
  have hx:=h x (jo ..);simp only[eB,List.cons.injEq,ih];refine and_congr_left fun _=>⟨fun e=>?_,fun e=>?_⟩
  ·rw[<-e];simp;omega
  ·rw[e];simp
theorem Bd(n:Nat)(h:n<=1114111)(s:List UInt8):(gp n==s)=true↔eX n=s.map UInt8.toNat:=by
 rw[jI,aeP];exact Sl _ _ (aeQ n h)
theorem FW(n a:Nat):eX n=[a]↔n<128/\n=a:=by
 unfold eX
 repeat' split
 all_goals (simp only[List.cons.injEq,and_true,reduceCtorEq,and_false,false_iff,not_and];omega)
theorem FX(n a b:Nat):eX n=[a,b]↔128<=n/\n<2048/\192+n/64=a/\128+n%64=b:=by
 unfold eX
 repeat' split
 all_goals (simp only[List.cons.injEq,and_true,reduceCtorEq,and_false,false_iff,not_and];omega)
theorem FY(n a b c:Nat):eX n=[a,b,c]↔2048<=n/\n<65536/\224+n/4096=a/\128+n/64%64=b/\128+n%64=c:=by
 unfold eX
 repeat' split
 all_goals (simp only[List.cons.injEq,and_true,reduceCtorEq,and_false,false_iff,not_and];omega)
theorem FZ(n a b c d:Nat):eX n=[a,b,c,d]↔65536<=n/\240+n/262144=a/\128+n/4096%64=b/\128+n/64%64=c/\128+n%64=d:=by
 unfold eX
 repeat' split
 all_goals (simp only[List.cons.injEq,and_true,reduceCtorEq,and_false,false_iff,not_and];omega)
theorem FV(n:Nat):iE n=true↔n<=55295\/(57344<=n/\n<=1114111):=by unfold iE;simp
theorem qu(n:Nat)(s:List UInt8):(iE n&&(gp n==s))=true↔(n<=55295\/(57344<=n/\n<=1114111))/\eX n=s.map UInt8.toNat:=by
 rw[aU,FV];constructor
 ·rintro ⟨h1,h2⟩;exact⟨h1,(Bd n (by omega) s).1 h2⟩
 ·rintro ⟨h1,h2⟩;exact⟨h1,(Bd n (by omega) s).2 h2⟩
theorem QX(s:List UInt8)(hne:s≠[]):(eG s).2=if(decodeL s).1=65533/\(decodeL s).2=1 then 0 else(decodeL s).2:=by
 have hl:0<s.length:=List.length_pos_iff.2 hne;have k0:=(s.getD 0 0).toNat_lt;have k1:=(s.getD 1 0).toNat_lt;have k2:=(s.getD 2 0).toNat_lt;have k3:=(s.getD 3 0).toNat_lt;have qw:=decodeN_shape s.length (s.getD 0 0).toNat (s.getD 1 0).toNat (s.getD 2 0).toNat (s.getD 3 0).toNat;rw[decodeL_N];generalize hD:decodeN s.length (s.getD 0 0).toNat (s.getD 1 0).toNat (s.getD 2 0).toNat (s.getD 3 0).toNat=D at qw⊢;have hD':=hD;unfold decodeN at hD;unfold eG;by_cases iH:240<=(s.getD 0 0).toNat
 ·have hm:fi (s.getD 0 0).toNat=4:=by unfold fi;rw[bG iH]
  have hn:gu (s.getD 0 0).toNat=(s.getD 0 0).toNat-240:=by unfold gu;rw[bG iH]
  rw[hm,hn];by_cases hsl:s.length<4
  ·rw[bG hsl];rcases qw with⟨c,e⟩|⟨c1,c2,c3,cv,e⟩|⟨c1,c2,c3,c4,cv,cs,e⟩|⟨c1,c2,c3,c4,c5,cv,cw,e⟩|e
   all_goals first|(exfalso;omega)|(rw[e];rfl)
  ·rw[bH hsl,takeD s (by omega)];simp only[List.drop_succ_cons,fN,kG];generalize hN:(((s.getD 0 0).toNat-240)*64+(s.getD 1 0).toNat%64)*64+(s.getD 2 0).toNat%64=N1;by_cases dk:(iE (N1*64+(s.getD 3 0).toNat%64)&&(gp (N1*64+(s.getD 3 0).toNat%64)==[s.getD 0 0,s.getD 1 0,s.getD 2 0,s.getD 3 0]))=true
   ·rw[bG dk];rw[qu]at dk;simp only[eB,List.map_nil,FZ]at dk;obtain⟨q1,q2,q3,q4,q5,q6⟩:=dk;rw[bH (by omega),bH (by omega),bH (by omega),bG ⟨by omega,⟨by omega,by omega⟩,⟨by omega,by omega⟩,by omega,by omega⟩,bG ⟨by omega,by omega⟩]at hD;rw[<-hD,bH (by simp)]
   ·rw[bH dk];rw[qu]at dk;simp only[eB,List.map_nil,FZ]at dk;rcases qw with⟨c,e⟩|⟨c1,c2,c3,cv,e⟩|⟨c1,c2,c3,c4,cv,cs,e⟩|⟨c1,c2,c3,c4,c5,cv,cw,e⟩|e
    ·exfalso;omega
    ·exfalso;omega
    ·exfalso;omega
    ·exfalso;apply dk;have:(262144:Nat)<=262144:=bn _;rw[bH (by omega),bH (by omega),bH (by omega),bG ⟨by omega,⟨by omega,by omega⟩,⟨by omega,by omega⟩,by omega,by omega⟩]at hD;split at hD
     ·rename_i hv;exact⟨by omega,by omega,by omega,by omega,by omega,by omega⟩
     ·rw[<-hD]at e;simp at e
    ·rw[e];rfl
 ·by_cases kd:224<=(s.getD 0 0).toNat
  ·have hm:fi (s.getD 0 0).toNat=3:=by unfold fi;rw[bH iH,bG kd]
   have hn:gu (s.getD 0 0).toNat=(s.getD 0 0).toNat-224:=by unfold gu;rw[bH iH,bG kd]
   rw[hm,hn];by_cases hsl:s.length<3
   ·rw[bG hsl];rcases qw with⟨c,e⟩|⟨c1,c2,c3,cv,e⟩|⟨c1,c2,c3,c4,cv,cs,e⟩|⟨c1,c2,c3,c4,c5,cv,cw,e⟩|e
    all_goals first|(exfalso;omega)|(rw[e];rfl)
   ·rw[bH hsl,takeC s (by omega)];simp only[List.drop_succ_cons,fN,kG];generalize hN:(((s.getD 0 0).toNat-224)*64+(s.getD 1 0).toNat%64)*64+(s.getD 2 0).toNat%64=N;by_cases dk:(iE N&&(gp N==[s.getD 0 0,s.getD 1 0,s.getD 2 0]))=true
    ·rw[bG dk];rw[qu]at dk;simp only[eB,List.map_nil,FY]at dk;obtain⟨q1,q2,q3,q4,q5,q6⟩:=dk;rw[bH (by omega),bH (by omega),bG ⟨by omega,⟨by omega,by omega⟩,by omega,by omega⟩,bG ⟨by omega,by omega⟩]at hD;rw[<-hD,bH (by simp)]
    ·rw[bH dk];rw[qu]at dk;simp only[eB,List.map_nil,FY]at dk;rcases qw with⟨c,e⟩|⟨c1,c2,c3,cv,e⟩|⟨c1,c2,c3,c4,cv,cs,e⟩|⟨c1,c2,c3,c4,c5,cv,cw,e⟩|e
     ·exfalso;omega
     ·exfalso;omega
     ·exfalso;apply dk;exact⟨by omega,by omega,by omega,by omega,by omega,by omega⟩
     ·exfalso;omega
     ·rw[e];rfl
  ·by_cases oH:192<=(s.getD 0 0).toNat
   ·have hm:fi (s.getD 0 0).toNat=2:=by unfold fi;rw[bH iH,bH kd,bG oH]
    have hn:gu (s.getD 0 0).toNat=(s.getD 0 0).toNat-192:=by unfold gu;rw[bH iH,bH kd,bG oH]
    rw[hm,hn];by_cases hsl:s.length<2
    ·rw[bG hsl];rcases qw with⟨c,e⟩|⟨c1,c2,c3,cv,e⟩|⟨c1,c2,c3,c4,cv,cs,e⟩|⟨c1,c2,c3,c4,c5,cv,cw,e⟩|e
     all_goals first|(exfalso;omega)|(rw[e];rfl)
    ·rw[bH hsl,takeB s (by omega)];simp only[List.drop_succ_cons,fN,kG];generalize hN:((s.getD 0 0).toNat-192)*64+(s.getD 1 0).toNat%64=N;by_cases dk:(iE N&&(gp N==[s.getD 0 0,s.getD 1 0]))=true
     ·rw[bG dk];rw[qu]at dk;simp only[eB,List.map_nil,FX]at dk;obtain⟨q1,q2,q3,q4,q5⟩:=dk;rw[bH (by omega),bG ⟨by omega,by omega,by omega⟩,bG (by omega)]at hD;rw[<-hD,bH (by simp)]
     ·rw[bH dk];rw[qu]at dk;simp only[eB,List.map_nil,FX]at dk;rcases qw with⟨c,e⟩|⟨c1,c2,c3,cv,e⟩|⟨c1,c2,c3,c4,cv,cs,e⟩|⟨c1,c2,c3,c4,c5,cv,cw,e⟩|e
      ·exfalso;omega
      ·exfalso;apply dk;exact⟨by omega,by omega,by omega,by omega,by omega⟩
      ·exfalso;omega
      ·exfalso;omega
      ·rw[e];rfl
   ·have hm:fi (s.getD 0 0).toNat=1:=by unfold fi;rw[bH iH,bH kd,bH oH]
    have hn:gu (s.getD 0 0).toNat=(s.getD 0 0).toNat:=by unfold gu;rw[bH iH,bH kd,bH oH]
    rw[hm,hn];rw[bH (show ¬s.length<1 by omega),takeA s hl];simp only[List.drop_succ_cons,fN,kG];by_cases dk:(iE (s.getD 0 0).toNat&&(gp (s.getD 0 0).toNat==[s.getD 0 0]))=true
    ·rw[bG dk];rw[qu]at dk;simp only[eB,List.map_nil,FW]at dk;rw[bG (by omega)]at hD;rw[<-hD,bH (by simp only;omega)]
    ·rw[bH dk];rw[qu]at dk;simp only[eB,List.map_nil,FW]at dk;rcases qw with⟨c,e⟩|⟨c1,c2,c3,cv,e⟩|⟨c1,c2,c3,c4,cv,cs,e⟩|⟨c1,c2,c3,c4,c5,cv,cw,e⟩|e
     ·exfalso;simp only[and_true]at dk;omega
     ·exfalso;omega
     ·exfalso;omega
     ·exfalso;omega
     ·rw[e];rfl
theorem Q0(s:List UInt8)(hne:s≠[]):(eG s).2<=s.length:=by
 unfold eG;split
 ·exact dM _
 ·split
  ·rename_i h1 h2;exact Nat.le_of_not_lt h1
  ·exact dM _
theorem Sm:∀(m f:Nat)(s:List UInt8)(out:List Int),s.length<=m->s.length<=1048576->out.length+s.length<=1048576->
 ∃r,M.nN (f+m+1) s out=some r/\(match r with|.inl a=>a.1=false/\validGoD m s=false|.inr _=>validGoD m s=true)
 |0,f,s,out,hm,hs,ho=>by
  have e:s=[]:=cA (by omega);subst e;exact⟨.inr out,rfl,rfl⟩
 |m+1,f,s,out,hm,hs,ho=>by
  rw[show f+(m+1)+1=(f+m+1)+1 by omega,M.nN];by_cases hne:s=[]
  ·subst hne;exact⟨.inr out,rfl,rfl⟩
  ·have hl:0<s.length:=List.length_pos_iff.2 hne;have d:decide ((0:Int)<(s.length:Int))=true:=bD (by omega);rw[d,QZ s hne hs];simp only[cE,aC,aR,aQ,bY,iD,fZ];have hp:=QX s hne;have hle:=Q0 s hne;have hv:validGoD (m+1) s=if(decodeL s).1=65533/\(decodeL s).2=1 then false else validGoD m (s.drop (decodeL s).2):=by
    rw[validGoD,bH hne]
   by_cases hb:(decodeL s).1=65533/\(decodeL s).2=1
   ·rw[bG hb]at hp hv;rw[hp];exact⟨.inl (false,[]),rfl,rfl,hv⟩
   ·rw[bH hb]at hp hv;have hw:=decodeL_width s;rw[<-hp]at hv hw;have d0:(((eG s).2:Int)==0)=false:=by rw[jj];omega
    have hsl:bF ((eG s).2:Int) (s.length:Int) s.length=true:=by unfold bF;simp;omega
    have hlen:decide (out.length+1<=1073741824)=true:=bD (by omega);rw[d0,hsl,hlen];simp only[aW,cE,mR,bP,sj];have hdl:(s.drop (eG s).2).length=s.length-(eG s).2:=List.length_drop;obtain⟨r,h1,h2⟩:=Sm m f (s.drop (eG s).2) (out++[((eG s).1:Int)]) (by omega) (by omega) (by rw[dj];simp;omega);refine⟨r,h1,?_⟩;rw[hv];exact h2
def fA(s:List UInt8):Bool:=decide (s.length<=24)&&validD s
theorem aeR(s:List UInt8)(hs:s.length<=1048576):M.tZ s=some (fA s):=by
 unfold M.tZ fA;by_cases h:s.length<=24
 ·have d:decide ((24:Int)<(s.length:Int))=false:=av (by omega);rw[d,bD h];obtain⟨f,hf⟩:∃f,ai=f+s.length+1:=⟨ai-(s.length+1),by have:=ia hs;omega⟩;obtain⟨r,h1,h2⟩:=Sm s.length f s [] (bn _) hs (by simp;omega);have e:∀r,M.nN (f+s.length+1) s []=some r->M.mf s=(match r with|.inl a=>some (a.2,a.1)|.inr b=>some (b,true)):=fun r h=>by
   unfold M.mf;rw[hf,h];cases r<;>rfl
  have e:=e r h1;cases r with
  |inl a=>
   simp only at h2 e;rw[e];simp only[aW,aR,aQ,cE,aC,c9,h2.1];exact fM some h2.2.symm
  |inr b=>
   simp only at h2 e;rw[e];simp only[aW,aR,aQ,cE,aC,c9];exact fM some h2.symm
 ·have d:decide ((24:Int)<(s.length:Int))=true:=bD (by omega);rw[d,av h];rfl
theorem aeS(s:List UInt8)(hs:s.length<=1048576):M.ue s=some (fA s):=by
 have e:M.pO s=some (validD s):=by
  unfold M.pO;rw[bD (show s.length<=9223372036854775807 by omega)];rfl
 have d:decide ((s.length:Int)<=24)=decide (s.length<=24):=by congr 1;exact propext ⟨fun h=>by omega,fun h=>by omega⟩
 unfold M.ue fA;rw[e,d];rfl
end M
namespace M
open Go.V (inB bF ai cJ)
theorem ae.Sr{a:ae}{N:Nat}(h:a.sz<=N):a.Text.length<=N:=by rw[ae.dL]at h;omega
theorem ae.mZ{a:ae}{N:Nat}(h:a.sz<=N):bc ae.sz a.Kids<=N:=by rw[ae.dL]at h;omega
theorem ae.fg{a:ae}{N:Nat}(h:a.sz<=N):a.Kids.length<=N:=lG (eR _ _) (ae.mZ h)
theorem ae.dw{a x:ae}(h:x∈a.Kids):x.sz<a.sz:=by
 rw[ae.dL a];have:=om ae.sz _ _ h;omega
def lL(k:Int):Int×Int:=
 if k=3 then(0,255)else if k=4 then(-128,127)else if k=5 then(0,65535)else if k=6 then(-32768,32767)else if k=7 then(0,4294967295)else if k=8 then(-2147483648,2147483647)
 else if k=9 then(-9223372036854775808,9223372036854775807)else(0,0)
def Ss(n:Int):Bool:=(decide ((0:Int)<=n)&&decide (n<=(55295:Int)))||(decide ((57344:Int)<=n)&&decide (n<=(1114111:Int)))
def GV(t:aa):Int:=Go.IntKind.wrap .i64 (Go.V.oo .i64 (1:Int) (t.bm.length:Int)-1)
def sy(t:aa):Int:=
 if t.Kind=17\/t.Kind=18 then Go.IntKind.wrap .i64 ((t.bm.length:Int)-1)else if t.Kind=19 then GV t
 else if t.Kind=20\/t.Kind=21\/t.Kind=22\/t.Kind=23 then 2147483647 else 0
def fV(n:Int)(t:aa):Bool:=
 if t.Kind=2\/t.Kind=13\/t.Kind=14 then decide ((0:Int)<=n)&&decide (n<=(1:Int))
 else if 3<=t.Kind/\t.Kind<=9 then decide ((lL t.Kind).1<=n)&&decide (n<=(lL t.Kind).2)
 else if t.Kind=10 then Ss n
 else decide ((0:Int)<=n)&&decide (n<=sy t)
def ie(t:aa):List aa:=if fX t then[]else[t]
def kT(n:Int)(len:Nat)(t:aa):Option (List aa):=
 if t.Kind=12 then some (List.replicate (min len 8) (t.Kids.getD 0 aa.zero))
 else if t.Kind=15\/t.Kind=16 then some t.Kids
 else if t.Kind=13 then(if n=0 then some []else if n=1 then some (ie (t.Kids.getD 0 aa.zero))else none)
 else if t.Kind=14\/t.Kind=17 then(if 0<=n/\n<(t.Kids.length:Int)then some (ie (t.Kids.getD n.toNat aa.zero))else none)
 else some []
def headB(k n:Int)(x:List UInt8)(t:aa):Bool:=(((k==t.Kind)&&fV n t)&&(x==[]||t.Kind==11))&&fA x
mutual
def bS:ae->aa->Bool
 |.mk k n x kids,t=>headB k n x t&&(match kT n kids.length t with
   |some ts=>decide (ts.length=kids.length)&&ic kids ts
   |none=>false)
def ic:List ae->List aa->Bool
 |[],_=>true
 |v::r,ts=>bS v (ts.headD aa.zero)&&ic r ts.tail
end
theorem Bh(v:ae)(t:aa):bS v t=(headB v.Kind v.Num v.Text t&&(match kT v.Num v.Kids.length t with
 |some ts=>decide (ts.length=v.Kids.length)&&ic v.Kids ts
 |none=>false)):=by cases v;rfl
theorem Bi:∀(a:List ae)(b:List aa),b.length=a.length->ic a b=(List.range a.length).all fun k=>bS (a.getD k ae.zero) (b.getD k aa.zero)
 |[],_,_=>rfl
 |v::r,[],h=>by simp at h
 |v::r,t::ts,h=>by
  rw[ic,List.headD_cons,List.tail_cons,Bi r ts (by simpa using h),bY,List.range_succ_eq_map,List.all_cons,List.all_map];rfl
theorem F7(t:aa):∀(a:List ae)(n:Nat),n=a.length->ic a (List.replicate n t)=a.all fun v=>bS v t
 |[],_,_=>rfl
 |v::r,n,h=>by
  subst h;rw[bY,List.replicate_succ,ic,List.headD_cons,List.tail_cons,F7 t r r.length rfl,List.all_cons]
theorem kb{a b:Int}(h:a≠b):(a==b)=false:=by rw[jj];exact h
theorem kt{a b:Int}(h:a=b):(a==b)=true:=by rw[h];exact kD b
theorem Su(k:Int):∃b,M.uc k=some ((lL k).1,(lL k).2,b):=by
 unfold M.uc lL;by_cases h3:k=3
 ·subst h3;exact⟨true,rfl⟩
 by_cases h4:k=4
 ·subst h4;exact⟨true,rfl⟩
 by_cases h5:k=5
 ·subst h5;exact⟨true,rfl⟩
 by_cases h6:k=6
 ·subst h6;exact⟨true,rfl⟩
 by_cases h7:k=7
 ·subst h7;exact⟨true,rfl⟩
 by_cases h8:k=8
 ·subst h8;exact⟨true,rfl⟩
 by_cases h9:k=9
 ·subst h9;exact⟨true,rfl⟩
 exact⟨false,by simp[h3,h4,h5,h6,h7,h8,h9,kb h3,kb h4,kb h5,kb h6,kb h7,kb h8,kb h9]⟩
theorem Sv(k:Int):∃b,M.wR k=some ((lL k).1,(lL k).2,b):=Su k
theorem aeT{k:Int}(h:¬(3<=k/\k<=9)):lL k=(0,0):=by
 unfold lL;rw[bH (by omega),bH (by omega),bH (by omega),bH (by omega),bH (by omega),bH (by omega),bH (by omega)]
theorem aeU(v:ae)(t:aa):M.ud v t=some (fV v.Num t):=by
 unfold M.ud fV;by_cases h1:t.Kind=2\/t.Kind=13\/t.Kind=14
 ·rw[bG h1];rcases h1 with h|h|h<;>simp[h]
 ·rw[bH h1];simp only[oI]at h1;obtain⟨a2,a13,a14⟩:=h1;simp only[kb a2,kb a13,kb a14,aW];by_cases h2:3<=t.Kind/\t.Kind<=9
  ·rw[bG h2];obtain⟨b,e⟩:=Su t.Kind;have:(bif t.Kind==3 then t.Kind==3 else bif t.Kind==4 then t.Kind==4 else bif t.Kind==5 then t.Kind==5 else bif t.Kind==6 then t.Kind==6 else bif t.Kind==7 then t.Kind==7 else bif t.Kind==8 then t.Kind==8 else t.Kind==9)=true:=by
    have:t.Kind=3\/t.Kind=4\/t.Kind=5\/t.Kind=6\/t.Kind=7\/t.Kind=8\/t.Kind=9:=by omega
    rcases this with h|h|h|h|h|h|h<;>simp[h]
   rw[this,e];rfl
  ·rw[bH h2];have:(bif t.Kind==3 then t.Kind==3 else bif t.Kind==4 then t.Kind==4 else bif t.Kind==5 then t.Kind==5 else bif t.Kind==6 then t.Kind==6 else bif t.Kind==7 then t.Kind==7 else bif t.Kind==8 then t.Kind==8 else t.Kind==9)=false:=by
    simp only[kb (show t.Kind≠3 by omega),kb (show t.Kind≠4 by omega),kb (show t.Kind≠5 by omega),kb (show t.Kind≠6 by omega),kb (show t.Kind≠7 by omega),kb (show t.Kind≠8 by omega),kb (show t.Kind≠9 by omega),aW]
   rw[this];simp only[aW];by_cases h3:t.Kind=10
   ·rw[bG h3,kt h3];rfl
   ·rw[bH h3,kb h3];simp only[aW];unfold sy GV;by_cases h4:t.Kind=17
    ·simp[h4]
    by_cases h5:t.Kind=18
    ·simp[h5]
    by_cases h6:t.Kind=19
    ·simp[h6]
    by_cases h7:t.Kind=20
    ·simp[h7]
    by_cases h8:t.Kind=21
    ·simp[h8]
    by_cases h9:t.Kind=22
    ·simp[h9]
    by_cases h10:t.Kind=23
    ·simp[h10]
    simp[h4,h5,h6,h7,h8,h9,h10,kb h4,kb h5,kb h6,kb h7,kb h8,kb h9,kb h10]
theorem xR{t:aa}(h:bK t=true):(t.Kind=12->t.Kids.length=1)/\(t.Kind=13->t.Kids.length=1/\fX (t.Kids.getD 0 aa.zero)=false)/\(t.Kind=14->t.Kids.length=2)/\(t.Kind=17->t.Kids.length=t.bm.length):=by
 rw[m3]at h;simp only[aU]at h;have hk:=h.1;unfold iV at hk;simp only[aU]at hk;have hk:=hk.2;unfold ql at hk;refine⟨fun e=>?_,fun e=>?_,fun e=>?_,fun e=>?_⟩
 ·rw[bG (.inl e)]at hk;simp at hk;exact hk.1
 ·rw[bG (.inr e)]at hk;simp only[aU,jI,gq]at hk;refine⟨hk.1,?_⟩;have hl:0<t.Kids.length:=by omega
  rw[getD_lt hl];have:=List.any_eq_false.1 hk.2 _ (an hl);simpa using this
 ·rw[bH (by omega),bG e]at hk;simp at hk;exact hk
 ·rw[bH (by omega),bH (by omega),bH (by omega),bH (by omega),bG e]at hk;simp at hk;exact hk
theorem Rb(t:aa)(n:Int)(hl:t.Kids.length<=1048576)(h:t.Kind≠13):M.k9 t n=some (if 0<=n/\n<(t.Kids.length:Int)then(t.Kids.getD n.toNat aa.zero,true)else(.mk 0 [] [] [],false)):=by
 unfold M.k9;rw[kb h,wrap_i64 (show(-9223372036854775808:Int)<=(t.Kids.length:Int)-1 by omega) (by omega)];simp only[aW];by_cases hn:0<=n/\n<(t.Kids.length:Int)
 ·rw[bG hn,bD hn.1,bD (show n<=(t.Kids.length:Int)-1 by omega)];have hin:inB n t.Kids.length=true:=by unfold inB;rw[bD hn.1,bD hn.2];rfl
  rw[hin,aa.aG];rfl
 ·rw[bH hn];have:(decide ((0:Int)<=n)&&decide (n<=(t.Kids.length:Int)-1))=false:=by
   rw[Bool.and_eq_false_iff];by_cases h0:0<=n
   ·right;exact av (by omega)
   ·left;exact av h0
  rw[this];rfl
theorem Q9(t:aa)(n:Int)(h:t.Kind=13)(hk:t.Kids.length=1)(hn:n=0\/n=1):M.k9 t n=some (if n=0 then(.mk 1 [] [] [],true)else(t.Kids.getD 0 aa.zero,true)):=by
 unfold M.k9;rw[kt h,hk];rcases hn with rfl|rfl
 ·rfl
 ·have:Go.IntKind.wrap .i64 ((1:Int)-1)=0:=by decide
  have h2:Go.IntKind.wrap .i64 (((1:Nat):Int)-1)=0:=by decide
  rw[this,h2,aa.aG];rfl
theorem aeX(v:ae)(t:aa)(hv:v.sz<=1048576)(ht:t.sz<=1048576)(hs:bK t=true)(hn:fV v.Num t=true):
 ∃l,M.uf v t=some (l,(kT v.Num v.Kids.length t).isSome)/\∀ts,kT v.Num v.Kids.length t=some ts->l=ts:=by
 obtain⟨s12,s13,s14,BA⟩:=xR hs;have hl:=ae.fg hv;have hl2:=aa.fg ht;unfold M.uf kT;by_cases h12:t.Kind=12
 ·rw[bG h12,kt h12];have hk:=s12 h12;have e:M.pP t.Kids (bif decide ((8:Int)<(v.Kids.length:Int))then 8 else(v.Kids.length:Int))=some (List.replicate (min v.Kids.length 8) (t.Kids.getD 0 aa.zero)):=by
   have e1:(bif decide ((8:Int)<(v.Kids.length:Int))then(8:Int)else(v.Kids.length:Int))=((min v.Kids.length 8:Nat):Int):=by
    by_cases h:(8:Int)<(v.Kids.length:Int)
    ·rw[bD h,cE];omega
    ·rw[av h,aW];omega
   rw[e1];unfold M.pP;rw[bD hk,bD (show(0:Int)<=((min v.Kids.length 8:Nat):Int) by omega),bD (show((min v.Kids.length 8:Nat):Int)<=8 by omega),bP];rfl
  rw[e];exact⟨_,rfl,fun ts h=>eE h⟩
 ·rw[bH h12,kb h12];simp only[aW];by_cases h15:t.Kind=15\/t.Kind=16
  ·rw[bG h15];have:(bif t.Kind==15 then t.Kind==15 else t.Kind==16)=true:=by rcases h15 with h|h<;>simp[h]
   rw[this];exact⟨_,rfl,fun ts h=>eE h⟩
  ·rw[bH h15];simp only[oI]at h15;simp only[kb h15.1,kb h15.2,aW];by_cases h13:t.Kind=13
   ·rw[bG h13];simp only[kt h13,cE];obtain⟨k1,k2⟩:=s13 h13;have Sz:v.Num=0\/v.Num=1:=by
     unfold fV at hn;rw[bG (.inr (.inl h13))]at hn;simp only[aU,aZ]at hn;omega
    rw[aa.aG,Q9 t v.Num h13 k1 Sz];rcases Sz with e|e
    ·rw[e];exact⟨[],rfl,fun ts h=>eE h⟩
    ·rw[e];have hku:((t.Kids.getD 0 aa.zero).Kind==1)=false:=k2;have ho:ie (t.Kids.getD 0 aa.zero)=[t.Kids.getD 0 aa.zero]:=by unfold ie;rw[k2];rfl
     rw[bH (by decide),bH (by decide),bG rfl,ho];simp only[aC,hku,aW,aR,mR,cE,aa.aG];exact⟨_,rfl,fun ts h=>eE h⟩
   ·rw[bH h13];by_cases ig:t.Kind=14\/t.Kind=17
    ·rw[bG ig];have:(bif t.Kind==13 then t.Kind==13 else bif t.Kind==14 then t.Kind==14 else t.Kind==17)=true:=by rcases ig with h|h<;>simp[h]
     rw[this,aa.aG,Rb t v.Num hl2 h13];by_cases hb:0<=v.Num/\v.Num<(t.Kids.length:Int)
     ·rw[bG hb,bG hb];unfold ie fX;cases hu:((t.Kids.getD v.Num.toNat aa.zero).Kind==1)
      ·simp only[aC,hu,aW,cE,aR,mR,aa.aG];exact⟨_,rfl,fun ts h=>eE h⟩
      ·simp only[aC,hu,aW,cE,aR,mR,aa.aG];exact⟨_,rfl,fun ts h=>eE h⟩
     ·rw[bH hb,bH hb];exact⟨_,rfl,fun ts h=>by cases h⟩
    ·rw[bH ig];simp only[oI]at ig;simp only[kb h13,kb ig.1,kb ig.2,aW];exact⟨_,rfl,fun ts h=>eE h⟩
theorem aeZ{n:Int}{len:Nat}{t:aa}(hs:bK t=true){ts:List aa}(h:kT n len t=some ts):∀x∈ts,bK x=true:=by
 have hkids:∀x∈t.Kids,bK x=true:=by
  rw[m3,aU,vm,di]at hs;exact hs.2
 obtain⟨s12,s13,s14,BA⟩:=xR hs;have hone:∀k,k<t.Kids.length->∀x∈ie (t.Kids.getD k aa.zero),bK x=true:=fun k hk x hx=>by
  unfold ie at hx;split at hx
  ·cases hx
  ·rw[sA]at hx;subst hx;rw[getD_lt hk];exact hkids _ (an hk)
 unfold kT at h;split at h
 ·rename_i h12;simp only[ak]at h;subst h;intro x hx;rw[(List.mem_replicate.1 hx).2,getD_lt (by rw[s12 h12];omega)];exact hkids _ (an _)
 ·split at h
  ·simp only[ak]at h;subst h;exact hkids
  ·split at h
   ·rename_i h13;split at h
    ·simp only[ak]at h;subst h;intro x hx;cases hx
    ·split at h
     ·simp only[ak]at h;subst h;exact hone 0 (by rw[(s13 h13).1];omega)
     ·cases h
   ·split at h
    ·split at h
     ·rename_i hb;simp only[ak]at h;subst h;exact hone _ (by omega)
     ·cases h
    ·simp only[ak]at h;subst h;intro x hx;cases hx
theorem ae0{n:Int}{len:Nat}{t:aa}(hs:bK t=true)(ht:t.sz<=1048576){ts:List aa}(h:kT n len t=some ts):∀x∈ts,x.sz<=1048576:=by
 obtain⟨s12,s13,s14,BA⟩:=xR hs;have hkids:∀x∈t.Kids,x.sz<=1048576:=fun x hx=>by have:=aa.dw hx;omega
 have hone:∀k,k<t.Kids.length->∀x∈ie (t.Kids.getD k aa.zero),x.sz<=1048576:=fun k hk x hx=>by
  unfold ie at hx;split at hx
  ·cases hx
  ·rw[sA]at hx;subst hx;rw[getD_lt hk];exact hkids _ (an hk)
 unfold kT at h;split at h
 ·rename_i h12;simp only[ak]at h;subst h;intro x hx;rw[(List.mem_replicate.1 hx).2,getD_lt (by rw[s12 h12];omega)];exact hkids _ (an _)
 ·split at h
  ·simp only[ak]at h;subst h;exact hkids
  ·split at h
   ·rename_i h13;split at h
    ·simp only[ak]at h;subst h;intro x hx;cases hx
    ·split at h
     ·simp only[ak]at h;subst h;exact hone 0 (by rw[(s13 h13).1];omega)
     ·cases h
   ·split at h
    ·split at h
     ·rename_i hb;simp only[ak]at h;subst h;exact hone _ (by omega)
     ·cases h
    ·simp only[ak]at h;subst h;intro x hx;cases hx
theorem Gj:∀(m:Nat)(v:ae)(t:aa),v.sz<m->v.sz<=1048576->t.sz<=1048576->bK t=true->M.mi m v t=some (bS v t)
 |0,v,t,h,_,_,_=>absurd h (jD _)
 |m+1,v,t,h,hv,ht,hs=>by
  have hl:=ae.fg hv
  show M.wT (M.mi m) v t=_
  unfold M.wT;rw[ae.aG,aa.aG,aeU,aeS _ (ae.Sr hv),Bh];simp only[aC,aR,dy,aQ,cE,jK];have hhead:headB v.Kind v.Num v.Text t= !(((!(v.Kind==t.Kind))||(!fV v.Num t)||((!(v.Text==[]))&&(!(t.Kind==11))))||(!fA v.Text)):=by
   unfold headB;cases (v.Kind==t.Kind)<;>cases fV v.Num t<;>cases (v.Text==[])<;>cases (t.Kind==11)<;>cases fA v.Text<;>rfl
  cases hb:(((!(v.Kind==t.Kind))||(!fV v.Num t)||((!(v.Text==[]))&&(!(t.Kind==11))))||(!fA v.Text))
  ·rw[hhead,hb];have hn:fV v.Num t=true:=by
    simp only[sx,Bool.not_eq_false']at hb;exact hb.1.1.2
   obtain⟨l,e1,e2⟩:=aeX v t hv ht hs hn;rw[e1];simp only[aW,aC,aR,qh,c9];cases hk:kT v.Num v.Kids.length t with
   |none=>rfl
   |some ts=>
    have:=e2 ts hk;subst this;simp only[aR,fO,x8];by_cases hlen:l.length=v.Kids.length
    ·have:((l.length:Int)==(v.Kids.length:Int))=true:=by rw[jI];omega
     rw[this,bD hlen];have hloop:=vn (p:=fun k=>bS (v.Kids.getD k ae.zero) (l.getD k aa.zero)) (F:=fun f i=>M.mh (M.mi m) l v.Kids (v.Kids.length:Int) f i) (e:=()) (b:=false) v.Kids.length (by omega) (fun f k hk2=>by
      show M.mh (M.mi m) l v.Kids (v.Kids.length:Int) (f+1) (k:Int)=_
      rw[M.mh];have hx:=ae.dw (an hk2);have hkl:k<l.length:=by omega
      have hx2:=ae0 hs ht hk l[k] (an hkl);have hx3:=aeZ hs hk l[k] (an hkl);simp only[aa.aG,ae.aG,getD_lt hk2,getD_lt hkl,Gj m v.Kids[k] l[k] (by omega) (by omega) hx2 hx3,bP,cD,eF,hk2,hkl,gQ,cE,dy,c9,aQ,cq hk2 (by omega:v.Kids.length<2^62),aC,aR];cases bS v.Kids[k] l[k]<;>rfl) (fun f=>by
      show M.mh (M.mi m) l v.Kids (v.Kids.length:Int) (f+1) _=_
      rw[M.mh];simp)
     have ae1:M.mh (M.mi m) l v.Kids (v.Kids.length:Int) ai 0=_:=hloop;rw[ae1,Bi _ _ hlen];cases (List.range v.Kids.length).all fun k=>bS (v.Kids.getD k ae.zero) (l.getD k aa.zero)<;>rfl
    ·have:((l.length:Int)==(v.Kids.length:Int))=false:=by rw[jj];omega
     rw[this,av hlen];rfl
  ·rw[hhead,hb];rfl
end M
namespace M
open Go.V (inB bF ai cJ)
theorem ae2:fA []=true:=rfl
section
variable {rec :ae->aa->Option Bool}{kids:List ae}
theorem SA(most:Int)(t:aa)(hl:kids.length<=1048576)(hr:∀x∈kids,rec x t=some (bS x t)):
 M.rz rec kids most t=some (decide ((kids.length:Int)<=most)&&kids.all fun v=>bS v t):=by
 have e:=GQ (p:=fun v=>bS v t) (F:=fun f i=>M.me rec kids f i t) (e:=()) (b:=false) kids (by omega) (fun f k hk=>by
  show M.me rec kids (f+1) (k:Int) t=_
  rw[M.me];simp only[aa.aG,ae.aG,getD_lt hk,hr _ (an hk),bP,cD,eF,hk,gQ,cE,dy,c9,aQ,cq hk (by omega:kids.length<2^62),aC,aR];cases bS kids[k] t<;>rfl) (fun f=>by
  show M.me rec kids (f+1) _ t=_
  rw[M.me];simp)
 have e':M.me rec kids ai 0 t=_:=e;unfold M.rz;rw[aa.aG,e'];by_cases h:(kids.length:Int)<=most
 ·rw[bD h,av (show ¬most<(kids.length:Int) by omega)];cases kids.all fun v=>bS v t<;>rfl
 ·rw[av h,bD (show most<(kids.length:Int) by omega)];rfl
theorem ae3(ts:List aa)(hl:kids.length<=1048576)(hr:∀k,k<kids.length->k<ts.length->rec (kids.getD k ae.zero) (ts.getD k aa.zero)=some (bS (kids.getD k ae.zero) (ts.getD k aa.zero))):
 M.ua rec kids ts=some (decide (ts.length=kids.length)&&ic kids ts):=by
 unfold M.ua;by_cases hlen:ts.length=kids.length
 ·have e:=vn (p:=fun k=>bS (kids.getD k ae.zero) (ts.getD k aa.zero)) (F:=fun f i=>M.mg rec kids ts f i) (e:=()) (b:=false) kids.length (by omega) (fun f k hk=>by
   show M.mg rec kids ts (f+1) (k:Int)=_
   rw[M.mg];have hk2:k<ts.length:=by omega
   simp only[aa.aG,ae.aG,bP,hr k hk hk2,cD,eF,hk,hk2,gQ,cE,dy,c9,aQ,cq hk (by omega:kids.length<2^62),aC,aR];cases bS (kids.getD k ae.zero) (ts.getD k aa.zero)<;>rfl) (fun f=>by
   show M.mg rec kids ts (f+1) _=_
   rw[M.mg];simp)
  have e':M.mg rec kids ts ai 0=_:=e;have hne:((kids.length:Int) !=(ts.length:Int))=false:=by rw[jK,hlen];simp
  rw[hne,e',bD hlen,Bi _ _ hlen];cases (List.range kids.length).all fun k=>bS (kids.getD k ae.zero) (ts.getD k aa.zero)<;>rfl
 ·have hne:((kids.length:Int) !=(ts.length:Int))=true:=by rw[jK,kb (show(kids.length:Int)≠(ts.length:Int) by omega)];rfl
  rw[hne,av hlen];rfl
theorem SB(t:aa)(hl:kids.length<=1048576)(hr:∀x∈kids,rec x t=some (bS x t)):
 M.ry rec kids t=some (decide ((ie t).length=kids.length)&&ic kids (ie t)):=by
 unfold M.ry ie fX;cases hu:(t.Kind==1)
 ·simp only[aW,fh,ei,aa.aG,ae.aG,Int.toNat_zero]
  match kids,hr with
  |[],_=>
    have h1:((([]:List ae).length:Int)==1)=false:=rfl;rw[h1];simp[ic]
  |[x],hr=>
    have:=hr x (sA.2 rfl);simp only[List.getD_cons_zero,this];simp[inB,ic]
  |x::y::r,_=>
   have h1:(((x::y::r).length:Int)==1)=false:=kb (by simp only[bY];omega);have h2:decide ([t].length=(x::y::r).length)=false:=av (by simp);rw[h1,h2];simp
 ·simp only[cE,sc]
  match kids with
  |[]=>rfl
  |x::r=>
   have h1:(((x::r).length:Int)==0)=false:=kb (by simp only[bY];omega);have h2:decide (([]:List aa).length=(x::r).length)=false:=av (by simp);rw[h1,h2];rfl
end
theorem len0(l:List ae):((l.length:Int)==0)=decide (([]:List aa).length=l.length):=by
 cases l with
 |nil=>rfl
 |cons a r=>rw[kb (by simp only[bY];omega),av (by simp)]
theorem ae4(l:List ae):(decide (([]:List aa).length=l.length)&&ic l [])=decide (([]:List aa).length=l.length):=by
 cases l with
 |nil=>rfl
 |cons a r=>rw[av (by simp)];rfl
theorem ae5(n:Nat)(h:n<=1048576):Go.IntKind.wrap .u64 (n:Int)=(n:Int):=Go.IntWalk.u64_in _ (by omega)
theorem BC(l:List ae):(decide (([]:List aa).length=l.length)&&ic l [])=((l.length:Int)==0):=by rw[ae4,len0]
theorem GX(n:Int):(decide ((0:Int)<=n)&&decide (n<=(0:Int)))=(n==0):=by
 by_cases h:n=0
 ·rw[h];rfl
 ·rw[kb h,Bool.and_eq_false_iff];by_cases h0:(0:Int)<=n
  ·right;exact av (by omega)
  ·left;exact av h0
section
variable {rec :ae->aa->Option Bool}
theorem ae6(v:ae)(t:aa)(hv:v.sz<=1048576)(ht:t.sz<=1048576)(hs:bK t=true)
 (hrec:∀x∈v.Kids,∀y∈t.Kids,rec x y=some (bS x y)) (hk:v.Kind=t.Kind) (htx:t.Kind≠11) (hte:v.Text=[]):
 M.nO rec v t=some (fV v.Num t&&(match kT v.Num v.Kids.length t with
 |some ts=>decide (ts.length=v.Kids.length)&&ic v.Kids ts
 |none=>false)):=by
 have hl:=ae.fg hv;have hl2:=aa.fg ht;have hlab:=aa.aeu ht;obtain⟨s12,s13,s14,BA⟩:=xR hs;have BD:∀k,k<t.Kids.length->∀x∈v.Kids,rec x (t.Kids.getD k aa.zero)=some (bS x (t.Kids.getD k aa.zero)):=fun k hk x hx=>by
  rw[getD_lt hk];exact hrec x hx _ (an hk)
 unfold M.nO;simp only[aa.aG,ae.aG,jK,kt hk,hte,kD,fO,Bool.and_false,gj,aW];by_cases h2:t.Kind=2
 ·unfold fV kT;simp only[h2,Int.reduceBEq,Int.reduceEq,cE,aW,gj,or_self,true_or,or_true,jC,false_or,sc,ei,BC];cases (decide ((0:Int)<=v.Num)&&decide (v.Num<=(1:Int)))<;>rfl
 by_cases ig:t.Kind=14
 ·unfold fV kT;simp only[ig,Int.reduceBEq,Int.reduceEq,cE,aW,gj,nb,lI,dy,or_self,true_or,or_true,jC,false_or,sc,ei];by_cases hn:(decide ((0:Int)<=v.Num)&&decide (v.Num<=(1:Int)))=true
  ·rw[hn];simp only[aU,aZ]at hn;have hk2:=s14 ig;have hin:inB v.Num t.Kids.length=true:=by unfold inB;rw[bD hn.1,bD (by omega)];rfl
   rw[SB (t.Kids.getD v.Num.toNat aa.zero) hl (BD _ (by omega)),hin,bG (show 0<=v.Num/\v.Num<(t.Kids.length:Int) by omega)];simp
  ·simp only[sw]at hn;rw[hn];rfl
 by_cases h13:t.Kind=13
 ·unfold fV kT;simp only[h13,Int.reduceBEq,Int.reduceEq,cE,aW,gj,nb,lI,dy,or_self,true_or,or_true,jC,false_or,sc,ei];obtain⟨k1,k2⟩:=s13 h13;have hin:inB (0:Int) t.Kids.length=true:=by rw[k1];rfl
  have ho:ie (t.Kids.getD 0 aa.zero)=[t.Kids.getD 0 aa.zero]:=by unfold ie;rw[k2];rfl
  rw[Int.toNat_zero,SA 1 (t.Kids.getD 0 aa.zero) hl (BD 0 (by omega)),hin,ho];simp only[aR,dy,mR,cE,aC];congr 1
  match hkk:v.Kids with
  |[]=>
    by_cases hn:v.Num=0
    ·rw[hn];rfl
    ·rw[kb (show v.Num≠((([]:List ae).length:Nat):Int) by simpa using hn)];rw[bH hn];by_cases h1:v.Num=1
     ·rw[bG h1];simp
     ·rw[bH h1];simp
  |[x]=>
    by_cases hn:v.Num=1
    ·rw[hn];simp[ic]
    ·rw[kb (show v.Num≠((([x]:List ae).length:Nat):Int) by simpa using hn)];by_cases h1:v.Num=0
     ·rw[bG h1];simp
     ·rw[bH h1,bH hn];simp
  |x::y::r=>
   have e1:decide ((((x::y::r).length:Nat):Int)<=1)=false:=av (by simp only[bY];omega);rw[e1];by_cases h0:v.Num=0
   ·rw[bG h0];simp
   ·rw[bH h0];by_cases h1:v.Num=1
    ·rw[bG h1];simp
    ·rw[bH h1];simp
 by_cases h10:t.Kind=10
 ·unfold fV kT;have hc:M.iN v.Num=some (Ss v.Num):=rfl;simp only[h10,hc,Int.reduceBEq,Int.reduceEq,Int.reduceLE,cE,aW,gj,or_self,true_or,or_true,jC,false_or,and_false,and_true,sc,ei,BC,aC]
 by_cases h12:t.Kind=12
 ·unfold fV kT sy;simp only[h12,Int.reduceBEq,Int.reduceEq,Int.reduceLE,cE,aW,gj,nb,lI,dy,or_self,true_or,or_true,jC,false_or,and_false,and_true,sc,ei,GX];have k1:=s12 h12;have hin:inB (0:Int) t.Kids.length=true:=by rw[k1];rfl
  rw[Int.toNat_zero,SA 8 (t.Kids.getD 0 aa.zero) hl (BD 0 (by omega)),hin];simp only[aR,dy,mR,cE,aC,dc];by_cases h8:v.Kids.length<=8
  ·rw[bD (show(v.Kids.length:Int)<=8 by omega),bD (show min v.Kids.length 8=v.Kids.length by omega),F7 _ _ _ (show min v.Kids.length 8=v.Kids.length by omega)]
  ·rw[av (show ¬(v.Kids.length:Int)<=8 by omega),av (show ¬min v.Kids.length 8=v.Kids.length by omega)];rfl
 by_cases h15:t.Kind=15\/t.Kind=16
 ·have e:=ae3 (rec:=rec) (kids:=v.Kids) t.Kids hl (fun k h1 h2=>by rw[getD_lt h1,getD_lt h2];exact hrec _ (an h1) _ (an h2));unfold fV kT sy;rcases h15 with h|h
  all_goals
   simp only[h,e,Int.reduceBEq,Int.reduceEq,Int.reduceLE,cE,aW,gj,nb,lI,dy,or_self,true_or,or_true,jC,false_or,and_false,and_true,sc,ei,GX,aR,mR,aC]
 by_cases h17:t.Kind=17
 ·unfold fV kT sy;obtain⟨b,er⟩:=Sv t.Kind;simp only[h17]at er;simp only[h17,er,Int.reduceBEq,Int.reduceEq,Int.reduceLE,cE,aW,gj,nb,lI,dy,or_self,true_or,or_true,jC,false_or,and_false,and_true,sc,ei,aR];have k1:=BA h17;have hw:Go.IntKind.wrap .i64 ((t.bm.length:Int)-1)=(t.bm.length:Int)-1:=wrap_i64 (by omega) (by omega);rw[hw];by_cases hn:0<=v.Num/\v.Num<(t.Kids.length:Int)
  ·have hin:inB v.Num t.Kids.length=true:=by unfold inB;rw[bD hn.1,bD hn.2];rfl
   rw[bG hn,bD hn.1,bD (show v.Num<=(t.bm.length:Int)-1 by omega),SB (t.Kids.getD v.Num.toNat aa.zero) hl (BD _ (by omega)),hin];simp
  ·have:(decide ((0:Int)<=v.Num)&&decide (v.Num<=(t.bm.length:Int)-1))=false:=by
    rw[Bool.and_eq_false_iff];by_cases h0:0<=v.Num
    ·right;exact av (by omega)
    ·left;exact av h0
   rw[bH hn,this];rfl
 simp only[oI]at h15;have GY:kT v.Num v.Kids.length t=some []:=by
  unfold kT;rw[bH h12,bH (by omega),bH h13,bH (by omega)]
 rw[GY];simp only[BC,kb h2,kb ig,kb h13,kb h10,kb htx,kb h12,kb h15.1,kb h15.2,kb h17,aW,gj];obtain⟨b,er⟩:=Sv t.Kind;rw[er];simp only[aC,aR,c9,dy,aQ,cE];rw[ae5 _ hlab];unfold fV;rw[bH (by omega),bH h10];unfold sy GV;by_cases h18:t.Kind=18
 ·simp only[h18,Int.reduceBEq,Int.reduceEq,Int.reduceLE,cE,aW,or_self,true_or,or_true,jC,false_or,and_false,and_true,sc,ei];cases (decide ((0:Int)<=v.Num)&&decide (v.Num<=Go.IntKind.wrap .i64 ((t.bm.length:Int)-1)))<;>rfl
 by_cases h19:t.Kind=19
 ·simp only[h19,Int.reduceBEq,Int.reduceEq,Int.reduceLE,cE,aW,or_self,true_or,or_true,jC,false_or,and_false,and_true,sc,ei];cases (decide ((0:Int)<=v.Num)&&decide (v.Num<=Go.IntKind.wrap .i64 (Go.V.oo .i64 (1:Int) (t.bm.length:Int)-1)))<;>rfl
 by_cases h20:t.Kind=20\/t.Kind=21\/t.Kind=22\/t.Kind=23
 ·rcases h20 with h|h|h|h
  all_goals
   simp only[h,Int.reduceBEq,Int.reduceEq,Int.reduceLE,cE,aW,or_self,true_or,or_true,jC,false_or,and_false,and_true,sc,ei];cases (decide ((0:Int)<=v.Num)&&decide (v.Num<=(2147483647:Int)))<;>rfl
 simp only[oI]at h20;simp only[kb h18,kb h19,kb h20.1,kb h20.2.1,kb h20.2.2.1,kb h20.2.2.2,aW];by_cases GZ:3<=t.Kind/\t.Kind<=9
 ·rw[bG GZ];cases (decide ((lL t.Kind).1<=v.Num)&&decide (v.Num<=(lL t.Kind).2))<;>rfl
 ·rw[bH GZ,aeT GZ,bH (by omega),bH h19,bH (by omega)];cases (decide ((0:Int)<=v.Num)&&decide (v.Num<=(0:Int)))<;>rfl
end
theorem Gi:∀(m:Nat)(v:ae)(t:aa),v.sz<m->v.sz<=1048576->t.sz<=1048576->bK t=true->M.rA m v t=some (bS v t)
 |0,v,t,h,_,_,_=>absurd h (jD _)
 |m+1,v,t,h,hv,ht,hs=>by
  have ae7:∀x∈t.Kids,bK x=true:=by
   rw[m3,aU,vm,di]at hs;exact hs.2
  have hrec:∀x∈v.Kids,∀y∈t.Kids,M.rA m x y=some (bS x y):=fun x hx y hy=>by
   have h1:=ae.dw hx;have h2:=aa.dw hy;exact Gi m x y (by omega) (by omega) (by omega) (ae7 y hy)
  show M.nO (M.rA m) v t=_
  rw[Bh];by_cases hk:v.Kind=t.Kind
  ·by_cases h11:t.Kind=11
   ·have hh:headB v.Kind v.Num v.Text t=(fA v.Text&&(v.Num==0)):=by
     unfold headB fV sy;simp only[kt hk,h11,kt (hk.trans h11),Int.reduceBEq,Int.reduceEq,Int.reduceLE,or_self,jC,false_or,and_false,and_true,sc,ei,GX,lI,aQ,c9];rw[Bool.and_comm]
    have GY:kT v.Num v.Kids.length t=some []:=by
     unfold kT;rw[bH (by omega),bH (by omega),bH (by omega),bH (by omega)]
    rw[hh,GY];unfold M.nO;simp only[aa.aG,ae.aG,jK,kt hk,h11,kt (hk.trans h11),BC,aeR _ (ae.Sr hv),Int.reduceBEq,fO,oy,gj,cE,aW,aR,aC,mR]
   ·by_cases hte:v.Text=[]
    ·rw[ae6 v t hv ht hs hrec hk h11 hte];have:headB v.Kind v.Num v.Text t=fV v.Num t:=by unfold headB;rw[kt hk,hte,ae2];simp
     rw[this];try rfl
    ·have e:(v.Text==[])=false:=by
      cases h:v.Text with
      |nil=>exact absurd h hte
      |cons a r=>rfl
     have:headB v.Kind v.Num v.Text t=false:=by unfold headB;rw[e,kb h11];simp
     rw[this];unfold M.nO;rw[jK,jK,kt hk,kb h11,e];rfl
  ·have:headB v.Kind v.Num v.Text t=false:=by unfold headB;rw[kb hk];rfl
   rw[this];unfold M.nO;rw[jK,kb hk];rfl
end M
