/-
  A TEXT'S FIRST CODE POINT, as the reference reckons it, beside the decoder of the language: in plain words.
-/
import Derived.Test.YtalddlopgnfpaaaGreatDoorXITP
import Derived.Lib.MapLaws
set_option linter.unusedVariables false
set_option linter.unusedSimpArgs false
namespace M
open Go Go.V Go.Lib
theorem Xk(n:Nat)(h:n<256):IntKind.wrap .u8 (n:Int)=(n:Int):=by
 have:∀m:Fin 256,IntKind.wrap .u8 ((m.val:Nat):Int)=((m.val:Nat):Int):=by decide+kernel
 exact this ⟨n,h⟩
theorem mX(n:Nat)(h:n<2^62):IntKind.wrap .i64 (n:Int)=(n:Int):=wrap_i64 (by omega) (by omega)
theorem JX(n:Nat)(h:n<2^62):dQ .and .i64 (n:Int) 63=((n%64:Nat):Int):=by
 have e:(BitVec.ofInt 64 (n:Int)&&& BitVec.ofInt 64 (63:Int)).toNat=n%64:=by
  rw[BitVec.toNat_and];have h1:(BitVec.ofInt 64 (n:Int)).toNat=n:=by rw[BitVec.toNat_ofInt];omega
  have h2:(BitVec.ofInt 64 (63:Int)).toNat=63:=by decide
  rw[h1,h2];exact Nat.and_two_pow_sub_one_eq_mod n 6
 show IntKind.wrap .i64 (((BitVec.ofInt 64 (n:Int)&&& BitVec.ofInt 64 (63:Int)).toNat:Nat):Int)=_
 rw[e,mX _ (by omega)]
theorem aj1(x:UInt8):dQ .and .u8 ((x.toNat:Nat):Int) 63=((x.toNat%64:Nat):Int):=by
 have:∀m:Fin 256,dQ .and .u8 ((m.val:Nat):Int) 63=((m.val%64:Nat):Int):=by decide+kernel
 exact this ⟨x.toNat,x.toNat_lt⟩
theorem aj2(n r:Nat)(hr:r<64)(h:n<2^40):dQ .or .i64 ((n*64:Nat):Int) (r:Int)=((n*64+r:Nat):Int):=by
 have e:(BitVec.ofInt 64 ((n*64:Nat):Int)|||BitVec.ofInt 64 (r:Int)).toNat=n*64+r:=by
  rw[BitVec.toNat_or];have h1:(BitVec.ofInt 64 ((n*64:Nat):Int)).toNat=n*64:=by rw[BitVec.toNat_ofInt];omega
  have h2:(BitVec.ofInt 64 (r:Int)).toNat=r:=by rw[BitVec.toNat_ofInt];omega
  rw[h1,h2];have:=Nat.two_pow_add_eq_or_of_lt (b:=r) (i:=6) (by simpa using hr) n;rw[show(2:Nat)^6=64 by rfl]at this;rw[uT n 64,<-this]
 show IntKind.wrap .i64 (((BitVec.ofInt 64 ((n*64:Nat):Int)|||BitVec.ofInt 64 (r:Int)).toNat:Nat):Int)=_
 rw[e,mX _ (by omega)]
theorem aj3(n:Nat)(h:n<2^40):lr .i64 (n:Int) 6=((n*64:Nat):Int):=by
 have:lr .i64 (n:Int) 6=IntKind.wrap .i64 ((n:Int)*64):=rfl;rw[this,show(n:Int)*64=((n*64:Nat):Int) by omega,mX _ (by omega)]
theorem aj6(n:Nat):fX .i64 (n:Int) 6=((n/64:Nat):Int):=by
 have:fX .i64 (n:Int) 6=(n:Int).fdiv 64:=rfl;rw[this,Int.fdiv_eq_ediv_of_nonneg _ (by omega)];omega
theorem aj7(n:Nat):fX .i64 (n:Int) 12=((n/4096:Nat):Int):=by
 have:fX .i64 (n:Int) 12=(n:Int).fdiv 4096:=rfl;rw[this,Int.fdiv_eq_ediv_of_nonneg _ (by omega)];omega
theorem aj8(n:Nat):fX .i64 (n:Int) 18=((n/262144:Nat):Int):=by
 have:fX .i64 (n:Int) 18=(n:Int).fdiv 262144:=rfl;rw[this,Int.fdiv_eq_ediv_of_nonneg _ (by omega)];omega
theorem x5(k:Int)(m:Nat)(h:k=(m:Int))(hm:m<256):IntKind.wrap .u8 (IntKind.wrap .i64 k)=(m:Int):=by
 subst h;rw[mX m (by omega),Xk m hm]
theorem oO(m:Nat)(h:m<256):fB (m:Int)=true:=by unfold fB;simp;omega
theorem ET(m:Nat):eu (m:Int)=UInt8.ofNat m:=rfl
def ia(n:Nat):List UInt8:=
 if n<128 then[UInt8.ofNat n]
 else if n<2048 then[UInt8.ofNat (192+n/64),UInt8.ofNat (128+n%64)]
 else if n<65536 then[UInt8.ofNat (224+n/4096),UInt8.ofNat (128+n/64%64),UInt8.ofNat (128+n%64)]
 else[UInt8.ofNat (240+n/262144),UInt8.ofNat (128+n/4096%64),UInt8.ofNat (128+n/64%64),UInt8.ofNat (128+n%64)]
theorem aj9(n:Nat)(h:n<=1114111):M.px (n:Int)=some (ia n):=by
 have ha:=JX n (by omega);have hb:=JX (n/64) (by omega);have hc:=JX (n/4096) (by omega);unfold M.px ia;rw[aj6,aj7,aj8,hb,hc,ha];by_cases h1:n<128
 ·rw[av h1,Xk n (by omega),oO n (by omega),ET];have:decide ((n:Int)<128)=true:=by simp;omega
  rw[this];rfl
 ·rw[ak h1];have d1:decide ((n:Int)<128)=false:=by simp;omega
  rw[d1];have b0:=x5 (128+((n%64:Nat):Int)) (128+n%64) (by omega) (by omega);rw[b0];by_cases h2:n<2048
  ·have d2:decide ((n:Int)<2048)=true:=by simp;omega
   have b1:=x5 (192+((n/64:Nat):Int)) (192+n/64) (by omega) (by omega);rw[av h2,d2,b1];simp only[aR,aA,oO _ (show 192+n/64<256 by omega),oO _ (show 128+n%64<256 by omega),ET,fE,List.map_id']
  ·rw[ak h2];have d2:decide ((n:Int)<2048)=false:=by simp;omega
   have b2:=x5 (128+((n/64%64:Nat):Int)) (128+n/64%64) (by omega) (by omega);rw[d2,b2];by_cases h3:n<65536
   ·have d3:decide ((n:Int)<65536)=true:=by simp;omega
    have b1:=x5 (224+((n/4096:Nat):Int)) (224+n/4096) (by omega) (by omega);rw[av h3,d3,b1];simp only[aR,aA,oO _ (show 224+n/4096<256 by omega),oO _ (show 128+n/64%64<256 by omega),oO _ (show 128+n%64<256 by omega),ET,fE,List.map_id']
   ·have d3:decide ((n:Int)<65536)=false:=by simp;omega
    have b1:=x5 (240+((n/262144:Nat):Int)) (240+n/262144) (by omega) (by omega);have b3:=x5 (128+((n/4096%64:Nat):Int)) (128+n/4096%64) (by omega) (by omega);rw[ak h3,d3,b1,b3];simp only[aR,aA,oO _ (show 240+n/262144<256 by omega),oO _ (show 128+n/4096%64<256 by omega),oO _ (show 128+n/64%64<256 by omega),oO _ (show 128+n%64<256 by omega),ET,fE,List.map_id']
def mg(n:Nat):List UInt8->Nat
 |[]=>n
 |x::r=>mg (n*64+x.toNat%64) r
theorem Xl(s:List UInt8)(many:Nat)(hm:many<=s.length)(hs:s.length<=1048576):∀(d f n i:Nat),i+d=many->d<=3->(n+1)*64^d<=2^24->
 M.rn s (many:Int) (f+d+1) (n:Int) (i:Int)=some (s,(many:Int),((mg n ((s.take many).drop i):Nat):Int))
 |0,f,n,i,hi,_,hn=>by
  have d:decide ((i:Int)<(many:Int))=false:=by simp;omega
  have e:(s.take many).drop i=[]:=List.drop_eq_nil_of_le (by rw[iV];omega);rw[e];simp only[M.rn,d,aR,mg]
 |d+1,f,n,i,hi,hd,hn=>by
  have d1:decide ((i:Int)<(many:Int))=true:=by simp;omega
  have hin:inB (i:Int) s.length=true:=by rw[cB];simp;omega
  have hil:i<(s.take many).length:=by rw[iV];omega
  have hg:s.getD i 0=(s.take many)[i]:=by rw[getD_lt (by omega),List.getElem_take]
  have hp:64^(d+1)=64*64^d:=by rw[Nat.pow_succ,uT]
  have hn2:n<2^24:=by
   have:(n+1)*1<=(n+1)*64^(d+1):=Nat.mul_le_mul_left _ (Nat.pos_of_ne_zero (by simp));omega
  have hb:((s.getD i 0).toNat%64)<64:=Nat.mod_lt _ (by omega);have hstep:(n*64+(s.getD i 0).toNat%64+1)*64^d<=2^24:=by
   have:(n*64+(s.getD i 0).toNat%64+1)*64^d<=((n+1)*64)*64^d:=dr _ (by omega);rw[hp,<-Nat.mul_assoc]at hn;omega
  have ih:=Xl s many hm hs d f (n*64+(s.getD i 0).toNat%64) (i+1) (by omega) (by omega) hstep;rw[dX hil,mg];rw[show f+(d+1)+1=(f+d+1)+1 by omega,M.rn];rw[d1,cN,hin];simp only[aA,aP];rw[aj3 n (by omega),aj1,mX ((s.getD i 0).toNat%64) (by omega),aj2 n _ hb (by omega),cm (show i<many by omega) (by omega)];rw[ih,hg]
end M
namespace M
open Go Go.V Go.Lib
def fR(b:Nat):Nat:=if 240<=b then 4 else if 224<=b then 3 else if 192<=b then 2 else 1
def ic(b:Nat):Nat:=if 240<=b then b-240 else if 224<=b then b-224 else if 192<=b then b-192 else b
def jm(n:Nat):Bool:=decide (n<=55295)||(decide (57344<=n)&&decide (n<=1114111))
def fk(s:List UInt8):Nat×Nat:=
 if s.length<fR (s.getD 0 0).toNat then(0,0)
 else if jm (mg (ic (s.getD 0 0).toNat) ((s.take (fR (s.getD 0 0).toNat)).drop 1))&&(ia (mg (ic (s.getD 0 0).toNat) ((s.take (fR (s.getD 0 0).toNat)).drop 1))==s.take (fR (s.getD 0 0).toNat))then
  (mg (ic (s.getD 0 0).toNat) ((s.take (fR (s.getD 0 0).toNat)).drop 1),fR (s.getD 0 0).toNat)
 else(0,0)
theorem aka(n:Nat):M.jv (n:Int)=some (jm n):=by
 unfold M.jv jm;have h1:decide ((0:Int)<=(n:Int))=true:=by simp
 have h2:decide ((n:Int)<=55295)=decide (n<=55295):=by congr 1;exact propext ⟨fun h=>by omega,fun h=>by omega⟩
 have h3:decide ((57344:Int)<=(n:Int))=decide (57344<=n):=by congr 1;exact propext ⟨fun h=>by omega,fun h=>by omega⟩
 have h4:decide ((n:Int)<=1114111)=decide (n<=1114111):=by congr 1;exact propext ⟨fun h=>by omega,fun h=>by omega⟩
 rw[h1,h2,h3,h4,bI]
theorem Jh{n:Nat}(h:jm n=true):n<=1114111:=by
 unfold jm at h;simp only[iW,aW,bm]at h;omega
theorem EU(s:List UInt8)(m n:Nat)(hm:m<=s.length)(q9:Bool)(h9:q9=true):
 (bif((!(Option.getD (M.jv (n:Int)) Inhabited.default))||(!((Option.getD (M.px (n:Int)) Inhabited.default)==(List.drop (Int.toNat (0:Int)) (List.take (Int.toNat (m:Int)) s)))))then
   (bif(((Go.V.bK (0:Int) (m:Int) (List.length s))||(!((!(Option.getD (M.jv (n:Int)) Inhabited.default))==false)))&&(((Option.isSome (M.px (n:Int)))||(!((!(Option.getD (M.jv (n:Int)) Inhabited.default))==false)))&&((Option.isSome (M.jv (n:Int)))&&q9)))then some ((0:Int),(0:Int))else none)
 else
  (bif(((Go.V.bK (0:Int) (m:Int) (List.length s))||(!((!(Option.getD (M.jv (n:Int)) Inhabited.default))==false)))&&(((Option.isSome (M.px (n:Int)))||(!((!(Option.getD (M.jv (n:Int)) Inhabited.default))==false)))&&((Option.isSome (M.jv (n:Int)))&&q9)))then some ((n:Int),(m:Int))else none))=
 some (if jm n&&(ia n==s.take m)then(((n:Nat):Int),((m:Nat):Int))else(0,0)):=by
 subst h9;have hsl:bK (0:Int) (m:Int) s.length=true:=by unfold bK;simp;omega
 rw[aka,hsl,cN];simp only[aS,aU,gR,aP,bI];cases hc:jm n
 ·simp
 ·rw[aj9 n (Jh hc)];simp only[aS,aU,mV,uM,Int.toNat_zero,ej,gR,fE,aA,bI];cases hb:(ia n==s.take m)<;>simp
theorem VT(s:List UInt8)(hne:s≠[])(hs:s.length<=1048576):M.wi s=some (((fk s).1:Int),((fk s).2:Int)):=by
 have hl:0<s.length:=List.length_pos_iff.2 hne;have e0:(s==[])=false:=by cases s with
  |nil=>exact absurd rfl hne
  |cons a r=>rfl
 have hin:inB (0:Int) s.length=true:=by have:=cB 0 s.length;simpa [hl]using this
 have hb:(s.getD 0 0).toNat<256:=UInt8.toNat_lt _;obtain⟨f,hf⟩:∃f,ah=f+3+1:=⟨ah-4,by have:=fj (n:=100) (by omega);omega⟩;have key:∀(m n0:Nat),fR (s.getD 0 0).toNat=m->ic (s.getD 0 0).toNat=n0->1<=m->m<=4->(n0+1)*64^(m-1)<=2^24->¬s.length<m->M.rn s (m:Int) ah (n0:Int) 1=some (s,(m:Int),((mg n0 ((s.take m).drop 1):Nat):Int)):=fun m n0 h1 h2 h3 h4 h5 h6=>by
  have:=Xl s m (by omega) hs (m-1) (f+4-m) n0 1 (by omega) (by omega) h5;rw[hf,show f+3+1=(f+4-m)+(m-1)+1 by omega];exact this
 unfold M.wi;rw[e0,Int.toNat_zero];have hw:IntKind.wrap .i64 ((s.getD 0 0).toNat:Int)=((s.getD 0 0).toNat:Int):=mX _ (by omega);unfold fk;by_cases jo:240<=(s.getD 0 0).toNat
 ·have Ax:decide ((240:Int)<=((s.getD 0 0).toNat:Int))=true:=aY (by omega);have hm:fR (s.getD 0 0).toNat=4:=by unfold fR;rw[av jo]
  have hn:ic (s.getD 0 0).toNat=(s.getD 0 0).toNat-240:=by unfold ic;rw[av jo]
  have hw2:IntKind.wrap .i64 (((s.getD 0 0).toNat:Int)-240)=(((s.getD 0 0).toNat-240:Nat):Int):=by rw[show((s.getD 0 0).toNat:Int)-240=(((s.getD 0 0).toNat-240:Nat):Int) by omega];exact mX _ (by omega)
  rw[hm,hn];simp only[Ax,aR,aA,hw,hw2,hin,gR,aP,kJ,bI,mV,uC];by_cases hsl:s.length<4
  ·have d:decide ((s.length:Int)<4)=true:=by simp;omega
   rw[av hsl,d];rfl
  ·have d:decide ((s.length:Int)<4)=false:=by simp;omega
   have:=key 4 _ hm hn (by omega) (by omega) (by omega) hsl;rw[ak hsl,d];simp only[aR];rw[show(4:Int)=((4:Nat):Int)from rfl,this];refine(EU s 4 _ (by omega) _ (by rfl)).trans ?_;split<;>rfl
 ·have Ax:decide ((240:Int)<=((s.getD 0 0).toNat:Int))=false:=bU (by omega);by_cases lJ:224<=(s.getD 0 0).toNat
  ·have EV:decide ((224:Int)<=((s.getD 0 0).toNat:Int))=true:=aY (by omega);have hm:fR (s.getD 0 0).toNat=3:=by unfold fR;rw[ak jo,av lJ]
   have hn:ic (s.getD 0 0).toNat=(s.getD 0 0).toNat-224:=by unfold ic;rw[ak jo,av lJ]
   have hw2:IntKind.wrap .i64 (((s.getD 0 0).toNat:Int)-224)=(((s.getD 0 0).toNat-224:Nat):Int):=by rw[show((s.getD 0 0).toNat:Int)-224=(((s.getD 0 0).toNat-224:Nat):Int) by omega];exact mX _ (by omega)
   rw[hm,hn];simp only[Ax,EV,aR,aA,hw,hw2,hin,gR,aP,kJ,bI,mV,uS,uC];by_cases hsl:s.length<3
   ·have d:decide ((s.length:Int)<3)=true:=by simp;omega
    rw[av hsl,d];rfl
   ·have d:decide ((s.length:Int)<3)=false:=by simp;omega
    have:=key 3 _ hm hn (by omega) (by omega) (by omega) hsl;rw[ak hsl,d];simp only[aR];rw[show(3:Int)=((3:Nat):Int)from rfl,this];refine(EU s 3 _ (by omega) _ (by rfl)).trans ?_;split<;>rfl
  ·have EV:decide ((224:Int)<=((s.getD 0 0).toNat:Int))=false:=bU (by omega);by_cases qo:192<=(s.getD 0 0).toNat
   ·have JY:decide ((192:Int)<=((s.getD 0 0).toNat:Int))=true:=aY (by omega);have hm:fR (s.getD 0 0).toNat=2:=by unfold fR;rw[ak jo,ak lJ,av qo]
    have hn:ic (s.getD 0 0).toNat=(s.getD 0 0).toNat-192:=by unfold ic;rw[ak jo,ak lJ,av qo]
    have hw2:IntKind.wrap .i64 (((s.getD 0 0).toNat:Int)-192)=(((s.getD 0 0).toNat-192:Nat):Int):=by rw[show((s.getD 0 0).toNat:Int)-192=(((s.getD 0 0).toNat-192:Nat):Int) by omega];exact mX _ (by omega)
    rw[hm,hn];simp only[Ax,EV,JY,aR,aA,hw,hw2,hin,gR,aP,kJ,bI,mV,uS,uC];by_cases hsl:s.length<2
    ·have d:decide ((s.length:Int)<2)=true:=by simp;omega
     rw[av hsl,d];rfl
    ·have d:decide ((s.length:Int)<2)=false:=by simp;omega
     have:=key 2 _ hm hn (by omega) (by omega) (by omega) hsl;rw[ak hsl,d];simp only[aR];rw[show(2:Int)=((2:Nat):Int)from rfl,this];refine(EU s 2 _ (by omega) _ (by rfl)).trans ?_;split<;>rfl
   ·have JY:decide ((192:Int)<=((s.getD 0 0).toNat:Int))=false:=bU (by omega);have hm:fR (s.getD 0 0).toNat=1:=by unfold fR;rw[ak jo,ak lJ,ak qo]
    have hn:ic (s.getD 0 0).toNat=(s.getD 0 0).toNat:=by unfold ic;rw[ak jo,ak lJ,ak qo]
    rw[hm,hn];simp only[Ax,EV,JY,aR,aA,hw,hin,gR,aP,kJ,bI,mV,uS,uC];have hsl:¬s.length<1:=by omega
    have d:decide ((s.length:Int)<1)=false:=by simp;omega
    have:=key 1 _ hm hn (by omega) (by omega) (by omega) hsl;rw[ak hsl,d];simp only[aR];rw[show(1:Int)=((1:Nat):Int)from rfl]at this⊢;rw[this];refine(EU s 1 _ (by omega) _ (by rfl)).trans ?_;split<;>rfl
end M
namespace M
open Go Go.V Go.Lib
def fF(n:Nat):List Nat:=
 if n<128 then[n]
 else if n<2048 then[192+n/64,128+n%64]
 else if n<65536 then[224+n/4096,128+n/64%64,128+n%64]
 else[240+n/262144,128+n/4096%64,128+n/64%64,128+n%64]
theorem akb(n:Nat):ia n=(fF n).map UInt8.ofNat:=by
 unfold ia fF
 repeat' split
 all_goals rfl
theorem akc(n:Nat)(h:n<=1114111):∀x∈fF n,x<256:=by
 unfold fF
 repeat' split
 all_goals (intro x hx;simp only[dW,IY,kC]at hx;omega)
theorem Xm:∀(l:List Nat)(s:List UInt8),(∀x∈l,x<256)->(l.map UInt8.ofNat=s↔l=s.map UInt8.toNat)
 |[],[],_=>by simp
 |[],y::s,_=>by simp
 |x::l,[],_=>by simp
 |x::l,y::s,h=>by
  have ih:=Xm l s fun z hz=>h z (gQ _ hz)
  have hx:=h x (fa ..);simp only[fb,List.cons.injEq,ih];refine and_congr_left fun _=>⟨fun e=>?_,fun e=>?_⟩
  ·rw[<-e];simp;omega
  ·rw[e];simp
theorem Ez(n:Nat)(h:n<=1114111)(s:List UInt8):(ia n==s)=true↔fF n=s.map UInt8.toNat:=by
 rw[kK,akb];exact Xm _ _ (akc n h)
theorem Jd(n a:Nat):fF n=[a]↔n<128/\n=a:=by
 unfold fF
 repeat' split
 all_goals (simp only[List.cons.injEq,and_true,reduceCtorEq,and_false,false_iff,not_and];omega)
theorem Je(n a b:Nat):fF n=[a,b]↔128<=n/\n<2048/\192+n/64=a/\128+n%64=b:=by
 unfold fF
 repeat' split
 all_goals (simp only[List.cons.injEq,and_true,reduceCtorEq,and_false,false_iff,not_and];omega)
theorem Jf(n a b c:Nat):fF n=[a,b,c]↔2048<=n/\n<65536/\224+n/4096=a/\128+n/64%64=b/\128+n%64=c:=by
 unfold fF
 repeat' split
 all_goals (simp only[List.cons.injEq,and_true,reduceCtorEq,and_false,false_iff,not_and];omega)
theorem Jg(n a b c d:Nat):fF n=[a,b,c,d]↔65536<=n/\240+n/262144=a/\128+n/4096%64=b/\128+n/64%64=c/\128+n%64=d:=by
 unfold fF
 repeat' split
 all_goals (simp only[List.cons.injEq,and_true,reduceCtorEq,and_false,false_iff,not_and];omega)
theorem Jc(n:Nat):jm n=true↔n<=55295\/(57344<=n/\n<=1114111):=by unfold jm;simp
theorem sA(n:Nat)(s:List UInt8):(jm n&&(ia n==s))=true↔(n<=55295\/(57344<=n/\n<=1114111))/\fF n=s.map UInt8.toNat:=by
 rw[aW,Jc];constructor
 ·rintro ⟨h1,h2⟩;exact⟨h1,(Ez n (by omega) s).1 h2⟩
 ·rintro ⟨h1,h2⟩;exact⟨h1,(Ez n (by omega) s).2 h2⟩
theorem VR(s:List UInt8)(hne:s≠[]):(fk s).2=if(decodeL s).1=65533/\(decodeL s).2=1 then 0 else(decodeL s).2:=by
 have hl:0<s.length:=List.length_pos_iff.2 hne;have k0:=(s.getD 0 0).toNat_lt;have k1:=(s.getD 1 0).toNat_lt;have k2:=(s.getD 2 0).toNat_lt;have k3:=(s.getD 3 0).toNat_lt;have sB:=decodeN_shape s.length (s.getD 0 0).toNat (s.getD 1 0).toNat (s.getD 2 0).toNat (s.getD 3 0).toNat;rw[decodeL_N];generalize hD:decodeN s.length (s.getD 0 0).toNat (s.getD 1 0).toNat (s.getD 2 0).toNat (s.getD 3 0).toNat=D at sB⊢;have hD':=hD;unfold decodeN at hD;unfold fk;by_cases jo:240<=(s.getD 0 0).toNat
 ·have hm:fR (s.getD 0 0).toNat=4:=by unfold fR;rw[av jo]
  have hn:ic (s.getD 0 0).toNat=(s.getD 0 0).toNat-240:=by unfold ic;rw[av jo]
  rw[hm,hn];by_cases hsl:s.length<4
  ·rw[av hsl];rcases sB with⟨c,e⟩|⟨c1,c2,c3,cv,e⟩|⟨c1,c2,c3,c4,cv,cs,e⟩|⟨c1,c2,c3,c4,c5,cv,cw,e⟩|e
   all_goals first|(exfalso;omega)|(rw[e];rfl)
  ·rw[ak hsl,takeD s (by omega)];simp only[List.drop_succ_cons,ej,mg];generalize hN:(((s.getD 0 0).toNat-240)*64+(s.getD 1 0).toNat%64)*64+(s.getD 2 0).toNat%64=N1;by_cases dC:(jm (N1*64+(s.getD 3 0).toNat%64)&&(ia (N1*64+(s.getD 3 0).toNat%64)==[s.getD 0 0,s.getD 1 0,s.getD 2 0,s.getD 3 0]))=true
   ·rw[av dC];rw[sA]at dC;simp only[fb,List.map_nil,Jg]at dC;obtain⟨q1,q2,q3,q4,q5,q6⟩:=dC;rw[ak (by omega),ak (by omega),ak (by omega),av ⟨by omega,⟨by omega,by omega⟩,⟨by omega,by omega⟩,by omega,by omega⟩,av ⟨by omega,by omega⟩]at hD;rw[<-hD,ak (by simp)]
   ·rw[ak dC];rw[sA]at dC;simp only[fb,List.map_nil,Jg]at dC;rcases sB with⟨c,e⟩|⟨c1,c2,c3,cv,e⟩|⟨c1,c2,c3,c4,cv,cs,e⟩|⟨c1,c2,c3,c4,c5,cv,cw,e⟩|e
    ·exfalso;omega
    ·exfalso;omega
    ·exfalso;omega
    ·exfalso;apply dC;have:(262144:Nat)<=262144:=bj _;rw[ak (by omega),ak (by omega),ak (by omega),av ⟨by omega,⟨by omega,by omega⟩,⟨by omega,by omega⟩,by omega,by omega⟩]at hD;split at hD
     ·rename_i hv;exact⟨by omega,by omega,by omega,by omega,by omega,by omega⟩
     ·rw[<-hD]at e;simp at e
    ·rw[e];rfl
 ·by_cases lJ:224<=(s.getD 0 0).toNat
  ·have hm:fR (s.getD 0 0).toNat=3:=by unfold fR;rw[ak jo,av lJ]
   have hn:ic (s.getD 0 0).toNat=(s.getD 0 0).toNat-224:=by unfold ic;rw[ak jo,av lJ]
   rw[hm,hn];by_cases hsl:s.length<3
   ·rw[av hsl];rcases sB with⟨c,e⟩|⟨c1,c2,c3,cv,e⟩|⟨c1,c2,c3,c4,cv,cs,e⟩|⟨c1,c2,c3,c4,c5,cv,cw,e⟩|e
    all_goals first|(exfalso;omega)|(rw[e];rfl)
   ·rw[ak hsl,takeC s (by omega)];simp only[List.drop_succ_cons,ej,mg];generalize hN:(((s.getD 0 0).toNat-224)*64+(s.getD 1 0).toNat%64)*64+(s.getD 2 0).toNat%64=N;by_cases dC:(jm N&&(ia N==[s.getD 0 0,s.getD 1 0,s.getD 2 0]))=true
    ·rw[av dC];rw[sA]at dC;simp only[fb,List.map_nil,Jf]at dC;obtain⟨q1,q2,q3,q4,q5,q6⟩:=dC;rw[ak (by omega),ak (by omega),av ⟨by omega,⟨by omega,by omega⟩,by omega,by omega⟩,av ⟨by omega,by omega⟩]at hD;rw[<-hD,ak (by simp)]
    ·rw[ak dC];rw[sA]at dC;simp only[fb,List.map_nil,Jf]at dC;rcases sB with⟨c,e⟩|⟨c1,c2,c3,cv,e⟩|⟨c1,c2,c3,c4,cv,cs,e⟩|⟨c1,c2,c3,c4,c5,cv,cw,e⟩|e
     ·exfalso;omega
     ·exfalso;omega
     ·exfalso;apply dC;exact⟨by omega,by omega,by omega,by omega,by omega,by omega⟩
     ·exfalso;omega
     ·rw[e];rfl
  ·by_cases qo:192<=(s.getD 0 0).toNat
   ·have hm:fR (s.getD 0 0).toNat=2:=by unfold fR;rw[ak jo,ak lJ,av qo]
    have hn:ic (s.getD 0 0).toNat=(s.getD 0 0).toNat-192:=by unfold ic;rw[ak jo,ak lJ,av qo]
    rw[hm,hn];by_cases hsl:s.length<2
    ·rw[av hsl];rcases sB with⟨c,e⟩|⟨c1,c2,c3,cv,e⟩|⟨c1,c2,c3,c4,cv,cs,e⟩|⟨c1,c2,c3,c4,c5,cv,cw,e⟩|e
     all_goals first|(exfalso;omega)|(rw[e];rfl)
    ·rw[ak hsl,takeB s (by omega)];simp only[List.drop_succ_cons,ej,mg];generalize hN:((s.getD 0 0).toNat-192)*64+(s.getD 1 0).toNat%64=N;by_cases dC:(jm N&&(ia N==[s.getD 0 0,s.getD 1 0]))=true
     ·rw[av dC];rw[sA]at dC;simp only[fb,List.map_nil,Je]at dC;obtain⟨q1,q2,q3,q4,q5⟩:=dC;rw[ak (by omega),av ⟨by omega,by omega,by omega⟩,av (by omega)]at hD;rw[<-hD,ak (by simp)]
     ·rw[ak dC];rw[sA]at dC;simp only[fb,List.map_nil,Je]at dC;rcases sB with⟨c,e⟩|⟨c1,c2,c3,cv,e⟩|⟨c1,c2,c3,c4,cv,cs,e⟩|⟨c1,c2,c3,c4,c5,cv,cw,e⟩|e
      ·exfalso;omega
      ·exfalso;apply dC;exact⟨by omega,by omega,by omega,by omega,by omega⟩
      ·exfalso;omega
      ·exfalso;omega
      ·rw[e];rfl
   ·have hm:fR (s.getD 0 0).toNat=1:=by unfold fR;rw[ak jo,ak lJ,ak qo]
    have hn:ic (s.getD 0 0).toNat=(s.getD 0 0).toNat:=by unfold ic;rw[ak jo,ak lJ,ak qo]
    rw[hm,hn];rw[ak (show ¬s.length<1 by omega),takeA s hl];simp only[List.drop_succ_cons,ej,mg];by_cases dC:(jm (s.getD 0 0).toNat&&(ia (s.getD 0 0).toNat==[s.getD 0 0]))=true
    ·rw[av dC];rw[sA]at dC;simp only[fb,List.map_nil,Jd]at dC;rw[av (by omega)]at hD;rw[<-hD,ak (by simp only;omega)]
    ·rw[ak dC];rw[sA]at dC;simp only[fb,List.map_nil,Jd]at dC;rcases sB with⟨c,e⟩|⟨c1,c2,c3,cv,e⟩|⟨c1,c2,c3,c4,cv,cs,e⟩|⟨c1,c2,c3,c4,c5,cv,cw,e⟩|e
     ·exfalso;simp only[and_true]at dC;omega
     ·exfalso;omega
     ·exfalso;omega
     ·exfalso;omega
     ·rw[e];rfl
theorem VU(s:List UInt8)(hne:s≠[]):(fk s).2<=s.length:=by
 unfold fk;split
 ·exact cU _
 ·split
  ·rename_i h1 h2;exact Nat.le_of_not_lt h1
  ·exact cU _
theorem Xn:∀(m f:Nat)(s:List UInt8)(out:List Int),s.length<=m->s.length<=1048576->out.length+s.length<=1048576->
 ∃r,M.py (f+m+1) s out=some r/\(match r with|.inl a=>a.1=false/\validGoD m s=false|.inr _=>validGoD m s=true)
 |0,f,s,out,hm,hs,ho=>by
  have e:s=[]:=iU (by omega);subst e;exact⟨.inr out,rfl,rfl⟩
 |m+1,f,s,out,hm,hs,ho=>by
  rw[show f+(m+1)+1=(f+m+1)+1 by omega,M.py];by_cases hne:s=[]
  ·subst hne;exact⟨.inr out,rfl,rfl⟩
  ·have hl:0<s.length:=List.length_pos_iff.2 hne;have d:decide ((0:Int)<(s.length:Int))=true:=aY (by omega);rw[d,VT s hne hs];simp only[aA,aS,aU,aP,bQ,dm,dz];have hp:=VR s hne;have hle:=VU s hne;have hv:validGoD (m+1) s=if(decodeL s).1=65533/\(decodeL s).2=1 then false else validGoD m (s.drop (decodeL s).2):=by
    rw[validGoD,ak hne]
   by_cases hb:(decodeL s).1=65533/\(decodeL s).2=1
   ·rw[av hb]at hp hv;rw[hp];exact⟨.inl (false,[]),rfl,rfl,hv⟩
   ·rw[ak hb]at hp hv;have hw:=decodeL_width s;rw[<-hp]at hv hw;have d0:(((fk s).2:Int)==0)=false:=by rw[kF];omega
    have hsl:bK ((fk s).2:Int) (s.length:Int) s.length=true:=by unfold bK;simp;omega
    have hlen:decide (out.length+1<=1073741824)=true:=aY (by omega);rw[d0,hsl,hlen];simp only[aR,aA,fE,cN,uJ];have hdl:(s.drop (fk s).2).length=s.length-(fk s).2:=List.length_drop;obtain⟨r,h1,h2⟩:=Xn m f (s.drop (fk s).2) (out++[((fk s).1:Int)]) (by omega) (by omega) (by rw[cL];simp;omega);refine⟨r,h1,?_⟩;rw[hv];exact h2
def gm(s:List UInt8):Bool:=decide (s.length<=24)&&validD s
theorem akd(s:List UInt8)(hs:s.length<=1048576):M.wj s=some (gm s):=by
 unfold M.wj gm;by_cases h:s.length<=24
 ·have d:decide ((24:Int)<(s.length:Int))=false:=bU (by omega);rw[d,aY h];obtain⟨f,hf⟩:∃f,ah=f+s.length+1:=⟨ah-(s.length+1),by have:=fj hs;omega⟩;obtain⟨r,h1,h2⟩:=Xn s.length f s [] (bj _) hs (by simp;omega);have e:∀r,M.py (f+s.length+1) s []=some r->M.nH s=(match r with|.inl a=>some (a.2,a.1)|.inr b=>some (b,true)):=fun r h=>by
   unfold M.nH;rw[hf,h];cases r<;>rfl
  have e:=e r h1;cases r with
  |inl a=>
   simp only at h2 e;rw[e];simp only[aR,aU,aP,aA,aS,bI,h2.1];exact m5 some h2.2.symm
  |inr b=>
   simp only at h2 e;rw[e];simp only[aR,aU,aP,aA,aS,bI];exact m5 some h2.symm
 ·have d:decide ((24:Int)<(s.length:Int))=true:=aY (by omega);rw[d,bU h];rfl
theorem ake(s:List UInt8)(hs:s.length<=1048576):M.wu s=some (gm s):=by
 have e:M.ru s=some (validD s):=by
  unfold M.ru;rw[aY (show s.length<=9223372036854775807 by omega)];rfl
 have d:decide ((s.length:Int)<=24)=decide (s.length<=24):=by congr 1;exact propext ⟨fun h=>by omega,fun h=>by omega⟩
 unfold M.wu gm;rw[e,d];rfl
end M
namespace M
open Go.V (inB bK ah cH)
theorem ae.Xo{a:ae}{N:Nat}(h:a.sz<=N):a.Text.length<=N:=by rw[ae.dV]at h;omega
theorem ae.jk{a:ae}{N:Nat}(h:a.sz<=N):aZ ae.sz a.Kids<=N:=by rw[ae.dV]at h;omega
theorem ae.fi{a:ae}{N:Nat}(h:a.sz<=N):a.Kids.length<=N:=fD (fx _ _) (ae.jk h)
theorem ae.cZ{a x:ae}(h:x∈a.Kids):x.sz<a.sz:=by
 rw[ae.dV a];have:=jV ae.sz _ _ h;omega
def kM(k:Int):Int×Int:=
 if k=3 then(0,255)else if k=4 then(-128,127)else if k=5 then(0,65535)else if k=6 then(-32768,32767)else if k=7 then(0,4294967295)else if k=8 then(-2147483648,2147483647)
 else if k=9 then(-9223372036854775808,9223372036854775807)else(0,0)
def JF(n:Int):Bool:=(decide ((0:Int)<=n)&&decide (n<=(55295:Int)))||(decide ((57344:Int)<=n)&&decide (n<=(1114111:Int)))
def EL(t:aa):Int:=Go.IntKind.wrap .i64 (Go.V.lr .i64 (1:Int) (t.bp.length:Int)-1)
def so(t:aa):Int:=
 if t.Kind=17\/t.Kind=18 then Go.IntKind.wrap .i64 ((t.bp.length:Int)-1)else if t.Kind=19 then EL t
 else if t.Kind=20\/t.Kind=21\/t.Kind=22\/t.Kind=23 then 2147483647 else 0
def fQ(n:Int)(t:aa):Bool:=
 if t.Kind=2\/t.Kind=13\/t.Kind=14 then decide ((0:Int)<=n)&&decide (n<=(1:Int))
 else if 3<=t.Kind/\t.Kind<=9 then decide ((kM t.Kind).1<=n)&&decide (n<=(kM t.Kind).2)
 else if t.Kind=10 then JF n
 else decide ((0:Int)<=n)&&decide (n<=so t)
def i3(t:aa):List aa:=if i4 t then[]else[t]
def kT(n:Int)(len:Nat)(t:aa):Option (List aa):=
 if t.Kind=12 then some (List.replicate (min len 8) (t.Kids.getD 0 aa.zero))
 else if t.Kind=15\/t.Kind=16 then some t.Kids
 else if t.Kind=13 then(if n=0 then some []else if n=1 then some (i3 (t.Kids.getD 0 aa.zero))else none)
 else if t.Kind=14\/t.Kind=17 then(if 0<=n/\n<(t.Kids.length:Int)then some (i3 (t.Kids.getD n.toNat aa.zero))else none)
 else some []
def headB(k n:Int)(x:List UInt8)(t:aa):Bool:=(((k==t.Kind)&&fQ n t)&&(x==[]||t.Kind==11))&&gm x
mutual
def ct:ae->aa->Bool
 |.mk k n x kids,t=>headB k n x t&&(match kT n kids.length t with
   |some ts=>decide (ts.length=kids.length)&&iZ kids ts
   |none=>false)
def iZ:List ae->List aa->Bool
 |[],_=>true
 |v::r,ts=>ct v (ts.headD aa.zero)&&iZ r ts.tail
end
theorem ED(v:ae)(t:aa):ct v t=(headB v.Kind v.Num v.Text t&&(match kT v.Num v.Kids.length t with
 |some ts=>decide (ts.length=v.Kids.length)&&iZ v.Kids ts
 |none=>false)):=by cases v;rfl
theorem EF:∀(a:List ae)(b:List aa),b.length=a.length->iZ a b=(List.range a.length).all fun k=>ct (a.getD k ae.zero) (b.getD k aa.zero)
 |[],_,_=>rfl
 |v::r,[],h=>by simp at h
 |v::r,t::ts,h=>by
  rw[iZ,List.headD_cons,List.tail_cons,EF r ts (by simpa using h),bQ,List.range_succ_eq_map,List.all_cons,List.all_map];rfl
theorem Jl(t:aa):∀(a:List ae)(n:Nat),n=a.length->iZ a (List.replicate n t)=a.all fun v=>ct v t
 |[],_,_=>rfl
 |v::r,n,h=>by
  subst h;rw[bQ,List.replicate_succ,iZ,List.headD_cons,List.tail_cons,Jl t r r.length rfl,List.all_cons]
theorem kb{a b:Int}(h:a≠b):(a==b)=false:=by rw[kF];exact h
theorem kt{a b:Int}(h:a=b):(a==b)=true:=by rw[h];exact mc b
theorem Xp(k:Int):∃b,M.nJ k=some ((kM k).1,(kM k).2,b):=by
 unfold M.nJ kM;by_cases h3:k=3
 ·subst h3;exact⟨true,rfl⟩
 by_cases h4:k=4
 ·subst h4;exact⟨true,rfl⟩
 by_cases h5:k=5
 ·subst h5;exact⟨true,rfl⟩
 by_cases h6:k=6
 ·subst h6;exact⟨true,rfl⟩
 by_cases h7:k=7
 ·subst h7;exact⟨true,rfl⟩
 by_cases h8:k=8
 ·subst h8;exact⟨true,rfl⟩
 by_cases h9:k=9
 ·subst h9;exact⟨true,rfl⟩
 exact⟨false,by simp[h3,h4,h5,h6,h7,h8,h9,kb h3,kb h4,kb h5,kb h6,kb h7,kb h8,kb h9]⟩
theorem Xq(k:Int):∃b,M.zh k=some ((kM k).1,(kM k).2,b):=Xp k
theorem akf{k:Int}(h:¬(3<=k/\k<=9)):kM k=(0,0):=by
 unfold kM;rw[ak (by omega),ak (by omega),ak (by omega),ak (by omega),ak (by omega),ak (by omega),ak (by omega)]
theorem akg(v:ae)(t:aa):M.wq v t=some (fQ v.Num t):=by
 unfold M.wq fQ;by_cases h1:t.Kind=2\/t.Kind=13\/t.Kind=14
 ·rw[av h1];rcases h1 with h|h|h<;>simp[h]
 ·rw[ak h1];simp only[qp]at h1;obtain⟨a2,a13,a14⟩:=h1;simp only[kb a2,kb a13,kb a14,aR];by_cases h2:3<=t.Kind/\t.Kind<=9
  ·rw[av h2];obtain⟨b,e⟩:=Xp t.Kind;have:(bif t.Kind==3 then t.Kind==3 else bif t.Kind==4 then t.Kind==4 else bif t.Kind==5 then t.Kind==5 else bif t.Kind==6 then t.Kind==6 else bif t.Kind==7 then t.Kind==7 else bif t.Kind==8 then t.Kind==8 else t.Kind==9)=true:=by
    have:t.Kind=3\/t.Kind=4\/t.Kind=5\/t.Kind=6\/t.Kind=7\/t.Kind=8\/t.Kind=9:=by omega
    rcases this with h|h|h|h|h|h|h<;>simp[h]
   rw[this,e];rfl
  ·rw[ak h2];have:(bif t.Kind==3 then t.Kind==3 else bif t.Kind==4 then t.Kind==4 else bif t.Kind==5 then t.Kind==5 else bif t.Kind==6 then t.Kind==6 else bif t.Kind==7 then t.Kind==7 else bif t.Kind==8 then t.Kind==8 else t.Kind==9)=false:=by
    simp only[kb (show t.Kind≠3 by omega),kb (show t.Kind≠4 by omega),kb (show t.Kind≠5 by omega),kb (show t.Kind≠6 by omega),kb (show t.Kind≠7 by omega),kb (show t.Kind≠8 by omega),kb (show t.Kind≠9 by omega),aR]
   rw[this];simp only[aR];by_cases h3:t.Kind=10
   ·rw[av h3,kt h3];rfl
   ·rw[ak h3,kb h3];simp only[aR];unfold so EL;by_cases h4:t.Kind=17
    ·simp[h4]
    by_cases h5:t.Kind=18
    ·simp[h5]
    by_cases h6:t.Kind=19
    ·simp[h6]
    by_cases h7:t.Kind=20
    ·simp[h7]
    by_cases h8:t.Kind=21
    ·simp[h8]
    by_cases h9:t.Kind=22
    ·simp[h9]
    by_cases h10:t.Kind=23
    ·simp[h10]
    simp[h4,h5,h6,h7,h8,h9,h10,kb h4,kb h5,kb h6,kb h7,kb h8,kb h9,kb h10]
theorem Ap{t:aa}(h:bw t=true):(t.Kind=12->t.Kids.length=1)/\(t.Kind=13->t.Kids.length=1/\i4 (t.Kids.getD 0 aa.zero)=false)/\(t.Kind=14->t.Kids.length=2)/\(t.Kind=17->t.Kids.length=t.bp.length):=by
 rw[oH]at h;simp only[aW]at h;have hk:=h.1;unfold jD at hk;simp only[aW]at hk;have hk:=hk.2;unfold sj at hk;refine⟨fun e=>?_,fun e=>?_,fun e=>?_,fun e=>?_⟩
 ·rw[av (.inl e)]at hk;simp at hk;exact hk.1
 ·rw[av (.inr e)]at hk;simp only[aW,kK,ib]at hk;refine⟨hk.1,?_⟩;have hl:0<t.Kids.length:=by omega
  rw[getD_lt hl];have:=List.any_eq_false.1 hk.2 _ (bC hl);simpa using this
 ·rw[ak (by omega),av e]at hk;simp at hk;exact hk
 ·rw[ak (by omega),ak (by omega),ak (by omega),ak (by omega),av e]at hk;simp at hk;exact hk
theorem V3(t:aa)(n:Int)(hl:t.Kids.length<=1048576)(h:t.Kind≠13):M.k7 t n=some (if 0<=n/\n<(t.Kids.length:Int)then(t.Kids.getD n.toNat aa.zero,true)else(.mk 0 [] [] [],false)):=by
 unfold M.k7;rw[kb h,wrap_i64 (show(-9223372036854775808:Int)<=(t.Kids.length:Int)-1 by omega) (by omega)];simp only[aR];by_cases hn:0<=n/\n<(t.Kids.length:Int)
 ·rw[av hn,aY hn.1,aY (show n<=(t.Kids.length:Int)-1 by omega)];have hin:inB n t.Kids.length=true:=by unfold inB;rw[aY hn.1,aY hn.2];rfl
  rw[hin,aa.aO];rfl
 ·rw[ak hn];have:(decide ((0:Int)<=n)&&decide (n<=(t.Kids.length:Int)-1))=false:=by
   rw[Bool.and_eq_false_iff];by_cases h0:0<=n
   ·right;exact bU (by omega)
   ·left;exact bU h0
  rw[this];rfl
theorem V2(t:aa)(n:Int)(h:t.Kind=13)(hk:t.Kids.length=1)(hn:n=0\/n=1):M.k7 t n=some (if n=0 then(.mk 1 [] [] [],true)else(t.Kids.getD 0 aa.zero,true)):=by
 unfold M.k7;rw[kt h,hk];rcases hn with rfl|rfl
 ·rfl
 ·have:Go.IntKind.wrap .i64 ((1:Int)-1)=0:=by decide
  have h2:Go.IntKind.wrap .i64 (((1:Nat):Int)-1)=0:=by decide
  rw[this,h2,aa.aO];rfl
theorem akj(v:ae)(t:aa)(hv:v.sz<=1048576)(ht:t.sz<=1048576)(hs:bw t=true)(hn:fQ v.Num t=true):
 ∃l,M.wv v t=some (l,(kT v.Num v.Kids.length t).isSome)/\∀ts,kT v.Num v.Kids.length t=some ts->l=ts:=by
 obtain⟨s12,s13,s14,EW⟩:=Ap hs;have hl:=ae.fi hv;have hl2:=aa.fi ht;unfold M.wv kT;by_cases h12:t.Kind=12
 ·rw[av h12,kt h12];have hk:=s12 h12;have e:M.rx t.Kids (bif decide ((8:Int)<(v.Kids.length:Int))then 8 else(v.Kids.length:Int))=some (List.replicate (min v.Kids.length 8) (t.Kids.getD 0 aa.zero)):=by
   have e1:(bif decide ((8:Int)<(v.Kids.length:Int))then(8:Int)else(v.Kids.length:Int))=((min v.Kids.length 8:Nat):Int):=by
    by_cases h:(8:Int)<(v.Kids.length:Int)
    ·rw[aY h,aA];omega
    ·rw[bU h,aR];omega
   rw[e1];unfold M.rx;rw[aY hk,aY (show(0:Int)<=((min v.Kids.length 8:Nat):Int) by omega),aY (show((min v.Kids.length 8:Nat):Int)<=8 by omega),cN];rfl
  rw[e];exact⟨_,rfl,fun ts h=>fe h⟩
 ·rw[ak h12,kb h12];simp only[aR];by_cases h15:t.Kind=15\/t.Kind=16
  ·rw[av h15];have:(bif t.Kind==15 then t.Kind==15 else t.Kind==16)=true:=by rcases h15 with h|h<;>simp[h]
   rw[this];exact⟨_,rfl,fun ts h=>fe h⟩
  ·rw[ak h15];simp only[qp]at h15;simp only[kb h15.1,kb h15.2,aR];by_cases h13:t.Kind=13
   ·rw[av h13];simp only[kt h13,aA];obtain⟨k1,k2⟩:=s13 h13;have Xr:v.Num=0\/v.Num=1:=by
     unfold fQ at hn;rw[av (.inr (.inl h13))]at hn;simp only[aW,bm]at hn;omega
    rw[aa.aO,V2 t v.Num h13 k1 Xr];rcases Xr with e|e
    ·rw[e];exact⟨[],rfl,fun ts h=>fe h⟩
    ·rw[e];have hku:((t.Kids.getD 0 aa.zero).Kind==1)=false:=k2;have ho:i3 (t.Kids.getD 0 aa.zero)=[t.Kids.getD 0 aa.zero]:=by unfold i3;rw[k2];rfl
     rw[ak (by decide),ak (by decide),av rfl,ho];simp only[aS,hku,aR,aU,fE,aA,aa.aO];exact⟨_,rfl,fun ts h=>fe h⟩
   ·rw[ak h13];by_cases i5:t.Kind=14\/t.Kind=17
    ·rw[av i5];have:(bif t.Kind==13 then t.Kind==13 else bif t.Kind==14 then t.Kind==14 else t.Kind==17)=true:=by rcases i5 with h|h<;>simp[h]
     rw[this,aa.aO,V3 t v.Num hl2 h13];by_cases hb:0<=v.Num/\v.Num<(t.Kids.length:Int)
     ·rw[av hb,av hb];unfold i3 i4;cases hu:((t.Kids.getD v.Num.toNat aa.zero).Kind==1)
      ·simp only[aS,hu,aR,aA,aU,fE,aa.aO];exact⟨_,rfl,fun ts h=>fe h⟩
      ·simp only[aS,hu,aR,aA,aU,fE,aa.aO];exact⟨_,rfl,fun ts h=>fe h⟩
     ·rw[ak hb,ak hb];exact⟨_,rfl,fun ts h=>by cases h⟩
    ·rw[ak i5];simp only[qp]at i5;simp only[kb h13,kb i5.1,kb i5.2,aR];exact⟨_,rfl,fun ts h=>fe h⟩
theorem akl{n:Int}{len:Nat}{t:aa}(hs:bw t=true){ts:List aa}(h:kT n len t=some ts):∀x∈ts,bw x=true:=by
 have hkids:∀x∈t.Kids,bw x=true:=by
  rw[oH,aW,xX,fg]at hs;exact hs.2
 obtain⟨s12,s13,s14,EW⟩:=Ap hs;have hone:∀k,k<t.Kids.length->∀x∈i3 (t.Kids.getD k aa.zero),bw x=true:=fun k hk x hx=>by
  unfold i3 at hx;split at hx
  ·cases hx
  ·rw[uU]at hx;subst hx;rw[getD_lt hk];exact hkids _ (bC hk)
 unfold kT at h;split at h
 ·rename_i h12;simp only[ar]at h;subst h;intro x hx;rw[(List.mem_replicate.1 hx).2,getD_lt (by rw[s12 h12];omega)];exact hkids _ (bC _)
 ·split at h
  ·simp only[ar]at h;subst h;exact hkids
  ·split at h
   ·rename_i h13;split at h
    ·simp only[ar]at h;subst h;intro x hx;cases hx
    ·split at h
     ·simp only[ar]at h;subst h;exact hone 0 (by rw[(s13 h13).1];omega)
     ·cases h
   ·split at h
    ·split at h
     ·rename_i hb;simp only[ar]at h;subst h;exact hone _ (by omega)
     ·cases h
    ·simp only[ar]at h;subst h;intro x hx;cases hx
theorem akm{n:Int}{len:Nat}{t:aa}(hs:bw t=true)(ht:t.sz<=1048576){ts:List aa}(h:kT n len t=some ts):∀x∈ts,x.sz<=1048576:=by
 obtain⟨s12,s13,s14,EW⟩:=Ap hs;have hkids:∀x∈t.Kids,x.sz<=1048576:=fun x hx=>by have:=aa.cZ hx;omega
 have hone:∀k,k<t.Kids.length->∀x∈i3 (t.Kids.getD k aa.zero),x.sz<=1048576:=fun k hk x hx=>by
  unfold i3 at hx;split at hx
  ·cases hx
  ·rw[uU]at hx;subst hx;rw[getD_lt hk];exact hkids _ (bC hk)
 unfold kT at h;split at h
 ·rename_i h12;simp only[ar]at h;subst h;intro x hx;rw[(List.mem_replicate.1 hx).2,getD_lt (by rw[s12 h12];omega)];exact hkids _ (bC _)
 ·split at h
  ·simp only[ar]at h;subst h;exact hkids
  ·split at h
   ·rename_i h13;split at h
    ·simp only[ar]at h;subst h;intro x hx;cases hx
    ·split at h
     ·simp only[ar]at h;subst h;exact hone 0 (by rw[(s13 h13).1];omega)
     ·cases h
   ·split at h
    ·split at h
     ·rename_i hb;simp only[ar]at h;subst h;exact hone _ (by omega)
     ·cases h
    ·simp only[ar]at h;subst h;intro x hx;cases hx
theorem Wc:∀(m:Nat)(v:ae)(t:aa),v.sz<m->v.sz<=1048576->t.sz<=1048576->bw t=true->M.nL m v t=some (ct v t)
 |0,v,t,h,_,_,_=>absurd h (eB _)
 |m+1,v,t,h,hv,ht,hs=>by
  have hl:=ae.fi hv
  show M.zk (M.nL m) v t=_
  unfold M.zk;rw[ae.aO,aa.aO,akg,ake _ (ae.Xo hv),ED];simp only[aS,aU,gR,aP,aA,m6];have hhead:headB v.Kind v.Num v.Text t= !(((!(v.Kind==t.Kind))||(!fQ v.Num t)||((!(v.Text==[]))&&(!(t.Kind==11))))||(!gm v.Text)):=by
   unfold headB;cases (v.Kind==t.Kind)<;>cases fQ v.Num t<;>cases (v.Text==[])<;>cases (t.Kind==11)<;>cases gm v.Text<;>rfl
  cases hb:(((!(v.Kind==t.Kind))||(!fQ v.Num t)||((!(v.Text==[]))&&(!(t.Kind==11))))||(!gm v.Text))
  ·rw[hhead,hb];have hn:fQ v.Num t=true:=by
    simp only[EX,Bool.not_eq_false']at hb;exact hb.1.1.2
   obtain⟨l,e1,e2⟩:=akj v t hv ht hs hn;rw[e1];simp only[aR,aS,aU,uS,bI];cases hk:kT v.Num v.Kids.length t with
   |none=>rfl
   |some ts=>
    have:=e2 ts hk;subst this;simp only[aU,mV,uM];by_cases hlen:l.length=v.Kids.length
    ·have:((l.length:Int)==(v.Kids.length:Int))=true:=by rw[kK];omega
     rw[this,aY hlen];have hloop:=xY (p:=fun k=>ct (v.Kids.getD k ae.zero) (l.getD k aa.zero)) (F:=fun f i=>M.nK (M.nL m) l v.Kids (v.Kids.length:Int) f i) (e:=()) (b:=false) v.Kids.length (by omega) (fun f k hk2=>by
      show M.nK (M.nL m) l v.Kids (v.Kids.length:Int) (f+1) (k:Int)=_
      rw[M.nK];have hx:=ae.cZ (bC hk2);have hkl:k<l.length:=by omega
      have hx2:=akm hs ht hk l[k] (bC hkl);have hx3:=akl hs hk l[k] (bC hkl);simp only[aa.aO,ae.aO,getD_lt hk2,getD_lt hkl,Wc m v.Kids[k] l[k] (by omega) (by omega) hx2 hx3,cN,cB,cO,hk2,hkl,cr,aA,gR,bI,aP,cm hk2 (by omega:v.Kids.length<2^62),aS,aU];cases ct v.Kids[k] l[k]<;>rfl) (fun f=>by
      show M.nK (M.nL m) l v.Kids (v.Kids.length:Int) (f+1) _=_
      rw[M.nK];simp)
     have akn:M.nK (M.nL m) l v.Kids (v.Kids.length:Int) ah 0=_:=hloop;rw[akn,EF _ _ hlen];cases (List.range v.Kids.length).all fun k=>ct (v.Kids.getD k ae.zero) (l.getD k aa.zero)<;>rfl
    ·have:((l.length:Int)==(v.Kids.length:Int))=false:=by rw[kF];omega
     rw[this,bU hlen];rfl
  ·rw[hhead,hb];rfl
end M
namespace M
open Go.V (inB bK ah cH)
theorem ako:gm []=true:=rfl
section
variable {rec :ae->aa->Option Bool}{kids:List ae}
theorem Xs(most:Int)(t:aa)(hl:kids.length<=1048576)(hr:∀x∈kids,rec x t=some (ct x t)):
 M.tH rec kids most t=some (decide ((kids.length:Int)<=most)&&kids.all fun v=>ct v t):=by
 have e:=W7 (p:=fun v=>ct v t) (F:=fun f i=>M.nG rec kids f i t) (e:=()) (b:=false) kids (by omega) (fun f k hk=>by
  show M.nG rec kids (f+1) (k:Int) t=_
  rw[M.nG];simp only[aa.aO,ae.aO,getD_lt hk,hr _ (bC hk),cN,cB,cO,hk,cr,aA,gR,bI,aP,cm hk (by omega:kids.length<2^62),aS,aU];cases ct kids[k] t<;>rfl) (fun f=>by
  show M.nG rec kids (f+1) _ t=_
  rw[M.nG];simp)
 have e':M.nG rec kids ah 0 t=_:=e;unfold M.tH;rw[aa.aO,e'];by_cases h:(kids.length:Int)<=most
 ·rw[aY h,bU (show ¬most<(kids.length:Int) by omega)];cases kids.all fun v=>ct v t<;>rfl
 ·rw[bU h,aY (show most<(kids.length:Int) by omega)];rfl
theorem akp(ts:List aa)(hl:kids.length<=1048576)(hr:∀k,k<kids.length->k<ts.length->rec (kids.getD k ae.zero) (ts.getD k aa.zero)=some (ct (kids.getD k ae.zero) (ts.getD k aa.zero))):
 M.wk rec kids ts=some (decide (ts.length=kids.length)&&iZ kids ts):=by
 unfold M.wk;by_cases hlen:ts.length=kids.length
 ·have e:=xY (p:=fun k=>ct (kids.getD k ae.zero) (ts.getD k aa.zero)) (F:=fun f i=>M.nI rec kids ts f i) (e:=()) (b:=false) kids.length (by omega) (fun f k hk=>by
   show M.nI rec kids ts (f+1) (k:Int)=_
   rw[M.nI];have hk2:k<ts.length:=by omega
   simp only[aa.aO,ae.aO,cN,hr k hk hk2,cB,cO,hk,hk2,cr,aA,gR,bI,aP,cm hk (by omega:kids.length<2^62),aS,aU];cases ct (kids.getD k ae.zero) (ts.getD k aa.zero)<;>rfl) (fun f=>by
   show M.nI rec kids ts (f+1) _=_
   rw[M.nI];simp)
  have e':M.nI rec kids ts ah 0=_:=e;have hne:((kids.length:Int) !=(ts.length:Int))=false:=by rw[m6,hlen];simp
  rw[hne,e',aY hlen,EF _ _ hlen];cases (List.range kids.length).all fun k=>ct (kids.getD k ae.zero) (ts.getD k aa.zero)<;>rfl
 ·have hne:((kids.length:Int) !=(ts.length:Int))=true:=by rw[m6,kb (show(kids.length:Int)≠(ts.length:Int) by omega)];rfl
  rw[hne,bU hlen];rfl
theorem Xt(t:aa)(hl:kids.length<=1048576)(hr:∀x∈kids,rec x t=some (ct x t)):
 M.tG rec kids t=some (decide ((i3 t).length=kids.length)&&iZ kids (i3 t)):=by
 unfold M.tG i3 i4;cases hu:(t.Kind==1)
 ·simp only[aR,j9,eN,aa.aO,ae.aO,Int.toNat_zero]
  match kids,hr with
  |[],_=>
    have h1:((([]:List ae).length:Int)==1)=false:=rfl;rw[h1];simp[iZ]
  |[x],hr=>
    have:=hr x (uU.2 rfl);simp only[List.getD_cons_zero,this];simp[inB,iZ]
  |x::y::r,_=>
   have h1:(((x::y::r).length:Int)==1)=false:=kb (by simp only[bQ];omega);have h2:decide ([t].length=(x::y::r).length)=false:=bU (by simp);rw[h1,h2];simp
 ·simp only[aA,gv]
  match kids with
  |[]=>rfl
  |x::r=>
   have h1:(((x::r).length:Int)==0)=false:=kb (by simp only[bQ];omega);have h2:decide (([]:List aa).length=(x::r).length)=false:=bU (by simp);rw[h1,h2];rfl
end
theorem len0(l:List ae):((l.length:Int)==0)=decide (([]:List aa).length=l.length):=by
 cases l with
 |nil=>rfl
 |cons a r=>rw[kb (by simp only[bQ];omega),bU (by simp)]
theorem akq(l:List ae):(decide (([]:List aa).length=l.length)&&iZ l [])=decide (([]:List aa).length=l.length):=by
 cases l with
 |nil=>rfl
 |cons a r=>rw[bU (by simp)];rfl
theorem akr(n:Nat)(h:n<=1048576):Go.IntKind.wrap .u64 (n:Int)=(n:Int):=Go.IntWalk.u64_in _ (by omega)
theorem EY(l:List ae):(decide (([]:List aa).length=l.length)&&iZ l [])=((l.length:Int)==0):=by rw[akq,len0]
theorem JZ(n:Int):(decide ((0:Int)<=n)&&decide (n<=(0:Int)))=(n==0):=by
 by_cases h:n=0
 ·rw[h];rfl
 ·rw[kb h,Bool.and_eq_false_iff];by_cases h0:(0:Int)<=n
  ·right;exact bU (by omega)
  ·left;exact bU h0
section
variable {rec :ae->aa->Option Bool}
theorem aks(v:ae)(t:aa)(hv:v.sz<=1048576)(ht:t.sz<=1048576)(hs:bw t=true)
 (hrec:∀x∈v.Kids,∀y∈t.Kids,rec x y=some (ct x y)) (hk:v.Kind=t.Kind) (htx:t.Kind≠11) (hte:v.Text=[]):
 M.pz rec v t=some (fQ v.Num t&&(match kT v.Num v.Kids.length t with
 |some ts=>decide (ts.length=v.Kids.length)&&iZ v.Kids ts
 |none=>false)):=by
 have hl:=ae.fi hv;have hl2:=aa.fi ht;have hlab:=aa.ajO ht;obtain⟨s12,s13,s14,EW⟩:=Ap hs;have EZ:∀k,k<t.Kids.length->∀x∈v.Kids,rec x (t.Kids.getD k aa.zero)=some (ct x (t.Kids.getD k aa.zero)):=fun k hk x hx=>by
  rw[getD_lt hk];exact hrec x hx _ (bC hk)
 unfold M.pz;simp only[aa.aO,ae.aO,m6,kt hk,hte,mc,mV,Bool.and_false,hU,aR];by_cases h2:t.Kind=2
 ·unfold fQ kT;simp only[h2,Int.reduceBEq,Int.reduceEq,aA,aR,hU,or_self,true_or,or_true,kC,false_or,gv,eN,EY];cases (decide ((0:Int)<=v.Num)&&decide (v.Num<=(1:Int)))<;>rfl
 by_cases i5:t.Kind=14
 ·unfold fQ kT;simp only[i5,Int.reduceBEq,Int.reduceEq,aA,aR,hU,uC,kJ,gR,or_self,true_or,or_true,kC,false_or,gv,eN];by_cases hn:(decide ((0:Int)<=v.Num)&&decide (v.Num<=(1:Int)))=true
  ·rw[hn];simp only[aW,bm]at hn;have hk2:=s14 i5;have hin:inB v.Num t.Kids.length=true:=by unfold inB;rw[aY hn.1,aY (by omega)];rfl
   rw[Xt (t.Kids.getD v.Num.toNat aa.zero) hl (EZ _ (by omega)),hin,av (show 0<=v.Num/\v.Num<(t.Kids.length:Int) by omega)];simp
  ·simp only[uQ]at hn;rw[hn];rfl
 by_cases h13:t.Kind=13
 ·unfold fQ kT;simp only[h13,Int.reduceBEq,Int.reduceEq,aA,aR,hU,uC,kJ,gR,or_self,true_or,or_true,kC,false_or,gv,eN];obtain⟨k1,k2⟩:=s13 h13;have hin:inB (0:Int) t.Kids.length=true:=by rw[k1];rfl
  have ho:i3 (t.Kids.getD 0 aa.zero)=[t.Kids.getD 0 aa.zero]:=by unfold i3;rw[k2];rfl
  rw[Int.toNat_zero,Xs 1 (t.Kids.getD 0 aa.zero) hl (EZ 0 (by omega)),hin,ho];simp only[aU,gR,fE,aA,aS];congr 1
  match hkk:v.Kids with
  |[]=>
    by_cases hn:v.Num=0
    ·rw[hn];rfl
    ·rw[kb (show v.Num≠((([]:List ae).length:Nat):Int) by simpa using hn)];rw[ak hn];by_cases h1:v.Num=1
     ·rw[av h1];simp
     ·rw[ak h1];simp
  |[x]=>
    by_cases hn:v.Num=1
    ·rw[hn];simp[iZ]
    ·rw[kb (show v.Num≠((([x]:List ae).length:Nat):Int) by simpa using hn)];by_cases h1:v.Num=0
     ·rw[av h1];simp
     ·rw[ak h1,ak hn];simp
  |x::y::r=>
   have e1:decide ((((x::y::r).length:Nat):Int)<=1)=false:=bU (by simp only[bQ];omega);rw[e1];by_cases h0:v.Num=0
   ·rw[av h0];simp
   ·rw[ak h0];by_cases h1:v.Num=1
    ·rw[av h1];simp
    ·rw[ak h1];simp
 by_cases h10:t.Kind=10
 ·unfold fQ kT;have hc:M.jv v.Num=some (JF v.Num):=rfl;simp only[h10,hc,Int.reduceBEq,Int.reduceEq,Int.reduceLE,aA,aR,hU,or_self,true_or,or_true,kC,false_or,and_false,and_true,gv,eN,EY,aS]
 by_cases h12:t.Kind=12
 ·unfold fQ kT so;simp only[h12,Int.reduceBEq,Int.reduceEq,Int.reduceLE,aA,aR,hU,uC,kJ,gR,or_self,true_or,or_true,kC,false_or,and_false,and_true,gv,eN,JZ];have k1:=s12 h12;have hin:inB (0:Int) t.Kids.length=true:=by rw[k1];rfl
  rw[Int.toNat_zero,Xs 8 (t.Kids.getD 0 aa.zero) hl (EZ 0 (by omega)),hin];simp only[aU,gR,fE,aA,aS,gj];by_cases h8:v.Kids.length<=8
  ·rw[aY (show(v.Kids.length:Int)<=8 by omega),aY (show min v.Kids.length 8=v.Kids.length by omega),Jl _ _ _ (show min v.Kids.length 8=v.Kids.length by omega)]
  ·rw[bU (show ¬(v.Kids.length:Int)<=8 by omega),bU (show ¬min v.Kids.length 8=v.Kids.length by omega)];rfl
 by_cases h15:t.Kind=15\/t.Kind=16
 ·have e:=akp (rec:=rec) (kids:=v.Kids) t.Kids hl (fun k h1 h2=>by rw[getD_lt h1,getD_lt h2];exact hrec _ (bC h1) _ (bC h2));unfold fQ kT so;rcases h15 with h|h
  all_goals
   simp only[h,e,Int.reduceBEq,Int.reduceEq,Int.reduceLE,aA,aR,hU,uC,kJ,gR,or_self,true_or,or_true,kC,false_or,and_false,and_true,gv,eN,JZ,aU,fE,aS]
 by_cases h17:t.Kind=17
 ·unfold fQ kT so;obtain⟨b,er⟩:=Xq t.Kind;simp only[h17]at er;simp only[h17,er,Int.reduceBEq,Int.reduceEq,Int.reduceLE,aA,aR,hU,uC,kJ,gR,or_self,true_or,or_true,kC,false_or,and_false,and_true,gv,eN,aU];have k1:=EW h17;have hw:Go.IntKind.wrap .i64 ((t.bp.length:Int)-1)=(t.bp.length:Int)-1:=wrap_i64 (by omega) (by omega);rw[hw];by_cases hn:0<=v.Num/\v.Num<(t.Kids.length:Int)
  ·have hin:inB v.Num t.Kids.length=true:=by unfold inB;rw[aY hn.1,aY hn.2];rfl
   rw[av hn,aY hn.1,aY (show v.Num<=(t.bp.length:Int)-1 by omega),Xt (t.Kids.getD v.Num.toNat aa.zero) hl (EZ _ (by omega)),hin];simp
  ·have:(decide ((0:Int)<=v.Num)&&decide (v.Num<=(t.bp.length:Int)-1))=false:=by
    rw[Bool.and_eq_false_iff];by_cases h0:0<=v.Num
    ·right;exact bU (by omega)
    ·left;exact bU h0
   rw[ak hn,this];rfl
 simp only[qp]at h15;have J0:kT v.Num v.Kids.length t=some []:=by
  unfold kT;rw[ak h12,ak (by omega),ak h13,ak (by omega)]
 rw[J0];simp only[EY,kb h2,kb i5,kb h13,kb h10,kb htx,kb h12,kb h15.1,kb h15.2,kb h17,aR,hU];obtain⟨b,er⟩:=Xq t.Kind;rw[er];simp only[aS,aU,bI,gR,aP,aA];rw[akr _ hlab];unfold fQ;rw[ak (by omega),ak h10];unfold so EL;by_cases h18:t.Kind=18
 ·simp only[h18,Int.reduceBEq,Int.reduceEq,Int.reduceLE,aA,aR,or_self,true_or,or_true,kC,false_or,and_false,and_true,gv,eN];cases (decide ((0:Int)<=v.Num)&&decide (v.Num<=Go.IntKind.wrap .i64 ((t.bp.length:Int)-1)))<;>rfl
 by_cases h19:t.Kind=19
 ·simp only[h19,Int.reduceBEq,Int.reduceEq,Int.reduceLE,aA,aR,or_self,true_or,or_true,kC,false_or,and_false,and_true,gv,eN];cases (decide ((0:Int)<=v.Num)&&decide (v.Num<=Go.IntKind.wrap .i64 (Go.V.lr .i64 (1:Int) (t.bp.length:Int)-1)))<;>rfl
 by_cases h20:t.Kind=20\/t.Kind=21\/t.Kind=22\/t.Kind=23
 ·rcases h20 with h|h|h|h
  all_goals
   simp only[h,Int.reduceBEq,Int.reduceEq,Int.reduceLE,aA,aR,or_self,true_or,or_true,kC,false_or,and_false,and_true,gv,eN];cases (decide ((0:Int)<=v.Num)&&decide (v.Num<=(2147483647:Int)))<;>rfl
 simp only[qp]at h20;simp only[kb h18,kb h19,kb h20.1,kb h20.2.1,kb h20.2.2.1,kb h20.2.2.2,aR];by_cases J1:3<=t.Kind/\t.Kind<=9
 ·rw[av J1];cases (decide ((kM t.Kind).1<=v.Num)&&decide (v.Num<=(kM t.Kind).2))<;>rfl
 ·rw[ak J1,akf J1,ak (by omega),ak h19,ak (by omega)];cases (decide ((0:Int)<=v.Num)&&decide (v.Num<=(0:Int)))<;>rfl
end
theorem Wb:∀(m:Nat)(v:ae)(t:aa),v.sz<m->v.sz<=1048576->t.sz<=1048576->bw t=true->M.tI m v t=some (ct v t)
 |0,v,t,h,_,_,_=>absurd h (eB _)
 |m+1,v,t,h,hv,ht,hs=>by
  have akt:∀x∈t.Kids,bw x=true:=by
   rw[oH,aW,xX,fg]at hs;exact hs.2
  have hrec:∀x∈v.Kids,∀y∈t.Kids,M.tI m x y=some (ct x y):=fun x hx y hy=>by
   have h1:=ae.cZ hx;have h2:=aa.cZ hy;exact Wb m x y (by omega) (by omega) (by omega) (akt y hy)
  show M.pz (M.tI m) v t=_
  rw[ED];by_cases hk:v.Kind=t.Kind
  ·by_cases h11:t.Kind=11
   ·have hh:headB v.Kind v.Num v.Text t=(gm v.Text&&(v.Num==0)):=by
     unfold headB fQ so;simp only[kt hk,h11,kt (hk.trans h11),Int.reduceBEq,Int.reduceEq,Int.reduceLE,or_self,kC,false_or,and_false,and_true,gv,eN,JZ,kJ,aP,bI];rw[Bool.and_comm]
    have J0:kT v.Num v.Kids.length t=some []:=by
     unfold kT;rw[ak (by omega),ak (by omega),ak (by omega),ak (by omega)]
    rw[hh,J0];unfold M.pz;simp only[aa.aO,ae.aO,m6,kt hk,h11,kt (hk.trans h11),EY,akd _ (ae.Xo hv),Int.reduceBEq,mV,mY,hU,aA,aR,aU,aS,fE]
   ·by_cases hte:v.Text=[]
    ·rw[aks v t hv ht hs hrec hk h11 hte];have:headB v.Kind v.Num v.Text t=fQ v.Num t:=by unfold headB;rw[kt hk,hte,ako];simp
     rw[this];try rfl
    ·have e:(v.Text==[])=false:=by
      cases h:v.Text with
      |nil=>exact absurd h hte
      |cons a r=>rfl
     have:headB v.Kind v.Num v.Text t=false:=by unfold headB;rw[e,kb h11];simp
     rw[this];unfold M.pz;rw[m6,m6,kt hk,kb h11,e];rfl
  ·have:headB v.Kind v.Num v.Text t=false:=by unfold headB;rw[kb hk];rfl
   rw[this];unfold M.pz;rw[m6,kb hk];rfl
end M
