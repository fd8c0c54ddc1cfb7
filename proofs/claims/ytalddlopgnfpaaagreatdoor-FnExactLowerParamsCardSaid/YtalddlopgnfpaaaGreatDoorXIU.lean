/-
  A TEXT'S FIRST CODE POINT, as the reference reckons it, beside the decoder of the language: in plain words.
-/
import Derived.Test.YtalddlopgnfpaaaGreatDoorXITP
import Derived.Lib.MapLaws
set_option linter.unusedVariables false
set_option linter.unusedSimpArgs false
namespace M
open Go Go.V Go.Lib
theorem YT(n:Nat)(h:n<256):IntKind.wrap .u8 (n:Int)=(n:Int):=by
 have:∀m:Fin 256,IntKind.wrap .u8 ((m.val:Nat):Int)=((m.val:Nat):Int):=by decide+kernel
 exact this ⟨n,h⟩
theorem m5(n:Nat)(h:n<2^62):IntKind.wrap .i64 (n:Int)=(n:Int):=wrap_i64 (by omega) (by omega)
theorem La(n:Nat)(h:n<2^62):dX .and .i64 (n:Int) 63=((n%64:Nat):Int):=by
 have e:(BitVec.ofInt 64 (n:Int)&&& BitVec.ofInt 64 (63:Int)).toNat=n%64:=by
  rw[BitVec.toNat_and];have h1:(BitVec.ofInt 64 (n:Int)).toNat=n:=by rw[BitVec.toNat_ofInt];omega
  have h2:(BitVec.ofInt 64 (63:Int)).toNat=63:=by decide
  rw[h1,h2];exact Nat.and_two_pow_sub_one_eq_mod n 6
 show IntKind.wrap .i64 (((BitVec.ofInt 64 (n:Int)&&& BitVec.ofInt 64 (63:Int)).toNat:Nat):Int)=_
 rw[e,m5 _ (by omega)]
theorem amn(x:UInt8):dX .and .u8 ((x.toNat:Nat):Int) 63=((x.toNat%64:Nat):Int):=by
 have:∀m:Fin 256,dX .and .u8 ((m.val:Nat):Int) 63=((m.val%64:Nat):Int):=by decide+kernel
 exact this ⟨x.toNat,x.toNat_lt⟩
theorem amo(n r:Nat)(hr:r<64)(h:n<2^40):dX .or .i64 ((n*64:Nat):Int) (r:Int)=((n*64+r:Nat):Int):=by
 have e:(BitVec.ofInt 64 ((n*64:Nat):Int)|||BitVec.ofInt 64 (r:Int)).toNat=n*64+r:=by
  rw[BitVec.toNat_or];have h1:(BitVec.ofInt 64 ((n*64:Nat):Int)).toNat=n*64:=by rw[BitVec.toNat_ofInt];omega
  have h2:(BitVec.ofInt 64 (r:Int)).toNat=r:=by rw[BitVec.toNat_ofInt];omega
  rw[h1,h2];have:=Nat.two_pow_add_eq_or_of_lt (b:=r) (i:=6) (by simpa using hr) n;rw[show(2:Nat)^6=64 by rfl]at this;rw[vp n 64,<-this]
 show IntKind.wrap .i64 (((BitVec.ofInt 64 ((n*64:Nat):Int)|||BitVec.ofInt 64 (r:Int)).toNat:Nat):Int)=_
 rw[e,m5 _ (by omega)]
theorem amq(n:Nat)(h:n<2^40):lv .i64 (n:Int) 6=((n*64:Nat):Int):=by
 have:lv .i64 (n:Int) 6=IntKind.wrap .i64 ((n:Int)*64):=rfl;rw[this,show(n:Int)*64=((n*64:Nat):Int) by omega,m5 _ (by omega)]
theorem amr(n:Nat):gi .i64 (n:Int) 6=((n/64:Nat):Int):=by
 have:gi .i64 (n:Int) 6=(n:Int).fdiv 64:=rfl;rw[this,Int.fdiv_eq_ediv_of_nonneg _ (by omega)];omega
theorem ams(n:Nat):gi .i64 (n:Int) 12=((n/4096:Nat):Int):=by
 have:gi .i64 (n:Int) 12=(n:Int).fdiv 4096:=rfl;rw[this,Int.fdiv_eq_ediv_of_nonneg _ (by omega)];omega
theorem amu(n:Nat):gi .i64 (n:Int) 18=((n/262144:Nat):Int):=by
 have:gi .i64 (n:Int) 18=(n:Int).fdiv 262144:=rfl;rw[this,Int.fdiv_eq_ediv_of_nonneg _ (by omega)];omega
theorem yC(k:Int)(m:Nat)(h:k=(m:Int))(hm:m<256):IntKind.wrap .u8 (IntKind.wrap .i64 k)=(m:Int):=by
 subst h;rw[m5 m (by omega),YT m hm]
theorem oZ(m:Nat)(h:m<256):fH (m:Int)=true:=by unfold fH;simp;omega
theorem FC(m:Nat):eA (m:Int)=UInt8.ofNat m:=rfl
def ir(n:Nat):List UInt8:=
 if n<128 then[UInt8.ofNat n]
 else if n<2048 then[UInt8.ofNat (192+n/64),UInt8.ofNat (128+n%64)]
 else if n<65536 then[UInt8.ofNat (224+n/4096),UInt8.ofNat (128+n/64%64),UInt8.ofNat (128+n%64)]
 else[UInt8.ofNat (240+n/262144),UInt8.ofNat (128+n/4096%64),UInt8.ofNat (128+n/64%64),UInt8.ofNat (128+n%64)]
theorem amv(n:Nat)(h:n<=1114111):M.pN (n:Int)=some (ir n):=by
 have ha:=La n (by omega);have hb:=La (n/64) (by omega);have hc:=La (n/4096) (by omega);unfold M.pN ir;rw[amr,ams,amu,hb,hc,ha];by_cases h1:n<128
 ·rw[av h1,YT n (by omega),oZ n (by omega),FC];have:decide ((n:Int)<128)=true:=by simp;omega
  rw[this];rfl
 ·rw[an h1];have d1:decide ((n:Int)<128)=false:=by simp;omega
  rw[d1];have b0:=yC (128+((n%64:Nat):Int)) (128+n%64) (by omega) (by omega);rw[b0];by_cases h2:n<2048
  ·have d2:decide ((n:Int)<2048)=true:=by simp;omega
   have b1:=yC (192+((n/64:Nat):Int)) (192+n/64) (by omega) (by omega);rw[av h2,d2,b1];simp only[aT,aA,oZ _ (show 192+n/64<256 by omega),oZ _ (show 128+n%64<256 by omega),FC,fF,List.map_id']
  ·rw[an h2];have d2:decide ((n:Int)<2048)=false:=by simp;omega
   have b2:=yC (128+((n/64%64:Nat):Int)) (128+n/64%64) (by omega) (by omega);rw[d2,b2];by_cases h3:n<65536
   ·have d3:decide ((n:Int)<65536)=true:=by simp;omega
    have b1:=yC (224+((n/4096:Nat):Int)) (224+n/4096) (by omega) (by omega);rw[av h3,d3,b1];simp only[aT,aA,oZ _ (show 224+n/4096<256 by omega),oZ _ (show 128+n/64%64<256 by omega),oZ _ (show 128+n%64<256 by omega),FC,fF,List.map_id']
   ·have d3:decide ((n:Int)<65536)=false:=by simp;omega
    have b1:=yC (240+((n/262144:Nat):Int)) (240+n/262144) (by omega) (by omega);have b3:=yC (128+((n/4096%64:Nat):Int)) (128+n/4096%64) (by omega) (by omega);rw[an h3,d3,b1,b3];simp only[aT,aA,oZ _ (show 240+n/262144<256 by omega),oZ _ (show 128+n/4096%64<256 by omega),oZ _ (show 128+n/64%64<256 by omega),oZ _ (show 128+n%64<256 by omega),FC,fF,List.map_id']
def mi(n:Nat):List UInt8->Nat
 |[]=>n
 |x::r=>mi (n*64+x.toNat%64) r
theorem YU(s:List UInt8)(many:Nat)(hm:many<=s.length)(hs:s.length<=1048576):∀(d f n i:Nat),i+d=many->d<=3->(n+1)*64^d<=2^24->
 M.rG s (many:Int) (f+d+1) (n:Int) (i:Int)=some (s,(many:Int),((mi n ((s.take many).drop i):Nat):Int))
 |0,f,n,i,hi,_,hn=>by
  have d:decide ((i:Int)<(many:Int))=false:=by simp;omega
  have e:(s.take many).drop i=[]:=List.drop_eq_nil_of_le (by rw[i3];omega);rw[e];simp only[M.rG,d,aT,mi]
 |d+1,f,n,i,hi,hd,hn=>by
  have d1:decide ((i:Int)<(many:Int))=true:=by simp;omega
  have hin:inB (i:Int) s.length=true:=by rw[cq];simp;omega
  have hil:i<(s.take many).length:=by rw[i3];omega
  have hg:s.getD i 0=(s.take many)[i]:=by rw[getD_lt (by omega),List.getElem_take]
  have hp:64^(d+1)=64*64^d:=by rw[Nat.pow_succ,vp]
  have hn2:n<2^24:=by
   have:(n+1)*1<=(n+1)*64^(d+1):=Nat.mul_le_mul_left _ (Nat.pos_of_ne_zero (by simp));omega
  have hb:((s.getD i 0).toNat%64)<64:=Nat.mod_lt _ (by omega);have hstep:(n*64+(s.getD i 0).toNat%64+1)*64^d<=2^24:=by
   have:(n*64+(s.getD i 0).toNat%64+1)*64^d<=((n+1)*64)*64^d:=dt _ (by omega);rw[hp,<-Nat.mul_assoc]at hn;omega
  have ih:=YU s many hm hs d f (n*64+(s.getD i 0).toNat%64) (i+1) (by omega) (by omega) hstep;rw[dZ hil,mi];rw[show f+(d+1)+1=(f+d+1)+1 by omega,M.rG];rw[d1,bL,hin];simp only[aA,aO];rw[amq n (by omega),amn,m5 ((s.getD i 0).toNat%64) (by omega),amo n _ hb (by omega),cm (show i<many by omega) (by omega)];rw[ih,hg]
end M
namespace M
open Go Go.V Go.Lib
def fZ(b:Nat):Nat:=if 240<=b then 4 else if 224<=b then 3 else if 192<=b then 2 else 1
def iw(b:Nat):Nat:=if 240<=b then b-240 else if 224<=b then b-224 else if 192<=b then b-192 else b
def js(n:Nat):Bool:=decide (n<=55295)||(decide (57344<=n)&&decide (n<=1114111))
def fx(s:List UInt8):Nat×Nat:=
 if s.length<fZ (s.getD 0 0).toNat then(0,0)
 else if js (mi (iw (s.getD 0 0).toNat) ((s.take (fZ (s.getD 0 0).toNat)).drop 1))&&(ir (mi (iw (s.getD 0 0).toNat) ((s.take (fZ (s.getD 0 0).toNat)).drop 1))==s.take (fZ (s.getD 0 0).toNat))then
  (mi (iw (s.getD 0 0).toNat) ((s.take (fZ (s.getD 0 0).toNat)).drop 1),fZ (s.getD 0 0).toNat)
 else(0,0)
theorem amw(n:Nat):M.jz (n:Int)=some (js n):=by
 unfold M.jz js;have h1:decide ((0:Int)<=(n:Int))=true:=by simp
 have h2:decide ((n:Int)<=55295)=decide (n<=55295):=by congr 1;exact propext ⟨fun h=>by omega,fun h=>by omega⟩
 have h3:decide ((57344:Int)<=(n:Int))=decide (57344<=n):=by congr 1;exact propext ⟨fun h=>by omega,fun h=>by omega⟩
 have h4:decide ((n:Int)<=1114111)=decide (n<=1114111):=by congr 1;exact propext ⟨fun h=>by omega,fun h=>by omega⟩
 rw[h1,h2,h3,h4,bM]
theorem J8{n:Nat}(h:js n=true):n<=1114111:=by
 unfold js at h;simp only[i5,aZ,bh]at h;omega
theorem FD(s:List UInt8)(m n:Nat)(hm:m<=s.length)(q9:Bool)(h9:q9=true):
 (bif((!(Option.getD (M.jz (n:Int)) Inhabited.default))||(!((Option.getD (M.pN (n:Int)) Inhabited.default)==(List.drop (Int.toNat (0:Int)) (List.take (Int.toNat (m:Int)) s)))))then
   (bif(((Go.V.bV (0:Int) (m:Int) (List.length s))||(!((!(Option.getD (M.jz (n:Int)) Inhabited.default))==false)))&&(((Option.isSome (M.pN (n:Int)))||(!((!(Option.getD (M.jz (n:Int)) Inhabited.default))==false)))&&((Option.isSome (M.jz (n:Int)))&&q9)))then some ((0:Int),(0:Int))else none)
 else
  (bif(((Go.V.bV (0:Int) (m:Int) (List.length s))||(!((!(Option.getD (M.jz (n:Int)) Inhabited.default))==false)))&&(((Option.isSome (M.pN (n:Int)))||(!((!(Option.getD (M.jz (n:Int)) Inhabited.default))==false)))&&((Option.isSome (M.jz (n:Int)))&&q9)))then some ((n:Int),(m:Int))else none))=
 some (if js n&&(ir n==s.take m)then(((n:Nat):Int),((m:Nat):Int))else(0,0)):=by
 subst h9;have hsl:bV (0:Int) (m:Int) s.length=true:=by unfold bV;simp;omega
 rw[amw,hsl,bL];simp only[aQ,aU,cD,aO,bM];cases hc:js n
 ·simp
 ·rw[amv n (J8 hc)];simp only[aQ,aU,gz,sN,Int.toNat_zero,ej,cD,fF,aA,bM];cases hb:(ir n==s.take m)<;>simp
theorem XB(s:List UInt8)(hne:s≠[])(hs:s.length<=1048576):M.wO s=some (((fx s).1:Int),((fx s).2:Int)):=by
 have hl:0<s.length:=List.length_pos_iff.2 hne;have e0:(s==[])=false:=by cases s with
  |nil=>exact absurd rfl hne
  |cons a r=>rfl
 have hin:inB (0:Int) s.length=true:=by have:=cq 0 s.length;simpa [hl]using this
 have hb:(s.getD 0 0).toNat<256:=UInt8.toNat_lt _;obtain⟨f,hf⟩:∃f,ah=f+3+1:=⟨ah-4,by have:=eU (n:=100) (by omega);omega⟩;have key:∀(m n0:Nat),fZ (s.getD 0 0).toNat=m->iw (s.getD 0 0).toNat=n0->1<=m->m<=4->(n0+1)*64^(m-1)<=2^24->¬s.length<m->M.rG s (m:Int) ah (n0:Int) 1=some (s,(m:Int),((mi n0 ((s.take m).drop 1):Nat):Int)):=fun m n0 h1 h2 h3 h4 h5 h6=>by
  have:=YU s m (by omega) hs (m-1) (f+4-m) n0 1 (by omega) (by omega) h5;rw[hf,show f+3+1=(f+4-m)+(m-1)+1 by omega];exact this
 unfold M.wO;rw[e0,Int.toNat_zero];have hw:IntKind.wrap .i64 ((s.getD 0 0).toNat:Int)=((s.getD 0 0).toNat:Int):=m5 _ (by omega);unfold fx;by_cases jt:240<=(s.getD 0 0).toNat
 ·have Bh:decide ((240:Int)<=((s.getD 0 0).toNat:Int))=true:=aY (by omega);have hm:fZ (s.getD 0 0).toNat=4:=by unfold fZ;rw[av jt]
  have hn:iw (s.getD 0 0).toNat=(s.getD 0 0).toNat-240:=by unfold iw;rw[av jt]
  have hw2:IntKind.wrap .i64 (((s.getD 0 0).toNat:Int)-240)=(((s.getD 0 0).toNat-240:Nat):Int):=by rw[show((s.getD 0 0).toNat:Int)-240=(((s.getD 0 0).toNat-240:Nat):Int) by omega];exact m5 _ (by omega)
  rw[hm,hn];simp only[Bh,aT,aA,hw,hw2,hin,cD,aO,kN,bM,gz,m8];by_cases hsl:s.length<4
  ·have d:decide ((s.length:Int)<4)=true:=by simp;omega
   rw[av hsl,d];rfl
  ·have d:decide ((s.length:Int)<4)=false:=by simp;omega
   have:=key 4 _ hm hn (by omega) (by omega) (by omega) hsl;rw[an hsl,d];simp only[aT];rw[show(4:Int)=((4:Nat):Int)from rfl,this];refine(FD s 4 _ (by omega) _ (by rfl)).trans ?_;split<;>rfl
 ·have Bh:decide ((240:Int)<=((s.getD 0 0).toNat:Int))=false:=bU (by omega);by_cases lN:224<=(s.getD 0 0).toNat
  ·have FG:decide ((224:Int)<=((s.getD 0 0).toNat:Int))=true:=aY (by omega);have hm:fZ (s.getD 0 0).toNat=3:=by unfold fZ;rw[an jt,av lN]
   have hn:iw (s.getD 0 0).toNat=(s.getD 0 0).toNat-224:=by unfold iw;rw[an jt,av lN]
   have hw2:IntKind.wrap .i64 (((s.getD 0 0).toNat:Int)-224)=(((s.getD 0 0).toNat-224:Nat):Int):=by rw[show((s.getD 0 0).toNat:Int)-224=(((s.getD 0 0).toNat-224:Nat):Int) by omega];exact m5 _ (by omega)
   rw[hm,hn];simp only[Bh,FG,aT,aA,hw,hw2,hin,cD,aO,kN,bM,gz,qy,m8];by_cases hsl:s.length<3
   ·have d:decide ((s.length:Int)<3)=true:=by simp;omega
    rw[av hsl,d];rfl
   ·have d:decide ((s.length:Int)<3)=false:=by simp;omega
    have:=key 3 _ hm hn (by omega) (by omega) (by omega) hsl;rw[an hsl,d];simp only[aT];rw[show(3:Int)=((3:Nat):Int)from rfl,this];refine(FD s 3 _ (by omega) _ (by rfl)).trans ?_;split<;>rfl
  ·have FG:decide ((224:Int)<=((s.getD 0 0).toNat:Int))=false:=bU (by omega);by_cases qC:192<=(s.getD 0 0).toNat
   ·have Lc:decide ((192:Int)<=((s.getD 0 0).toNat:Int))=true:=aY (by omega);have hm:fZ (s.getD 0 0).toNat=2:=by unfold fZ;rw[an jt,an lN,av qC]
    have hn:iw (s.getD 0 0).toNat=(s.getD 0 0).toNat-192:=by unfold iw;rw[an jt,an lN,av qC]
    have hw2:IntKind.wrap .i64 (((s.getD 0 0).toNat:Int)-192)=(((s.getD 0 0).toNat-192:Nat):Int):=by rw[show((s.getD 0 0).toNat:Int)-192=(((s.getD 0 0).toNat-192:Nat):Int) by omega];exact m5 _ (by omega)
    rw[hm,hn];simp only[Bh,FG,Lc,aT,aA,hw,hw2,hin,cD,aO,kN,bM,gz,qy,m8];by_cases hsl:s.length<2
    ·have d:decide ((s.length:Int)<2)=true:=by simp;omega
     rw[av hsl,d];rfl
    ·have d:decide ((s.length:Int)<2)=false:=by simp;omega
     have:=key 2 _ hm hn (by omega) (by omega) (by omega) hsl;rw[an hsl,d];simp only[aT];rw[show(2:Int)=((2:Nat):Int)from rfl,this];refine(FD s 2 _ (by omega) _ (by rfl)).trans ?_;split<;>rfl
   ·have Lc:decide ((192:Int)<=((s.getD 0 0).toNat:Int))=false:=bU (by omega);have hm:fZ (s.getD 0 0).toNat=1:=by unfold fZ;rw[an jt,an lN,an qC]
    have hn:iw (s.getD 0 0).toNat=(s.getD 0 0).toNat:=by unfold iw;rw[an jt,an lN,an qC]
    rw[hm,hn];simp only[Bh,FG,Lc,aT,aA,hw,hin,cD,aO,kN,bM,gz,qy,m8];have hsl:¬s.length<1:=by omega
    have d:decide ((s.length:Int)<1)=false:=by simp;omega
    have:=key 1 _ hm hn (by omega) (by omega) (by omega) hsl;rw[an hsl,d];simp only[aT];rw[show(1:Int)=((1:Nat):Int)from rfl]at this⊢;rw[this];refine(FD s 1 _ (by omega) _ (by rfl)).trans ?_;split<;>rfl
end M
namespace M
open Go Go.V Go.Lib
def fM(n:Nat):List Nat:=
 if n<128 then[n]
 else if n<2048 then[192+n/64,128+n%64]
 else if n<65536 then[224+n/4096,128+n/64%64,128+n%64]
 else[240+n/262144,128+n/4096%64,128+n/64%64,128+n%64]
theorem amx(n:Nat):ir n=(fM n).map UInt8.ofNat:=by
 unfold ir fM
 repeat' split
 all_goals rfl
theorem amy(n:Nat)(h:n<=1114111):∀x∈fM n,x<256:=by
 unfold fM
 repeat' split
 all_goals (intro x hx;simp only[dY,JL,kG]at hx;omega)
theorem YV:∀(l:List Nat)(s:List UInt8),(∀x∈l,x<256)->(l.map UInt8.ofNat=s↔l=s.map UInt8.toNat)
 |[],[],_=>by simp
 |[],y::s,_=>by simp
 |x::l,[],_=>by simp
 |x::l,y::s,h=>by
  have ih:=YV l s fun z hz=>h z (fL _ hz)
  have hx:=h x (ek ..);simp only[fm,List.cons.injEq,ih];refine and_congr_left fun _=>⟨fun e=>?_,fun e=>?_⟩
  ·rw[<-e];simp;omega
  ·rw[e];simp
theorem E8(n:Nat)(h:n<=1114111)(s:List UInt8):(ir n==s)=true↔fM n=s.map UInt8.toNat:=by
 rw[kO,amx];exact YV _ _ (amy n h)
theorem J4(n a:Nat):fM n=[a]↔n<128/\n=a:=by
 unfold fM
 repeat' split
 all_goals (simp only[List.cons.injEq,and_true,reduceCtorEq,and_false,false_iff,not_and];omega)
theorem J5(n a b:Nat):fM n=[a,b]↔128<=n/\n<2048/\192+n/64=a/\128+n%64=b:=by
 unfold fM
 repeat' split
 all_goals (simp only[List.cons.injEq,and_true,reduceCtorEq,and_false,false_iff,not_and];omega)
theorem J6(n a b c:Nat):fM n=[a,b,c]↔2048<=n/\n<65536/\224+n/4096=a/\128+n/64%64=b/\128+n%64=c:=by
 unfold fM
 repeat' split
 all_goals (simp only[List.cons.injEq,and_true,reduceCtorEq,and_false,false_iff,not_and];omega)
theorem J7(n a b c d:Nat):fM n=[a,b,c,d]↔65536<=n/\240+n/262144=a/\128+n/4096%64=b/\128+n/64%64=c/\128+n%64=d:=by
 unfold fM
 repeat' split
 all_goals (simp only[List.cons.injEq,and_true,reduceCtorEq,and_false,false_iff,not_and];omega)
theorem J3(n:Nat):js n=true↔n<=55295\/(57344<=n/\n<=1114111):=by unfold js;simp
theorem sZ(n:Nat)(s:List UInt8):(js n&&(ir n==s))=true↔(n<=55295\/(57344<=n/\n<=1114111))/\fM n=s.map UInt8.toNat:=by
 rw[aZ,J3];constructor
 ·rintro ⟨h1,h2⟩;exact⟨h1,(E8 n (by omega) s).1 h2⟩
 ·rintro ⟨h1,h2⟩;exact⟨h1,(E8 n (by omega) s).2 h2⟩
theorem Xz(s:List UInt8)(hne:s≠[]):(fx s).2=if(decodeL s).1=65533/\(decodeL s).2=1 then 0 else(decodeL s).2:=by
 have hl:0<s.length:=List.length_pos_iff.2 hne;have k0:=(s.getD 0 0).toNat_lt;have k1:=(s.getD 1 0).toNat_lt;have k2:=(s.getD 2 0).toNat_lt;have k3:=(s.getD 3 0).toNat_lt;have s6:=decodeN_shape s.length (s.getD 0 0).toNat (s.getD 1 0).toNat (s.getD 2 0).toNat (s.getD 3 0).toNat;rw[decodeL_N];generalize hD:decodeN s.length (s.getD 0 0).toNat (s.getD 1 0).toNat (s.getD 2 0).toNat (s.getD 3 0).toNat=D at s6⊢;have hD':=hD;unfold decodeN at hD;unfold fx;by_cases jt:240<=(s.getD 0 0).toNat
 ·have hm:fZ (s.getD 0 0).toNat=4:=by unfold fZ;rw[av jt]
  have hn:iw (s.getD 0 0).toNat=(s.getD 0 0).toNat-240:=by unfold iw;rw[av jt]
  rw[hm,hn];by_cases hsl:s.length<4
  ·rw[av hsl];rcases s6 with⟨c,e⟩|⟨c1,c2,c3,cv,e⟩|⟨c1,c2,c3,c4,cv,cs,e⟩|⟨c1,c2,c3,c4,c5,cv,cw,e⟩|e
   all_goals first|(exfalso;omega)|(rw[e];rfl)
  ·rw[an hsl,takeD s (by omega)];simp only[List.drop_succ_cons,ej,mi];generalize hN:(((s.getD 0 0).toNat-240)*64+(s.getD 1 0).toNat%64)*64+(s.getD 2 0).toNat%64=N1;by_cases dG:(js (N1*64+(s.getD 3 0).toNat%64)&&(ir (N1*64+(s.getD 3 0).toNat%64)==[s.getD 0 0,s.getD 1 0,s.getD 2 0,s.getD 3 0]))=true
   ·rw[av dG];rw[sZ]at dG;simp only[fm,List.map_nil,J7]at dG;obtain⟨q1,q2,q3,q4,q5,q6⟩:=dG;rw[an (by omega),an (by omega),an (by omega),av ⟨by omega,⟨by omega,by omega⟩,⟨by omega,by omega⟩,by omega,by omega⟩,av ⟨by omega,by omega⟩]at hD;rw[<-hD,an (by simp)]
   ·rw[an dG];rw[sZ]at dG;simp only[fm,List.map_nil,J7]at dG;rcases s6 with⟨c,e⟩|⟨c1,c2,c3,cv,e⟩|⟨c1,c2,c3,c4,cv,cs,e⟩|⟨c1,c2,c3,c4,c5,cv,cw,e⟩|e
    ·exfalso;omega
    ·exfalso;omega
    ·exfalso;omega
    ·exfalso;apply dG;have:(262144:Nat)<=262144:=bg _;rw[an (by omega),an (by omega),an (by omega),av ⟨by omega,⟨by omega,by omega⟩,⟨by omega,by omega⟩,by omega,by omega⟩]at hD;split at hD
     ·rename_i hv;exact⟨by omega,by omega,by omega,by omega,by omega,by omega⟩
     ·rw[<-hD]at e;simp at e
    ·rw[e];rfl
 ·by_cases lN:224<=(s.getD 0 0).toNat
  ·have hm:fZ (s.getD 0 0).toNat=3:=by unfold fZ;rw[an jt,av lN]
   have hn:iw (s.getD 0 0).toNat=(s.getD 0 0).toNat-224:=by unfold iw;rw[an jt,av lN]
   rw[hm,hn];by_cases hsl:s.length<3
   ·rw[av hsl];rcases s6 with⟨c,e⟩|⟨c1,c2,c3,cv,e⟩|⟨c1,c2,c3,c4,cv,cs,e⟩|⟨c1,c2,c3,c4,c5,cv,cw,e⟩|e
    all_goals first|(exfalso;omega)|(rw[e];rfl)
   ·rw[an hsl,takeC s (by omega)];simp only[List.drop_succ_cons,ej,mi];generalize hN:(((s.getD 0 0).toNat-224)*64+(s.getD 1 0).toNat%64)*64+(s.getD 2 0).toNat%64=N;by_cases dG:(js N&&(ir N==[s.getD 0 0,s.getD 1 0,s.getD 2 0]))=true
    ·rw[av dG];rw[sZ]at dG;simp only[fm,List.map_nil,J6]at dG;obtain⟨q1,q2,q3,q4,q5,q6⟩:=dG;rw[an (by omega),an (by omega),av ⟨by omega,⟨by omega,by omega⟩,by omega,by omega⟩,av ⟨by omega,by omega⟩]at hD;rw[<-hD,an (by simp)]
    ·rw[an dG];rw[sZ]at dG;simp only[fm,List.map_nil,J6]at dG;rcases s6 with⟨c,e⟩|⟨c1,c2,c3,cv,e⟩|⟨c1,c2,c3,c4,cv,cs,e⟩|⟨c1,c2,c3,c4,c5,cv,cw,e⟩|e
     ·exfalso;omega
     ·exfalso;omega
     ·exfalso;apply dG;exact⟨by omega,by omega,by omega,by omega,by omega,by omega⟩
     ·exfalso;omega
     ·rw[e];rfl
  ·by_cases qC:192<=(s.getD 0 0).toNat
   ·have hm:fZ (s.getD 0 0).toNat=2:=by unfold fZ;rw[an jt,an lN,av qC]
    have hn:iw (s.getD 0 0).toNat=(s.getD 0 0).toNat-192:=by unfold iw;rw[an jt,an lN,av qC]
    rw[hm,hn];by_cases hsl:s.length<2
    ·rw[av hsl];rcases s6 with⟨c,e⟩|⟨c1,c2,c3,cv,e⟩|⟨c1,c2,c3,c4,cv,cs,e⟩|⟨c1,c2,c3,c4,c5,cv,cw,e⟩|e
     all_goals first|(exfalso;omega)|(rw[e];rfl)
    ·rw[an hsl,takeB s (by omega)];simp only[List.drop_succ_cons,ej,mi];generalize hN:((s.getD 0 0).toNat-192)*64+(s.getD 1 0).toNat%64=N;by_cases dG:(js N&&(ir N==[s.getD 0 0,s.getD 1 0]))=true
     ·rw[av dG];rw[sZ]at dG;simp only[fm,List.map_nil,J5]at dG;obtain⟨q1,q2,q3,q4,q5⟩:=dG;rw[an (by omega),av ⟨by omega,by omega,by omega⟩,av (by omega)]at hD;rw[<-hD,an (by simp)]
     ·rw[an dG];rw[sZ]at dG;simp only[fm,List.map_nil,J5]at dG;rcases s6 with⟨c,e⟩|⟨c1,c2,c3,cv,e⟩|⟨c1,c2,c3,c4,cv,cs,e⟩|⟨c1,c2,c3,c4,c5,cv,cw,e⟩|e
      ·exfalso;omega
      ·exfalso;apply dG;exact⟨by omega,by omega,by omega,by omega,by omega⟩
      ·exfalso;omega
      ·exfalso;omega
      ·rw[e];rfl
   ·have hm:fZ (s.getD 0 0).toNat=1:=by unfold fZ;rw[an jt,an lN,an qC]
    have hn:iw (s.getD 0 0).toNat=(s.getD 0 0).toNat:=by unfold iw;rw[an jt,an lN,an qC]
    rw[hm,hn];rw[an (show ¬s.length<1 by omega),takeA s hl];simp only[List.drop_succ_cons,ej,mi];by_cases dG:(js (s.getD 0 0).toNat&&(ir (s.getD 0 0).toNat==[s.getD 0 0]))=true
    ·rw[av dG];rw[sZ]at dG;simp only[fm,List.map_nil,J4]at dG;rw[av (by omega)]at hD;rw[<-hD,an (by simp only;omega)]
    ·rw[an dG];rw[sZ]at dG;simp only[fm,List.map_nil,J4]at dG;rcases s6 with⟨c,e⟩|⟨c1,c2,c3,cv,e⟩|⟨c1,c2,c3,c4,cv,cs,e⟩|⟨c1,c2,c3,c4,c5,cv,cw,e⟩|e
     ·exfalso;simp only[and_true]at dG;omega
     ·exfalso;omega
     ·exfalso;omega
     ·exfalso;omega
     ·rw[e];rfl
theorem XC(s:List UInt8)(hne:s≠[]):(fx s).2<=s.length:=by
 unfold fx;split
 ·exact cU _
 ·split
  ·rename_i h1 h2;exact Nat.le_of_not_lt h1
  ·exact cU _
theorem YW:∀(m f:Nat)(s:List UInt8)(out:List Int),s.length<=m->s.length<=1048576->out.length+s.length<=1048576->
 ∃r,M.pO (f+m+1) s out=some r/\(match r with|.inl a=>a.1=false/\validGoD m s=false|.inr _=>validGoD m s=true)
 |0,f,s,out,hm,hs,ho=>by
  have e:s=[]:=iZ (by omega);subst e;exact⟨.inr out,rfl,rfl⟩
 |m+1,f,s,out,hm,hs,ho=>by
  rw[show f+(m+1)+1=(f+m+1)+1 by omega,M.pO];by_cases hne:s=[]
  ·subst hne;exact⟨.inr out,rfl,rfl⟩
  ·have hl:0<s.length:=List.length_pos_iff.2 hne;have d:decide ((0:Int)<(s.length:Int))=true:=aY (by omega);rw[d,XB s hne hs];simp only[aA,aQ,aU,aO,bX,dn,dD];have hp:=Xz s hne;have hle:=XC s hne;have hv:validGoD (m+1) s=if(decodeL s).1=65533/\(decodeL s).2=1 then false else validGoD m (s.drop (decodeL s).2):=by
    rw[validGoD,an hne]
   by_cases hb:(decodeL s).1=65533/\(decodeL s).2=1
   ·rw[av hb]at hp hv;rw[hp];exact⟨.inl (false,[]),rfl,rfl,hv⟩
   ·rw[an hb]at hp hv;have hw:=decodeL_width s;rw[<-hp]at hv hw;have d0:(((fx s).2:Int)==0)=false:=by rw[kK];omega
    have hsl:bV ((fx s).2:Int) (s.length:Int) s.length=true:=by unfold bV;simp;omega
    have hlen:decide (out.length+1<=1073741824)=true:=aY (by omega);rw[d0,hsl,hlen];simp only[aT,aA,fF,bL,vf];have hdl:(s.drop (fx s).2).length=s.length-(fx s).2:=List.length_drop;obtain⟨r,h1,h2⟩:=YW m f (s.drop (fx s).2) (out++[((fx s).1:Int)]) (by omega) (by omega) (by rw[cI];simp;omega);refine⟨r,h1,?_⟩;rw[hv];exact h2
def gA(s:List UInt8):Bool:=decide (s.length<=24)&&validD s
theorem amz(s:List UInt8)(hs:s.length<=1048576):M.wP s=some (gA s):=by
 unfold M.wP gA;by_cases h:s.length<=24
 ·have d:decide ((24:Int)<(s.length:Int))=false:=bU (by omega);rw[d,aY h];obtain⟨f,hf⟩:∃f,ah=f+s.length+1:=⟨ah-(s.length+1),by have:=eU hs;omega⟩;obtain⟨r,h1,h2⟩:=YW s.length f s [] (bg _) hs (by simp;omega);have e:∀r,M.pO (f+s.length+1) s []=some r->M.nK s=(match r with|.inl a=>some (a.2,a.1)|.inr b=>some (b,true)):=fun r h=>by
   unfold M.nK;rw[hf,h];cases r<;>rfl
  have e:=e r h1;cases r with
  |inl a=>
   simp only at h2 e;rw[e];simp only[aT,aU,aO,aA,aQ,bM,h2.1];exact gW some h2.2.symm
  |inr b=>
   simp only at h2 e;rw[e];simp only[aT,aU,aO,aA,aQ,bM];exact gW some h2.symm
 ·have d:decide ((24:Int)<(s.length:Int))=true:=aY (by omega);rw[d,bU h];rfl
theorem amA(s:List UInt8)(hs:s.length<=1048576):M.wT s=some (gA s):=by
 have e:M.rH s=some (validD s):=by
  unfold M.rH;rw[aY (show s.length<=9223372036854775807 by omega)];rfl
 have d:decide ((s.length:Int)<=24)=decide (s.length<=24):=by congr 1;exact propext ⟨fun h=>by omega,fun h=>by omega⟩
 unfold M.wT gA;rw[e,d];rfl
end M
namespace M
open Go.V (inB bV ah cC)
theorem ae.YX{a:ae}{N:Nat}(h:a.sz<=N):a.Text.length<=N:=by rw[ae.dW]at h;omega
theorem ae.ke{a:ae}{N:Nat}(h:a.sz<=N):aR ae.sz a.Kids<=N:=by rw[ae.dW]at h;omega
theorem ae.fw{a:ae}{N:Nat}(h:a.sz<=N):a.Kids.length<=N:=eS (ed _ _) (ae.ke h)
theorem ae.cX{a x:ae}(h:x∈a.Kids):x.sz<a.sz:=by
 rw[ae.dW a];have:=j5 ae.sz _ _ h;omega
def kP(k:Int):Int×Int:=
 if k=3 then(0,255)else if k=4 then(-128,127)else if k=5 then(0,65535)else if k=6 then(-32768,32767)else if k=7 then(0,4294967295)else if k=8 then(-2147483648,2147483647)
 else if k=9 then(-9223372036854775808,9223372036854775807)else(0,0)
def KO(n:Int):Bool:=(decide ((0:Int)<=n)&&decide (n<=(55295:Int)))||(decide ((57344:Int)<=n)&&decide (n<=(1114111:Int)))
def Fq(t:aa):Int:=Go.IntKind.wrap .i64 (Go.V.lv .i64 (1:Int) (t.bu.length:Int)-1)
def sQ(t:aa):Int:=
 if t.Kind=17\/t.Kind=18 then Go.IntKind.wrap .i64 ((t.bu.length:Int)-1)else if t.Kind=19 then Fq t
 else if t.Kind=20\/t.Kind=21\/t.Kind=22\/t.Kind=23 then 2147483647 else 0
def fY(n:Int)(t:aa):Bool:=
 if t.Kind=2\/t.Kind=13\/t.Kind=14 then decide ((0:Int)<=n)&&decide (n<=(1:Int))
 else if 3<=t.Kind/\t.Kind<=9 then decide ((kP t.Kind).1<=n)&&decide (n<=(kP t.Kind).2)
 else if t.Kind=10 then KO n
 else decide ((0:Int)<=n)&&decide (n<=sQ t)
def i9(t:aa):List aa:=if jd t then[]else[t]
def kT(n:Int)(len:Nat)(t:aa):Option (List aa):=
 if t.Kind=12 then some (List.replicate (min len 8) (t.Kids.getD 0 aa.zero))
 else if t.Kind=15\/t.Kind=16 then some t.Kids
 else if t.Kind=13 then(if n=0 then some []else if n=1 then some (i9 (t.Kids.getD 0 aa.zero))else none)
 else if t.Kind=14\/t.Kind=17 then(if 0<=n/\n<(t.Kids.length:Int)then some (i9 (t.Kids.getD n.toNat aa.zero))else none)
 else some []
def headB(k n:Int)(x:List UInt8)(t:aa):Bool:=(((k==t.Kind)&&fY n t)&&(x==[]||t.Kind==11))&&gA x
mutual
def bY:ae->aa->Bool
 |.mk k n x kids,t=>headB k n x t&&(match kT n kids.length t with
   |some ts=>decide (ts.length=kids.length)&&i7 kids ts
   |none=>false)
def i7:List ae->List aa->Bool
 |[],_=>true
 |v::r,ts=>bY v (ts.headD aa.zero)&&i7 r ts.tail
end
theorem Fb(v:ae)(t:aa):bY v t=(headB v.Kind v.Num v.Text t&&(match kT v.Num v.Kids.length t with
 |some ts=>decide (ts.length=v.Kids.length)&&i7 v.Kids ts
 |none=>false)):=by cases v;rfl
theorem yq:∀(a:List ae)(b:List aa),b.length=a.length->i7 a b=(List.range a.length).all fun k=>bY (a.getD k ae.zero) (b.getD k aa.zero)
 |[],_,_=>rfl
 |v::r,[],h=>by simp at h
 |v::r,t::ts,h=>by
  rw[i7,List.headD_cons,List.tail_cons,yq r ts (by simpa using h),bX,List.range_succ_eq_map,List.all_cons,List.all_map];rfl
theorem Kr(t:aa):∀(a:List ae)(n:Nat),n=a.length->i7 a (List.replicate n t)=a.all fun v=>bY v t
 |[],_,_=>rfl
 |v::r,n,h=>by
  subst h;rw[bX,List.replicate_succ,i7,List.headD_cons,List.tail_cons,Kr t r r.length rfl,List.all_cons]
theorem kb{a b:Int}(h:a≠b):(a==b)=false:=by rw[kK];exact h
theorem kt{a b:Int}(h:a=b):(a==b)=true:=by rw[h];exact lH b
theorem YY(k:Int):∃b,M.nM k=some ((kP k).1,(kP k).2,b):=by
 unfold M.nM kP;by_cases h3:k=3
 ·subst h3;exact⟨true,rfl⟩
 by_cases h4:k=4
 ·subst h4;exact⟨true,rfl⟩
 by_cases h5:k=5
 ·subst h5;exact⟨true,rfl⟩
 by_cases h6:k=6
 ·subst h6;exact⟨true,rfl⟩
 by_cases h7:k=7
 ·subst h7;exact⟨true,rfl⟩
 by_cases h8:k=8
 ·subst h8;exact⟨true,rfl⟩
 by_cases h9:k=9
 ·subst h9;exact⟨true,rfl⟩
 exact⟨false,by simp[h3,h4,h5,h6,h7,h8,h9,kb h3,kb h4,kb h5,kb h6,kb h7,kb h8,kb h9]⟩
theorem YZ(k:Int):∃b,M.zQ k=some ((kP k).1,(kP k).2,b):=YY k
theorem amB{k:Int}(h:¬(3<=k/\k<=9)):kP k=(0,0):=by
 unfold kP;rw[an (by omega),an (by omega),an (by omega),an (by omega),an (by omega),an (by omega),an (by omega)]
theorem amC(v:ae)(t:aa):M.wS v t=some (fY v.Num t):=by
 unfold M.wS fY;by_cases h1:t.Kind=2\/t.Kind=13\/t.Kind=14
 ·rw[av h1];rcases h1 with h|h|h<;>simp[h]
 ·rw[an h1];simp only[qD]at h1;obtain⟨a2,a13,a14⟩:=h1;simp only[kb a2,kb a13,kb a14,aT];by_cases h2:3<=t.Kind/\t.Kind<=9
  ·rw[av h2];obtain⟨b,e⟩:=YY t.Kind;have:(bif t.Kind==3 then t.Kind==3 else bif t.Kind==4 then t.Kind==4 else bif t.Kind==5 then t.Kind==5 else bif t.Kind==6 then t.Kind==6 else bif t.Kind==7 then t.Kind==7 else bif t.Kind==8 then t.Kind==8 else t.Kind==9)=true:=by
    have:t.Kind=3\/t.Kind=4\/t.Kind=5\/t.Kind=6\/t.Kind=7\/t.Kind=8\/t.Kind=9:=by omega
    rcases this with h|h|h|h|h|h|h<;>simp[h]
   rw[this,e];rfl
  ·rw[an h2];have:(bif t.Kind==3 then t.Kind==3 else bif t.Kind==4 then t.Kind==4 else bif t.Kind==5 then t.Kind==5 else bif t.Kind==6 then t.Kind==6 else bif t.Kind==7 then t.Kind==7 else bif t.Kind==8 then t.Kind==8 else t.Kind==9)=false:=by
    simp only[kb (show t.Kind≠3 by omega),kb (show t.Kind≠4 by omega),kb (show t.Kind≠5 by omega),kb (show t.Kind≠6 by omega),kb (show t.Kind≠7 by omega),kb (show t.Kind≠8 by omega),kb (show t.Kind≠9 by omega),aT]
   rw[this];simp only[aT];by_cases h3:t.Kind=10
   ·rw[av h3,kt h3];rfl
   ·rw[an h3,kb h3];simp only[aT];unfold sQ Fq;by_cases h4:t.Kind=17
    ·simp[h4]
    by_cases h5:t.Kind=18
    ·simp[h5]
    by_cases h6:t.Kind=19
    ·simp[h6]
    by_cases h7:t.Kind=20
    ·simp[h7]
    by_cases h8:t.Kind=21
    ·simp[h8]
    by_cases h9:t.Kind=22
    ·simp[h9]
    by_cases h10:t.Kind=23
    ·simp[h10]
    simp[h4,h5,h6,h7,h8,h9,h10,kb h4,kb h5,kb h6,kb h7,kb h8,kb h9,kb h10]
theorem A9{t:aa}(h:bj t=true):(t.Kind=12->t.Kids.length=1)/\(t.Kind=13->t.Kids.length=1/\jd (t.Kids.getD 0 aa.zero)=false)/\(t.Kind=14->t.Kids.length=2)/\(t.Kind=17->t.Kids.length=t.bu.length):=by
 rw[oM]at h;simp only[aZ]at h;have hk:=h.1;unfold jH at hk;simp only[aZ]at hk;have hk:=hk.2;unfold sK at hk;refine⟨fun e=>?_,fun e=>?_,fun e=>?_,fun e=>?_⟩
 ·rw[av (.inl e)]at hk;simp at hk;exact hk.1
 ·rw[av (.inr e)]at hk;simp only[aZ,kO,iv]at hk;refine⟨hk.1,?_⟩;have hl:0<t.Kids.length:=by omega
  rw[getD_lt hl];have:=List.any_eq_false.1 hk.2 _ (bn hl);simpa using this
 ·rw[an (by omega),av e]at hk;simp at hk;exact hk
 ·rw[an (by omega),an (by omega),an (by omega),an (by omega),av e]at hk;simp at hk;exact hk
theorem XK(t:aa)(n:Int)(hl:t.Kids.length<=1048576)(h:t.Kind≠13):M.lh t n=some (if 0<=n/\n<(t.Kids.length:Int)then(t.Kids.getD n.toNat aa.zero,true)else(.mk 0 [] [] [],false)):=by
 unfold M.lh;rw[kb h,wrap_i64 (show(-9223372036854775808:Int)<=(t.Kids.length:Int)-1 by omega) (by omega)];simp only[aT];by_cases hn:0<=n/\n<(t.Kids.length:Int)
 ·rw[av hn,aY hn.1,aY (show n<=(t.Kids.length:Int)-1 by omega)];have hin:inB n t.Kids.length=true:=by unfold inB;rw[aY hn.1,aY hn.2];rfl
  rw[hin,aa.aP];rfl
 ·rw[an hn];have:(decide ((0:Int)<=n)&&decide (n<=(t.Kids.length:Int)-1))=false:=by
   rw[Bool.and_eq_false_iff];by_cases h0:0<=n
   ·right;exact bU (by omega)
   ·left;exact bU h0
  rw[this];rfl
theorem XJ(t:aa)(n:Int)(h:t.Kind=13)(hk:t.Kids.length=1)(hn:n=0\/n=1):M.lh t n=some (if n=0 then(.mk 1 [] [] [],true)else(t.Kids.getD 0 aa.zero,true)):=by
 unfold M.lh;rw[kt h,hk];rcases hn with rfl|rfl
 ·rfl
 ·have:Go.IntKind.wrap .i64 ((1:Int)-1)=0:=by decide
  have h2:Go.IntKind.wrap .i64 (((1:Nat):Int)-1)=0:=by decide
  rw[this,h2,aa.aP];rfl
theorem amF(v:ae)(t:aa)(hv:v.sz<=1048576)(ht:t.sz<=1048576)(hs:bj t=true)(hn:fY v.Num t=true):
 ∃l,M.wU v t=some (l,(kT v.Num v.Kids.length t).isSome)/\∀ts,kT v.Num v.Kids.length t=some ts->l=ts:=by
 obtain⟨s12,s13,s14,FH⟩:=A9 hs;have hl:=ae.fw hv;have hl2:=aa.fw ht;unfold M.wU kT;by_cases h12:t.Kind=12
 ·rw[av h12,kt h12];have hk:=s12 h12;have e:M.rI t.Kids (bif decide ((8:Int)<(v.Kids.length:Int))then 8 else(v.Kids.length:Int))=some (List.replicate (min v.Kids.length 8) (t.Kids.getD 0 aa.zero)):=by
   have e1:(bif decide ((8:Int)<(v.Kids.length:Int))then(8:Int)else(v.Kids.length:Int))=((min v.Kids.length 8:Nat):Int):=by
    by_cases h:(8:Int)<(v.Kids.length:Int)
    ·rw[aY h,aA];omega
    ·rw[bU h,aT];omega
   rw[e1];unfold M.rI;rw[aY hk,aY (show(0:Int)<=((min v.Kids.length 8:Nat):Int) by omega),aY (show((min v.Kids.length 8:Nat):Int)<=8 by omega),bL];rfl
  rw[e];exact⟨_,rfl,fun ts h=>ft h⟩
 ·rw[an h12,kb h12];simp only[aT];by_cases h15:t.Kind=15\/t.Kind=16
  ·rw[av h15];have:(bif t.Kind==15 then t.Kind==15 else t.Kind==16)=true:=by rcases h15 with h|h<;>simp[h]
   rw[this];exact⟨_,rfl,fun ts h=>ft h⟩
  ·rw[an h15];simp only[qD]at h15;simp only[kb h15.1,kb h15.2,aT];by_cases h13:t.Kind=13
   ·rw[av h13];simp only[kt h13,aA];obtain⟨k1,k2⟩:=s13 h13;have Y0:v.Num=0\/v.Num=1:=by
     unfold fY at hn;rw[av (.inr (.inl h13))]at hn;simp only[aZ,bh]at hn;omega
    rw[aa.aP,XJ t v.Num h13 k1 Y0];rcases Y0 with e|e
    ·rw[e];exact⟨[],rfl,fun ts h=>ft h⟩
    ·rw[e];have hku:((t.Kids.getD 0 aa.zero).Kind==1)=false:=k2;have ho:i9 (t.Kids.getD 0 aa.zero)=[t.Kids.getD 0 aa.zero]:=by unfold i9;rw[k2];rfl
     rw[an (by decide),an (by decide),av rfl,ho];simp only[aQ,hku,aT,aU,fF,aA,aa.aP];exact⟨_,rfl,fun ts h=>ft h⟩
   ·rw[an h13];by_cases je:t.Kind=14\/t.Kind=17
    ·rw[av je];have:(bif t.Kind==13 then t.Kind==13 else bif t.Kind==14 then t.Kind==14 else t.Kind==17)=true:=by rcases je with h|h<;>simp[h]
     rw[this,aa.aP,XK t v.Num hl2 h13];by_cases hb:0<=v.Num/\v.Num<(t.Kids.length:Int)
     ·rw[av hb,av hb];unfold i9 jd;cases hu:((t.Kids.getD v.Num.toNat aa.zero).Kind==1)
      ·simp only[aQ,hu,aT,aA,aU,fF,aa.aP];exact⟨_,rfl,fun ts h=>ft h⟩
      ·simp only[aQ,hu,aT,aA,aU,fF,aa.aP];exact⟨_,rfl,fun ts h=>ft h⟩
     ·rw[an hb,an hb];exact⟨_,rfl,fun ts h=>by cases h⟩
    ·rw[an je];simp only[qD]at je;simp only[kb h13,kb je.1,kb je.2,aT];exact⟨_,rfl,fun ts h=>ft h⟩
theorem amH{n:Int}{len:Nat}{t:aa}(hs:bj t=true){ts:List aa}(h:kT n len t=some ts):∀x∈ts,bj x=true:=by
 have hkids:∀x∈t.Kids,bj x=true:=by
  rw[oM,aZ,yA,eP]at hs;exact hs.2
 obtain⟨s12,s13,s14,FH⟩:=A9 hs;have hone:∀k,k<t.Kids.length->∀x∈i9 (t.Kids.getD k aa.zero),bj x=true:=fun k hk x hx=>by
  unfold i9 at hx;split at hx
  ·cases hx
  ·rw[vq]at hx;subst hx;rw[getD_lt hk];exact hkids _ (bn hk)
 unfold kT at h;split at h
 ·rename_i h12;simp only[ar]at h;subst h;intro x hx;rw[(List.mem_replicate.1 hx).2,getD_lt (by rw[s12 h12];omega)];exact hkids _ (bn _)
 ·split at h
  ·simp only[ar]at h;subst h;exact hkids
  ·split at h
   ·rename_i h13;split at h
    ·simp only[ar]at h;subst h;intro x hx;cases hx
    ·split at h
     ·simp only[ar]at h;subst h;exact hone 0 (by rw[(s13 h13).1];omega)
     ·cases h
   ·split at h
    ·split at h
     ·rename_i hb;simp only[ar]at h;subst h;exact hone _ (by omega)
     ·cases h
    ·simp only[ar]at h;subst h;intro x hx;cases hx
theorem amI{n:Int}{len:Nat}{t:aa}(hs:bj t=true)(ht:t.sz<=1048576){ts:List aa}(h:kT n len t=some ts):∀x∈ts,x.sz<=1048576:=by
 obtain⟨s12,s13,s14,FH⟩:=A9 hs;have hkids:∀x∈t.Kids,x.sz<=1048576:=fun x hx=>by have:=aa.cX hx;omega
 have hone:∀k,k<t.Kids.length->∀x∈i9 (t.Kids.getD k aa.zero),x.sz<=1048576:=fun k hk x hx=>by
  unfold i9 at hx;split at hx
  ·cases hx
  ·rw[vq]at hx;subst hx;rw[getD_lt hk];exact hkids _ (bn hk)
 unfold kT at h;split at h
 ·rename_i h12;simp only[ar]at h;subst h;intro x hx;rw[(List.mem_replicate.1 hx).2,getD_lt (by rw[s12 h12];omega)];exact hkids _ (bn _)
 ·split at h
  ·simp only[ar]at h;subst h;exact hkids
  ·split at h
   ·rename_i h13;split at h
    ·simp only[ar]at h;subst h;intro x hx;cases hx
    ·split at h
     ·simp only[ar]at h;subst h;exact hone 0 (by rw[(s13 h13).1];omega)
     ·cases h
   ·split at h
    ·split at h
     ·rename_i hb;simp only[ar]at h;subst h;exact hone _ (by omega)
     ·cases h
    ·simp only[ar]at h;subst h;intro x hx;cases hx
theorem XR:∀(m:Nat)(v:ae)(t:aa),v.sz<m->v.sz<=1048576->t.sz<=1048576->bj t=true->M.nO m v t=some (bY v t)
 |0,v,t,h,_,_,_=>absurd h (en _)
 |m+1,v,t,h,hv,ht,hs=>by
  have hl:=ae.fw hv
  show M.zS (M.nO m) v t=_
  unfold M.zS;rw[ae.aP,aa.aP,amC,amA _ (ae.YX hv),Fb];simp only[aQ,aU,cD,aO,aA,kf];have hhead:headB v.Kind v.Num v.Text t= !(((!(v.Kind==t.Kind))||(!fY v.Num t)||((!(v.Text==[]))&&(!(t.Kind==11))))||(!gA v.Text)):=by
   unfold headB;cases (v.Kind==t.Kind)<;>cases fY v.Num t<;>cases (v.Text==[])<;>cases (t.Kind==11)<;>cases gA v.Text<;>rfl
  cases hb:(((!(v.Kind==t.Kind))||(!fY v.Num t)||((!(v.Text==[]))&&(!(t.Kind==11))))||(!gA v.Text))
  ·rw[hhead,hb];have hn:fY v.Num t=true:=by
    simp only[FI,Bool.not_eq_false']at hb;exact hb.1.1.2
   obtain⟨l,e1,e2⟩:=amF v t hv ht hs hn;rw[e1];simp only[aT,aQ,aU,qy,bM];cases hk:kT v.Num v.Kids.length t with
   |none=>rfl
   |some ts=>
    have:=e2 ts hk;subst this;simp only[aU,gz,sN];by_cases hlen:l.length=v.Kids.length
    ·have:((l.length:Int)==(v.Kids.length:Int))=true:=by rw[kO];omega
     rw[this,aY hlen];have hloop:=sS (p:=fun k=>bY (v.Kids.getD k ae.zero) (l.getD k aa.zero)) (F:=fun f i=>M.nN (M.nO m) l v.Kids (v.Kids.length:Int) f i) (e:=()) (b:=false) v.Kids.length (by omega) (fun f k hk2=>by
      show M.nN (M.nO m) l v.Kids (v.Kids.length:Int) (f+1) (k:Int)=_
      rw[M.nN];have hx:=ae.cX (bn hk2);have hkl:k<l.length:=by omega
      have hx2:=amI hs ht hk l[k] (bn hkl);have hx3:=amH hs hk l[k] (bn hkl);simp only[aa.aP,ae.aP,getD_lt hk2,getD_lt hkl,XR m v.Kids[k] l[k] (by omega) (by omega) hx2 hx3,bL,cq,cJ,hk2,hkl,cn,aA,cD,bM,aO,cm hk2 (by omega:v.Kids.length<2^62),aQ,aU];cases bY v.Kids[k] l[k]<;>rfl) (fun f=>by
      show M.nN (M.nO m) l v.Kids (v.Kids.length:Int) (f+1) _=_
      rw[M.nN];simp)
     have amJ:M.nN (M.nO m) l v.Kids (v.Kids.length:Int) ah 0=_:=hloop;rw[amJ,yq _ _ hlen];cases (List.range v.Kids.length).all fun k=>bY (v.Kids.getD k ae.zero) (l.getD k aa.zero)<;>rfl
    ·have:((l.length:Int)==(v.Kids.length:Int))=false:=by rw[kK];omega
     rw[this,bU hlen];rfl
  ·rw[hhead,hb];rfl
end M
namespace M
open Go.V (inB bV ah cC)
theorem amK:gA []=true:=rfl
section
variable {rec :ae->aa->Option Bool}{kids:List ae}
theorem Y1(most:Int)(t:aa)(hl:kids.length<=1048576)(hr:∀x∈kids,rec x t=some (bY x t)):
 M.ui rec kids most t=some (decide ((kids.length:Int)<=most)&&kids.all fun v=>bY v t):=by
 have e:=KZ (p:=fun v=>bY v t) (F:=fun f i=>M.nJ rec kids f i t) (e:=()) (b:=false) kids (by omega) (fun f k hk=>by
  show M.nJ rec kids (f+1) (k:Int) t=_
  rw[M.nJ];simp only[aa.aP,ae.aP,getD_lt hk,hr _ (bn hk),bL,cq,cJ,hk,cn,aA,cD,bM,aO,cm hk (by omega:kids.length<2^62),aQ,aU];cases bY kids[k] t<;>rfl) (fun f=>by
  show M.nJ rec kids (f+1) _ t=_
  rw[M.nJ];simp)
 have e':M.nJ rec kids ah 0 t=_:=e;unfold M.ui;rw[aa.aP,e'];by_cases h:(kids.length:Int)<=most
 ·rw[aY h,bU (show ¬most<(kids.length:Int) by omega)];cases kids.all fun v=>bY v t<;>rfl
 ·rw[bU h,aY (show most<(kids.length:Int) by omega)];rfl
theorem amL(ts:List aa)(hl:kids.length<=1048576)(hr:∀k,k<kids.length->k<ts.length->rec (kids.getD k ae.zero) (ts.getD k aa.zero)=some (bY (kids.getD k ae.zero) (ts.getD k aa.zero))):
 M.wQ rec kids ts=some (decide (ts.length=kids.length)&&i7 kids ts):=by
 unfold M.wQ;by_cases hlen:ts.length=kids.length
 ·have e:=sS (p:=fun k=>bY (kids.getD k ae.zero) (ts.getD k aa.zero)) (F:=fun f i=>M.nL rec kids ts f i) (e:=()) (b:=false) kids.length (by omega) (fun f k hk=>by
   show M.nL rec kids ts (f+1) (k:Int)=_
   rw[M.nL];have hk2:k<ts.length:=by omega
   simp only[aa.aP,ae.aP,bL,hr k hk hk2,cq,cJ,hk,hk2,cn,aA,cD,bM,aO,cm hk (by omega:kids.length<2^62),aQ,aU];cases bY (kids.getD k ae.zero) (ts.getD k aa.zero)<;>rfl) (fun f=>by
   show M.nL rec kids ts (f+1) _=_
   rw[M.nL];simp)
  have e':M.nL rec kids ts ah 0=_:=e;have hne:((kids.length:Int) !=(ts.length:Int))=false:=by rw[kf,hlen];simp
  rw[hne,e',aY hlen,yq _ _ hlen];cases (List.range kids.length).all fun k=>bY (kids.getD k ae.zero) (ts.getD k aa.zero)<;>rfl
 ·have hne:((kids.length:Int) !=(ts.length:Int))=true:=by rw[kf,kb (show(kids.length:Int)≠(ts.length:Int) by omega)];rfl
  rw[hne,bU hlen];rfl
theorem Y2(t:aa)(hl:kids.length<=1048576)(hr:∀x∈kids,rec x t=some (bY x t)):
 M.uh rec kids t=some (decide ((i9 t).length=kids.length)&&i7 kids (i9 t)):=by
 unfold M.uh i9 jd;cases hu:(t.Kind==1)
 ·simp only[aT,ki,fa,aa.aP,ae.aP,Int.toNat_zero]
  match kids,hr with
  |[],_=>
    have h1:((([]:List ae).length:Int)==1)=false:=rfl;rw[h1];simp[i7]
  |[x],hr=>
    have:=hr x (vq.2 rfl);simp only[List.getD_cons_zero,this];simp[inB,i7]
  |x::y::r,_=>
   have h1:(((x::y::r).length:Int)==1)=false:=kb (by simp only[bX];omega);have h2:decide ([t].length=(x::y::r).length)=false:=bU (by simp);rw[h1,h2];simp
 ·simp only[aA,fQ]
  match kids with
  |[]=>rfl
  |x::r=>
   have h1:(((x::r).length:Int)==0)=false:=kb (by simp only[bX];omega);have h2:decide (([]:List aa).length=(x::r).length)=false:=bU (by simp);rw[h1,h2];rfl
end
theorem len0(l:List ae):((l.length:Int)==0)=decide (([]:List aa).length=l.length):=by
 cases l with
 |nil=>rfl
 |cons a r=>rw[kb (by simp only[bX];omega),bU (by simp)]
theorem amM(l:List ae):(decide (([]:List aa).length=l.length)&&i7 l [])=decide (([]:List aa).length=l.length):=by
 cases l with
 |nil=>rfl
 |cons a r=>rw[bU (by simp)];rfl
theorem amN(n:Nat)(h:n<=1048576):Go.IntKind.wrap .u64 (n:Int)=(n:Int):=Go.IntWalk.u64_in _ (by omega)
theorem FK(l:List ae):(decide (([]:List aa).length=l.length)&&i7 l [])=((l.length:Int)==0):=by rw[amM,len0]
theorem Ld(n:Int):(decide ((0:Int)<=n)&&decide (n<=(0:Int)))=(n==0):=by
 by_cases h:n=0
 ·rw[h];rfl
 ·rw[kb h,Bool.and_eq_false_iff];by_cases h0:(0:Int)<=n
  ·right;exact bU (by omega)
  ·left;exact bU h0
section
variable {rec :ae->aa->Option Bool}
theorem amO(v:ae)(t:aa)(hv:v.sz<=1048576)(ht:t.sz<=1048576)(hs:bj t=true)
 (hrec:∀x∈v.Kids,∀y∈t.Kids,rec x y=some (bY x y)) (hk:v.Kind=t.Kind) (htx:t.Kind≠11) (hte:v.Text=[]):
 M.pP rec v t=some (fY v.Num t&&(match kT v.Num v.Kids.length t with
 |some ts=>decide (ts.length=v.Kids.length)&&i7 v.Kids ts
 |none=>false)):=by
 have hl:=ae.fw hv;have hl2:=aa.fw ht;have hlab:=aa.ama ht;obtain⟨s12,s13,s14,FH⟩:=A9 hs;have FM:∀k,k<t.Kids.length->∀x∈v.Kids,rec x (t.Kids.getD k aa.zero)=some (bY x (t.Kids.getD k aa.zero)):=fun k hk x hx=>by
  rw[getD_lt hk];exact hrec x hx _ (bn hk)
 unfold M.pP;simp only[aa.aP,ae.aP,kf,kt hk,hte,lH,gz,Bool.and_false,ip,aT];by_cases h2:t.Kind=2
 ·unfold fY kT;simp only[h2,Int.reduceBEq,Int.reduceEq,aA,aT,ip,or_self,true_or,or_true,kG,false_or,fQ,fa,FK];cases (decide ((0:Int)<=v.Num)&&decide (v.Num<=(1:Int)))<;>rfl
 by_cases je:t.Kind=14
 ·unfold fY kT;simp only[je,Int.reduceBEq,Int.reduceEq,aA,aT,ip,m8,kN,cD,or_self,true_or,or_true,kG,false_or,fQ,fa];by_cases hn:(decide ((0:Int)<=v.Num)&&decide (v.Num<=(1:Int)))=true
  ·rw[hn];simp only[aZ,bh]at hn;have hk2:=s14 je;have hin:inB v.Num t.Kids.length=true:=by unfold inB;rw[aY hn.1,aY (by omega)];rfl
   rw[Y2 (t.Kids.getD v.Num.toNat aa.zero) hl (FM _ (by omega)),hin,av (show 0<=v.Num/\v.Num<(t.Kids.length:Int) by omega)];simp
  ·simp only[vn]at hn;rw[hn];rfl
 by_cases h13:t.Kind=13
 ·unfold fY kT;simp only[h13,Int.reduceBEq,Int.reduceEq,aA,aT,ip,m8,kN,cD,or_self,true_or,or_true,kG,false_or,fQ,fa];obtain⟨k1,k2⟩:=s13 h13;have hin:inB (0:Int) t.Kids.length=true:=by rw[k1];rfl
  have ho:i9 (t.Kids.getD 0 aa.zero)=[t.Kids.getD 0 aa.zero]:=by unfold i9;rw[k2];rfl
  rw[Int.toNat_zero,Y1 1 (t.Kids.getD 0 aa.zero) hl (FM 0 (by omega)),hin,ho];simp only[aU,cD,fF,aA,aQ];congr 1
  match hkk:v.Kids with
  |[]=>
    by_cases hn:v.Num=0
    ·rw[hn];rfl
    ·rw[kb (show v.Num≠((([]:List ae).length:Nat):Int) by simpa using hn)];rw[an hn];by_cases h1:v.Num=1
     ·rw[av h1];simp
     ·rw[an h1];simp
  |[x]=>
    by_cases hn:v.Num=1
    ·rw[hn];simp[i7]
    ·rw[kb (show v.Num≠((([x]:List ae).length:Nat):Int) by simpa using hn)];by_cases h1:v.Num=0
     ·rw[av h1];simp
     ·rw[an h1,an hn];simp
  |x::y::r=>
   have e1:decide ((((x::y::r).length:Nat):Int)<=1)=false:=bU (by simp only[bX];omega);rw[e1];by_cases h0:v.Num=0
   ·rw[av h0];simp
   ·rw[an h0];by_cases h1:v.Num=1
    ·rw[av h1];simp
    ·rw[an h1];simp
 by_cases h10:t.Kind=10
 ·unfold fY kT;have hc:M.jz v.Num=some (KO v.Num):=rfl;simp only[h10,hc,Int.reduceBEq,Int.reduceEq,Int.reduceLE,aA,aT,ip,or_self,true_or,or_true,kG,false_or,and_false,and_true,fQ,fa,FK,aQ]
 by_cases h12:t.Kind=12
 ·unfold fY kT sQ;simp only[h12,Int.reduceBEq,Int.reduceEq,Int.reduceLE,aA,aT,ip,m8,kN,cD,or_self,true_or,or_true,kG,false_or,and_false,and_true,fQ,fa,Ld];have k1:=s12 h12;have hin:inB (0:Int) t.Kids.length=true:=by rw[k1];rfl
  rw[Int.toNat_zero,Y1 8 (t.Kids.getD 0 aa.zero) hl (FM 0 (by omega)),hin];simp only[aU,cD,fF,aA,aQ,gw];by_cases h8:v.Kids.length<=8
  ·rw[aY (show(v.Kids.length:Int)<=8 by omega),aY (show min v.Kids.length 8=v.Kids.length by omega),Kr _ _ _ (show min v.Kids.length 8=v.Kids.length by omega)]
  ·rw[bU (show ¬(v.Kids.length:Int)<=8 by omega),bU (show ¬min v.Kids.length 8=v.Kids.length by omega)];rfl
 by_cases h15:t.Kind=15\/t.Kind=16
 ·have e:=amL (rec:=rec) (kids:=v.Kids) t.Kids hl (fun k h1 h2=>by rw[getD_lt h1,getD_lt h2];exact hrec _ (bn h1) _ (bn h2));unfold fY kT sQ;rcases h15 with h|h
  all_goals
   simp only[h,e,Int.reduceBEq,Int.reduceEq,Int.reduceLE,aA,aT,ip,m8,kN,cD,or_self,true_or,or_true,kG,false_or,and_false,and_true,fQ,fa,Ld,aU,fF,aQ]
 by_cases h17:t.Kind=17
 ·unfold fY kT sQ;obtain⟨b,er⟩:=YZ t.Kind;simp only[h17]at er;simp only[h17,er,Int.reduceBEq,Int.reduceEq,Int.reduceLE,aA,aT,ip,m8,kN,cD,or_self,true_or,or_true,kG,false_or,and_false,and_true,fQ,fa,aU];have k1:=FH h17;have hw:Go.IntKind.wrap .i64 ((t.bu.length:Int)-1)=(t.bu.length:Int)-1:=wrap_i64 (by omega) (by omega);rw[hw];by_cases hn:0<=v.Num/\v.Num<(t.Kids.length:Int)
  ·have hin:inB v.Num t.Kids.length=true:=by unfold inB;rw[aY hn.1,aY hn.2];rfl
   rw[av hn,aY hn.1,aY (show v.Num<=(t.bu.length:Int)-1 by omega),Y2 (t.Kids.getD v.Num.toNat aa.zero) hl (FM _ (by omega)),hin];simp
  ·have:(decide ((0:Int)<=v.Num)&&decide (v.Num<=(t.bu.length:Int)-1))=false:=by
    rw[Bool.and_eq_false_iff];by_cases h0:0<=v.Num
    ·right;exact bU (by omega)
    ·left;exact bU h0
   rw[an hn,this];rfl
 simp only[qD]at h15;have Le:kT v.Num v.Kids.length t=some []:=by
  unfold kT;rw[an h12,an (by omega),an h13,an (by omega)]
 rw[Le];simp only[FK,kb h2,kb je,kb h13,kb h10,kb htx,kb h12,kb h15.1,kb h15.2,kb h17,aT,ip];obtain⟨b,er⟩:=YZ t.Kind;rw[er];simp only[aQ,aU,bM,cD,aO,aA];rw[amN _ hlab];unfold fY;rw[an (by omega),an h10];unfold sQ Fq;by_cases h18:t.Kind=18
 ·simp only[h18,Int.reduceBEq,Int.reduceEq,Int.reduceLE,aA,aT,or_self,true_or,or_true,kG,false_or,and_false,and_true,fQ,fa];cases (decide ((0:Int)<=v.Num)&&decide (v.Num<=Go.IntKind.wrap .i64 ((t.bu.length:Int)-1)))<;>rfl
 by_cases h19:t.Kind=19
 ·simp only[h19,Int.reduceBEq,Int.reduceEq,Int.reduceLE,aA,aT,or_self,true_or,or_true,kG,false_or,and_false,and_true,fQ,fa];cases (decide ((0:Int)<=v.Num)&&decide (v.Num<=Go.IntKind.wrap .i64 (Go.V.lv .i64 (1:Int) (t.bu.length:Int)-1)))<;>rfl
 by_cases h20:t.Kind=20\/t.Kind=21\/t.Kind=22\/t.Kind=23
 ·rcases h20 with h|h|h|h
  all_goals
   simp only[h,Int.reduceBEq,Int.reduceEq,Int.reduceLE,aA,aT,or_self,true_or,or_true,kG,false_or,and_false,and_true,fQ,fa];cases (decide ((0:Int)<=v.Num)&&decide (v.Num<=(2147483647:Int)))<;>rfl
 simp only[qD]at h20;simp only[kb h18,kb h19,kb h20.1,kb h20.2.1,kb h20.2.2.1,kb h20.2.2.2,aT];by_cases Lh:3<=t.Kind/\t.Kind<=9
 ·rw[av Lh];cases (decide ((kP t.Kind).1<=v.Num)&&decide (v.Num<=(kP t.Kind).2))<;>rfl
 ·rw[an Lh,amB Lh,an (by omega),an h19,an (by omega)];cases (decide ((0:Int)<=v.Num)&&decide (v.Num<=(0:Int)))<;>rfl
end
theorem Ym:∀(m:Nat)(v:ae)(t:aa),v.sz<m->v.sz<=1048576->t.sz<=1048576->bj t=true->M.uj m v t=some (bY v t)
 |0,v,t,h,_,_,_=>absurd h (en _)
 |m+1,v,t,h,hv,ht,hs=>by
  have amP:∀x∈t.Kids,bj x=true:=by
   rw[oM,aZ,yA,eP]at hs;exact hs.2
  have hrec:∀x∈v.Kids,∀y∈t.Kids,M.uj m x y=some (bY x y):=fun x hx y hy=>by
   have h1:=ae.cX hx;have h2:=aa.cX hy;exact Ym m x y (by omega) (by omega) (by omega) (amP y hy)
  show M.pP (M.uj m) v t=_
  rw[Fb];by_cases hk:v.Kind=t.Kind
  ·by_cases h11:t.Kind=11
   ·have hh:headB v.Kind v.Num v.Text t=(gA v.Text&&(v.Num==0)):=by
     unfold headB fY sQ;simp only[kt hk,h11,kt (hk.trans h11),Int.reduceBEq,Int.reduceEq,Int.reduceLE,or_self,kG,false_or,and_false,and_true,fQ,fa,Ld,kN,aO,bM];rw[Bool.and_comm]
    have Le:kT v.Num v.Kids.length t=some []:=by
     unfold kT;rw[an (by omega),an (by omega),an (by omega),an (by omega)]
    rw[hh,Le];unfold M.pP;simp only[aa.aP,ae.aP,kf,kt hk,h11,kt (hk.trans h11),FK,amz _ (ae.YX hv),Int.reduceBEq,gz,oP,ip,aA,aT,aU,aQ,fF]
   ·by_cases hte:v.Text=[]
    ·rw[amO v t hv ht hs hrec hk h11 hte];have:headB v.Kind v.Num v.Text t=fY v.Num t:=by unfold headB;rw[kt hk,hte,amK];simp
     rw[this];try rfl
    ·have e:(v.Text==[])=false:=by
      cases h:v.Text with
      |nil=>exact absurd h hte
      |cons a r=>rfl
     have:headB v.Kind v.Num v.Text t=false:=by unfold headB;rw[e,kb h11];simp
     rw[this];unfold M.pP;rw[kf,kf,kt hk,kb h11,e];rfl
  ·have:headB v.Kind v.Num v.Text t=false:=by unfold headB;rw[kb hk];rfl
   rw[this];unfold M.pP;rw[kf,kb hk];rfl
end M
