/-
  A TEXT'S FIRST CODE POINT, as the reference reckons it, beside the decoder of the language: in plain words.
-/
import Derived.Test.YtbeijibjinbgcaaGreatDoorXHTP
import Derived.Lib.MapLaws
set_option linter.unusedVariables false
set_option linter.unusedSimpArgs false
namespace M
open Go Go.V Go.Lib
theorem Lq(n:Nat)(h:n<256):IntKind.wrap .u8 (n:Int)=(n:Int):=by
 have:∀m:Fin 256,IntKind.wrap .u8 ((m.val:Nat):Int)=((m.val:Nat):Int):=by decide+kernel
 exact this ⟨n,h⟩
theorem mX(n:Nat)(h:n<2^62):IntKind.wrap .i64 (n:Int)=(n:Int):=wrap_i64 (by omega) (by omega)
theorem D6(n:Nat)(h:n<2^62):gp .and .i64 (n:Int) 63=((n%64:Nat):Int):=by
 have e:(BitVec.ofInt 64 (n:Int)&&& BitVec.ofInt 64 (63:Int)).toNat=n%64:=by
  rw[BitVec.toNat_and];have h1:(BitVec.ofInt 64 (n:Int)).toNat=n:=by rw[BitVec.toNat_ofInt];omega
  have h2:(BitVec.ofInt 64 (63:Int)).toNat=63:=by decide
  rw[h1,h2];exact Nat.and_two_pow_sub_one_eq_mod n 6
 show IntKind.wrap .i64 (((BitVec.ofInt 64 (n:Int)&&& BitVec.ofInt 64 (63:Int)).toNat:Nat):Int)=_
 rw[e,mX _ (by omega)]
theorem Zr(x:UInt8):gp .and .u8 ((x.toNat:Nat):Int) 63=((x.toNat%64:Nat):Int):=by
 have:∀m:Fin 256,gp .and .u8 ((m.val:Nat):Int) 63=((m.val%64:Nat):Int):=by decide+kernel
 exact this ⟨x.toNat,x.toNat_lt⟩
theorem Zs(n r:Nat)(hr:r<64)(h:n<2^40):gp .or .i64 ((n*64:Nat):Int) (r:Int)=((n*64+r:Nat):Int):=by
 have e:(BitVec.ofInt 64 ((n*64:Nat):Int)|||BitVec.ofInt 64 (r:Int)).toNat=n*64+r:=by
  rw[BitVec.toNat_or];have h1:(BitVec.ofInt 64 ((n*64:Nat):Int)).toNat=n*64:=by rw[BitVec.toNat_ofInt];omega
  have h2:(BitVec.ofInt 64 (r:Int)).toNat=r:=by rw[BitVec.toNat_ofInt];omega
  rw[h1,h2];have:=Nat.two_pow_add_eq_or_of_lt (b:=r) (i:=6) (by simpa using hr) n;rw[show(2:Nat)^6=64 by rfl]at this;rw[qO n 64,<-this]
 show IntKind.wrap .i64 (((BitVec.ofInt 64 ((n*64:Nat):Int)|||BitVec.ofInt 64 (r:Int)).toNat:Nat):Int)=_
 rw[e,mX _ (by omega)]
theorem Zt(n:Nat)(h:n<2^40):mY .i64 (n:Int) 6=((n*64:Nat):Int):=by
 have:mY .i64 (n:Int) 6=IntKind.wrap .i64 ((n:Int)*64):=rfl;rw[this,show(n:Int)*64=((n*64:Nat):Int) by omega,mX _ (by omega)]
theorem Zu(n:Nat):jg .i64 (n:Int) 6=((n/64:Nat):Int):=by
 have:jg .i64 (n:Int) 6=(n:Int).fdiv 64:=rfl;rw[this,Int.fdiv_eq_ediv_of_nonneg _ (by omega)];omega
theorem Zv(n:Nat):jg .i64 (n:Int) 12=((n/4096:Nat):Int):=by
 have:jg .i64 (n:Int) 12=(n:Int).fdiv 4096:=rfl;rw[this,Int.fdiv_eq_ediv_of_nonneg _ (by omega)];omega
theorem Zw(n:Nat):jg .i64 (n:Int) 18=((n/262144:Nat):Int):=by
 have:jg .i64 (n:Int) 18=(n:Int).fdiv 262144:=rfl;rw[this,Int.fdiv_eq_ediv_of_nonneg _ (by omega)];omega
theorem ua(k:Int)(m:Nat)(h:k=(m:Int))(hm:m<256):IntKind.wrap .u8 (IntKind.wrap .i64 k)=(m:Int):=by
 subst h;rw[mX m (by omega),Lq m hm]
theorem lQ(m:Nat)(h:m<256):iz (m:Int)=true:=by unfold iz;simp;omega
theorem zI(m:Nat):fy (m:Int)=UInt8.ofNat m:=rfl
def jI(n:Nat):List UInt8:=
 if n<128 then[UInt8.ofNat n]
 else if n<2048 then[UInt8.ofNat (192+n/64),UInt8.ofNat (128+n%64)]
 else if n<65536 then[UInt8.ofNat (224+n/4096),UInt8.ofNat (128+n/64%64),UInt8.ofNat (128+n%64)]
 else[UInt8.ofNat (240+n/262144),UInt8.ofNat (128+n/4096%64),UInt8.ofNat (128+n/64%64),UInt8.ofNat (128+n%64)]
theorem Zx(n:Nat)(h:n<=1114111):M.mZ (n:Int)=some (jI n):=by
 have ha:=D6 n (by omega);have hb:=D6 (n/64) (by omega);have hc:=D6 (n/4096) (by omega);unfold M.mZ jI;rw[Zu,Zv,Zw,hb,hc,ha];by_cases h1:n<128
 ·rw[aF h1,Lq n (by omega),lQ n (by omega),zI];have:decide ((n:Int)<128)=true:=by simp;omega
  rw[this];rfl
 ·rw[bF h1];have d1:decide ((n:Int)<128)=false:=by simp;omega
  rw[d1];have b0:=ua (128+((n%64:Nat):Int)) (128+n%64) (by omega) (by omega);rw[b0];by_cases h2:n<2048
  ·have d2:decide ((n:Int)<2048)=true:=by simp;omega
   have b1:=ua (192+((n/64:Nat):Int)) (192+n/64) (by omega) (by omega);rw[aF h2,d2,b1];simp only[aZ,aE,lQ _ (show 192+n/64<256 by omega),lQ _ (show 128+n%64<256 by omega),zI,bn,List.map_id']
  ·rw[bF h2];have d2:decide ((n:Int)<2048)=false:=by simp;omega
   have b2:=ua (128+((n/64%64:Nat):Int)) (128+n/64%64) (by omega) (by omega);rw[d2,b2];by_cases h3:n<65536
   ·have d3:decide ((n:Int)<65536)=true:=by simp;omega
    have b1:=ua (224+((n/4096:Nat):Int)) (224+n/4096) (by omega) (by omega);rw[aF h3,d3,b1];simp only[aZ,aE,lQ _ (show 224+n/4096<256 by omega),lQ _ (show 128+n/64%64<256 by omega),lQ _ (show 128+n%64<256 by omega),zI,bn,List.map_id']
   ·have d3:decide ((n:Int)<65536)=false:=by simp;omega
    have b1:=ua (240+((n/262144:Nat):Int)) (240+n/262144) (by omega) (by omega);have b3:=ua (128+((n/4096%64:Nat):Int)) (128+n/4096%64) (by omega) (by omega);rw[bF h3,d3,b1,b3];simp only[aZ,aE,lQ _ (show 240+n/262144<256 by omega),lQ _ (show 128+n/4096%64<256 by omega),lQ _ (show 128+n/64%64<256 by omega),lQ _ (show 128+n%64<256 by omega),zI,bn,List.map_id']
def j7(n:Nat):List UInt8->Nat
 |[]=>n
 |x::r=>j7 (n*64+x.toNat%64) r
theorem Lr(s:List UInt8)(many:Nat)(hm:many<=s.length)(hs:s.length<=1048576):∀(d f n i:Nat),i+d=many->d<=3->(n+1)*64^d<=2^24->
 M.oS s (many:Int) (f+d+1) (n:Int) (i:Int)=some (s,(many:Int),((j7 n ((s.take many).drop i):Nat):Int))
 |0,f,n,i,hi,_,hn=>by
  have d:decide ((i:Int)<(many:Int))=false:=by simp;omega
  have e:(s.take many).drop i=[]:=List.drop_eq_nil_of_le (by rw[jY];omega);rw[e];simp only[M.oS,d,aZ,j7]
 |d+1,f,n,i,hi,hd,hn=>by
  have d1:decide ((i:Int)<(many:Int))=true:=by simp;omega
  have hin:inB (i:Int) s.length=true:=by rw[ct];simp;omega
  have hil:i<(s.take many).length:=by rw[jY];omega
  have hg:s.getD i 0=(s.take many)[i]:=by rw[getD_lt (by omega),List.getElem_take]
  have hp:64^(d+1)=64*64^d:=by rw[Nat.pow_succ,qO]
  have hn2:n<2^24:=by
   have:(n+1)*1<=(n+1)*64^(d+1):=Nat.mul_le_mul_left _ (Nat.pos_of_ne_zero (by simp));omega
  have hb:((s.getD i 0).toNat%64)<64:=Nat.mod_lt _ (by omega);have hstep:(n*64+(s.getD i 0).toNat%64+1)*64^d<=2^24:=by
   have:(n*64+(s.getD i 0).toNat%64+1)*64^d<=((n+1)*64)*64^d:=bT _ (by omega);rw[hp,<-Nat.mul_assoc]at hn;omega
  have ih:=Lr s many hm hs d f (n*64+(s.getD i 0).toNat%64) (i+1) (by omega) (by omega) hstep;rw[jZ hil,j7];rw[show f+(d+1)+1=(f+d+1)+1 by omega,M.oS];rw[d1,bV,hin];simp only[aE,aD];rw[Zt n (by omega),Zr,mX ((s.getD i 0).toNat%64) (by omega),Zs n _ hb (by omega),bN (show i<many by omega) (by omega)];rw[ih,hg]
end M
namespace M
open Go Go.V Go.Lib
def fj(b:Nat):Nat:=if 240<=b then 4 else if 224<=b then 3 else if 192<=b then 2 else 1
def fV(b:Nat):Nat:=if 240<=b then b-240 else if 224<=b then b-224 else if 192<=b then b-192 else b
def jh(n:Nat):Bool:=decide (n<=55295)||(decide (57344<=n)&&decide (n<=1114111))
def jJ(s:List UInt8):Nat×Nat:=
 if s.length<fj (s.getD 0 0).toNat then(0,0)
 else if jh (j7 (fV (s.getD 0 0).toNat) ((s.take (fj (s.getD 0 0).toNat)).drop 1))&&(jI (j7 (fV (s.getD 0 0).toNat) ((s.take (fj (s.getD 0 0).toNat)).drop 1))==s.take (fj (s.getD 0 0).toNat))then
  (j7 (fV (s.getD 0 0).toNat) ((s.take (fj (s.getD 0 0).toNat)).drop 1),fj (s.getD 0 0).toNat)
 else(0,0)
theorem Zy(n:Nat):M.iC (n:Int)=some (jh n):=by
 unfold M.iC jh;have h1:decide ((0:Int)<=(n:Int))=true:=by simp
 have h2:decide ((n:Int)<=55295)=decide (n<=55295):=by congr 1;exact propext ⟨fun h=>by omega,fun h=>by omega⟩
 have h3:decide ((57344:Int)<=(n:Int))=decide (57344<=n):=by congr 1;exact propext ⟨fun h=>by omega,fun h=>by omega⟩
 have h4:decide ((n:Int)<=1114111)=decide (n<=1114111):=by congr 1;exact propext ⟨fun h=>by omega,fun h=>by omega⟩
 rw[h1,h2,h3,h4,bJ]
theorem Zz{n:Nat}(h:jh n=true):n<=1114111:=by
 unfold jh at h;simp only[fU,bk,bC]at h;omega
theorem zJ(s:List UInt8)(m n:Nat)(hm:m<=s.length)(q9:Bool)(h9:q9=true):
 (bif((!(Option.getD (M.iC (n:Int)) Inhabited.default))||(!((Option.getD (M.mZ (n:Int)) Inhabited.default)==(List.drop (Int.toNat (0:Int)) (List.take (Int.toNat (m:Int)) s)))))then
   (bif(((Go.V.cC (0:Int) (m:Int) (List.length s))||(!((!(Option.getD (M.iC (n:Int)) Inhabited.default))==false)))&&(((Option.isSome (M.mZ (n:Int)))||(!((!(Option.getD (M.iC (n:Int)) Inhabited.default))==false)))&&((Option.isSome (M.iC (n:Int)))&&q9)))then some ((0:Int),(0:Int))else none)
 else
  (bif(((Go.V.cC (0:Int) (m:Int) (List.length s))||(!((!(Option.getD (M.iC (n:Int)) Inhabited.default))==false)))&&(((Option.isSome (M.mZ (n:Int)))||(!((!(Option.getD (M.iC (n:Int)) Inhabited.default))==false)))&&((Option.isSome (M.iC (n:Int)))&&q9)))then some ((n:Int),(m:Int))else none))=
 some (if jh n&&(jI n==s.take m)then(((n:Nat):Int),((m:Nat):Int))else(0,0)):=by
 subst h9;have hsl:cC (0:Int) (m:Int) s.length=true:=by unfold cC;simp;omega
 rw[Zy,hsl,bV];simp only[aQ,bf,cQ,aD,bJ];cases hc:jh n
 ·simp
 ·rw[Zx n (Zz hc)];simp only[aQ,bf,dG,jw,Int.toNat_zero,iy,cQ,bn,aE,bJ];cases hb:(jI n==s.take m)<;>simp
theorem ZA(s:List UInt8)(hne:s≠[])(hs:s.length<=1048576):M.ub s=some (((jJ s).1:Int),((jJ s).2:Int)):=by
 have hl:0<s.length:=List.length_pos_iff.2 hne;have e0:(s==[])=false:=by cases s with
  |nil=>exact absurd rfl hne
  |cons a r=>rfl
 have hin:inB (0:Int) s.length=true:=by have:=ct 0 s.length;simpa [hl]using this
 have hb:(s.getD 0 0).toNat<256:=UInt8.toNat_lt _;obtain⟨f,hf⟩:∃f,an=f+3+1:=⟨an-4,by have:=kL (n:=100) (by omega);omega⟩;have key:∀(m n0:Nat),fj (s.getD 0 0).toNat=m->fV (s.getD 0 0).toNat=n0->1<=m->m<=4->(n0+1)*64^(m-1)<=2^24->¬s.length<m->M.oS s (m:Int) an (n0:Int) 1=some (s,(m:Int),((j7 n0 ((s.take m).drop 1):Nat):Int)):=fun m n0 h1 h2 h3 h4 h5 h6=>by
  have:=Lr s m (by omega) hs (m-1) (f+4-m) n0 1 (by omega) (by omega) h5;rw[hf,show f+3+1=(f+4-m)+(m-1)+1 by omega];exact this
 unfold M.ub;rw[e0,Int.toNat_zero];have hw:IntKind.wrap .i64 ((s.getD 0 0).toNat:Int)=((s.getD 0 0).toNat:Int):=mX _ (by omega);unfold jJ;by_cases hZ:240<=(s.getD 0 0).toNat
 ·have xB:decide ((240:Int)<=((s.getD 0 0).toNat:Int))=true:=cy (by omega);have hm:fj (s.getD 0 0).toNat=4:=by unfold fj;rw[aF hZ]
  have hn:fV (s.getD 0 0).toNat=(s.getD 0 0).toNat-240:=by unfold fV;rw[aF hZ]
  have hw2:IntKind.wrap .i64 (((s.getD 0 0).toNat:Int)-240)=(((s.getD 0 0).toNat-240:Nat):Int):=by rw[show((s.getD 0 0).toNat:Int)-240=(((s.getD 0 0).toNat-240:Nat):Int) by omega];exact mX _ (by omega)
  rw[hm,hn];simp only[xB,aZ,aE,hw,hw2,hin,cQ,aD,jf,bJ,dG,ej];by_cases hsl:s.length<4
  ·have d:decide ((s.length:Int)<4)=true:=by simp;omega
   rw[aF hsl,d];rfl
  ·have d:decide ((s.length:Int)<4)=false:=by simp;omega
   have:=key 4 _ hm hn (by omega) (by omega) (by omega) hsl;rw[bF hsl,d];simp only[aZ];rw[show(4:Int)=((4:Nat):Int)from rfl,this];refine(zJ s 4 _ (by omega) _ (by rfl)).trans ?_;split<;>rfl
 ·have xB:decide ((240:Int)<=((s.getD 0 0).toNat:Int))=false:=dj (by omega);by_cases jK:224<=(s.getD 0 0).toNat
  ·have zK:decide ((224:Int)<=((s.getD 0 0).toNat:Int))=true:=cy (by omega);have hm:fj (s.getD 0 0).toNat=3:=by unfold fj;rw[bF hZ,aF jK]
   have hn:fV (s.getD 0 0).toNat=(s.getD 0 0).toNat-224:=by unfold fV;rw[bF hZ,aF jK]
   have hw2:IntKind.wrap .i64 (((s.getD 0 0).toNat:Int)-224)=(((s.getD 0 0).toNat-224:Nat):Int):=by rw[show((s.getD 0 0).toNat:Int)-224=(((s.getD 0 0).toNat-224:Nat):Int) by omega];exact mX _ (by omega)
   rw[hm,hn];simp only[xB,zK,aZ,aE,hw,hw2,hin,cQ,aD,jf,bJ,dG,fA,ej];by_cases hsl:s.length<3
   ·have d:decide ((s.length:Int)<3)=true:=by simp;omega
    rw[aF hsl,d];rfl
   ·have d:decide ((s.length:Int)<3)=false:=by simp;omega
    have:=key 3 _ hm hn (by omega) (by omega) (by omega) hsl;rw[bF hsl,d];simp only[aZ];rw[show(3:Int)=((3:Nat):Int)from rfl,this];refine(zJ s 3 _ (by omega) _ (by rfl)).trans ?_;split<;>rfl
  ·have zK:decide ((224:Int)<=((s.getD 0 0).toNat:Int))=false:=dj (by omega);by_cases m3:192<=(s.getD 0 0).toNat
   ·have D7:decide ((192:Int)<=((s.getD 0 0).toNat:Int))=true:=cy (by omega);have hm:fj (s.getD 0 0).toNat=2:=by unfold fj;rw[bF hZ,bF jK,aF m3]
    have hn:fV (s.getD 0 0).toNat=(s.getD 0 0).toNat-192:=by unfold fV;rw[bF hZ,bF jK,aF m3]
    have hw2:IntKind.wrap .i64 (((s.getD 0 0).toNat:Int)-192)=(((s.getD 0 0).toNat-192:Nat):Int):=by rw[show((s.getD 0 0).toNat:Int)-192=(((s.getD 0 0).toNat-192:Nat):Int) by omega];exact mX _ (by omega)
    rw[hm,hn];simp only[xB,zK,D7,aZ,aE,hw,hw2,hin,cQ,aD,jf,bJ,dG,fA,ej];by_cases hsl:s.length<2
    ·have d:decide ((s.length:Int)<2)=true:=by simp;omega
     rw[aF hsl,d];rfl
    ·have d:decide ((s.length:Int)<2)=false:=by simp;omega
     have:=key 2 _ hm hn (by omega) (by omega) (by omega) hsl;rw[bF hsl,d];simp only[aZ];rw[show(2:Int)=((2:Nat):Int)from rfl,this];refine(zJ s 2 _ (by omega) _ (by rfl)).trans ?_;split<;>rfl
   ·have D7:decide ((192:Int)<=((s.getD 0 0).toNat:Int))=false:=dj (by omega);have hm:fj (s.getD 0 0).toNat=1:=by unfold fj;rw[bF hZ,bF jK,bF m3]
    have hn:fV (s.getD 0 0).toNat=(s.getD 0 0).toNat:=by unfold fV;rw[bF hZ,bF jK,bF m3]
    rw[hm,hn];simp only[xB,zK,D7,aZ,aE,hw,hin,cQ,aD,jf,bJ,dG,fA,ej];have hsl:¬s.length<1:=by omega
    have d:decide ((s.length:Int)<1)=false:=by simp;omega
    have:=key 1 _ hm hn (by omega) (by omega) (by omega) hsl;rw[bF hsl,d];simp only[aZ];rw[show(1:Int)=((1:Nat):Int)from rfl]at this⊢;rw[this];refine(zJ s 1 _ (by omega) _ (by rfl)).trans ?_;split<;>rfl
end M
namespace M
open Go Go.V Go.Lib
def ji(n:Nat):List Nat:=
 if n<128 then[n]
 else if n<2048 then[192+n/64,128+n%64]
 else if n<65536 then[224+n/4096,128+n/64%64,128+n%64]
 else[240+n/262144,128+n/4096%64,128+n/64%64,128+n%64]
theorem ZB(n:Nat):jI n=(ji n).map UInt8.ofNat:=by
 unfold jI ji
 repeat' split
 all_goals rfl
theorem ZC(n:Nat)(h:n<=1114111):∀x∈ji n,x<256:=by
 unfold ji
 repeat' split
 all_goals (intro x hx;simp only[gC,List.not_mem_nil,j8]at hx;omega)
theorem Ls:∀(l:List Nat)(s:List UInt8),(∀x∈l,x<256)->(l.map UInt8.ofNat=s↔l=s.map UInt8.toNat)
 |[],[],_=>by simp
 |[],y::s,_=>by simp
 |x::l,[],_=>by simp
 |x::l,y::s,h=>by
  have ih:=Ls l s fun z hz=>h z (tQ _ hz)
  have hx:=h x (lD ..);simp only[gj,List.cons.injEq,ih];refine and_congr_left fun _=>⟨fun e=>?_,fun e=>?_⟩
  ·rw[<-e];simp;omega
  ·rw[e];simp
theorem Lt(n:Nat)(h:n<=1114111)(s:List UInt8):(jI n==s)=true↔ji n=s.map UInt8.toNat:=by
 rw[jc,ZB];exact Ls _ _ (ZC n h)
theorem Lu(n a:Nat):ji n=[a]↔n<128/\n=a:=by
 unfold ji
 repeat' split
 all_goals (simp only[List.cons.injEq,and_true,reduceCtorEq,and_false,false_iff,not_and];omega)
theorem Lx(n a b:Nat):ji n=[a,b]↔128<=n/\n<2048/\192+n/64=a/\128+n%64=b:=by
 unfold ji
 repeat' split
 all_goals (simp only[List.cons.injEq,and_true,reduceCtorEq,and_false,false_iff,not_and];omega)
theorem Ly(n a b c:Nat):ji n=[a,b,c]↔2048<=n/\n<65536/\224+n/4096=a/\128+n/64%64=b/\128+n%64=c:=by
 unfold ji
 repeat' split
 all_goals (simp only[List.cons.injEq,and_true,reduceCtorEq,and_false,false_iff,not_and];omega)
theorem LA(n a b c d:Nat):ji n=[a,b,c,d]↔65536<=n/\240+n/262144=a/\128+n/4096%64=b/\128+n/64%64=c/\128+n%64=d:=by
 unfold ji
 repeat' split
 all_goals (simp only[List.cons.injEq,and_true,reduceCtorEq,and_false,false_iff,not_and];omega)
theorem ZD(n:Nat):jh n=true↔n<=55295\/(57344<=n/\n<=1114111):=by unfold jh;simp
theorem oU(n:Nat)(s:List UInt8):(jh n&&(jI n==s))=true↔(n<=55295\/(57344<=n/\n<=1114111))/\ji n=s.map UInt8.toNat:=by
 rw[bk,ZD];constructor
 ·rintro ⟨h1,h2⟩;exact⟨h1,(Lt n (by omega) s).1 h2⟩
 ·rintro ⟨h1,h2⟩;exact⟨h1,(Lt n (by omega) s).2 h2⟩
theorem ZE(s:List UInt8)(hne:s≠[]):(jJ s).2=if(decodeL s).1=65533/\(decodeL s).2=1 then 0 else(decodeL s).2:=by
 have hl:0<s.length:=List.length_pos_iff.2 hne;have k0:=(s.getD 0 0).toNat_lt;have k1:=(s.getD 1 0).toNat_lt;have k2:=(s.getD 2 0).toNat_lt;have k3:=(s.getD 3 0).toNat_lt;have oV:=decodeN_shape s.length (s.getD 0 0).toNat (s.getD 1 0).toNat (s.getD 2 0).toNat (s.getD 3 0).toNat;rw[decodeL_N];generalize hD:decodeN s.length (s.getD 0 0).toNat (s.getD 1 0).toNat (s.getD 2 0).toNat (s.getD 3 0).toNat=D at oV⊢;have hD':=hD;unfold decodeN at hD;unfold jJ;by_cases hZ:240<=(s.getD 0 0).toNat
 ·have hm:fj (s.getD 0 0).toNat=4:=by unfold fj;rw[aF hZ]
  have hn:fV (s.getD 0 0).toNat=(s.getD 0 0).toNat-240:=by unfold fV;rw[aF hZ]
  rw[hm,hn];by_cases hsl:s.length<4
  ·rw[aF hsl];rcases oV with⟨c,e⟩|⟨c1,c2,c3,cv,e⟩|⟨c1,c2,c3,c4,cv,cs,e⟩|⟨c1,c2,c3,c4,c5,cv,cw,e⟩|e
   all_goals first|(exfalso;omega)|(rw[e];rfl)
  ·rw[bF hsl,takeD s (by omega)];simp only[List.drop_succ_cons,iy,j7];generalize hN:(((s.getD 0 0).toNat-240)*64+(s.getD 1 0).toNat%64)*64+(s.getD 2 0).toNat%64=N1;by_cases dm:(jh (N1*64+(s.getD 3 0).toNat%64)&&(jI (N1*64+(s.getD 3 0).toNat%64)==[s.getD 0 0,s.getD 1 0,s.getD 2 0,s.getD 3 0]))=true
   ·rw[aF dm];rw[oU]at dm;simp only[gj,List.map_nil,LA]at dm;obtain⟨q1,q2,q3,q4,q5,q6⟩:=dm;rw[bF (by omega),bF (by omega),bF (by omega),aF ⟨by omega,⟨by omega,by omega⟩,⟨by omega,by omega⟩,by omega,by omega⟩,aF ⟨by omega,by omega⟩]at hD;rw[<-hD,bF (by simp)]
   ·rw[bF dm];rw[oU]at dm;simp only[gj,List.map_nil,LA]at dm;rcases oV with⟨c,e⟩|⟨c1,c2,c3,cv,e⟩|⟨c1,c2,c3,c4,cv,cs,e⟩|⟨c1,c2,c3,c4,c5,cv,cw,e⟩|e
    ·exfalso;omega
    ·exfalso;omega
    ·exfalso;omega
    ·exfalso;apply dm;have:(262144:Nat)<=262144:=cH _;rw[bF (by omega),bF (by omega),bF (by omega),aF ⟨by omega,⟨by omega,by omega⟩,⟨by omega,by omega⟩,by omega,by omega⟩]at hD;split at hD
     ·rename_i hv;exact⟨by omega,by omega,by omega,by omega,by omega,by omega⟩
     ·rw[<-hD]at e;simp at e
    ·rw[e];rfl
 ·by_cases jK:224<=(s.getD 0 0).toNat
  ·have hm:fj (s.getD 0 0).toNat=3:=by unfold fj;rw[bF hZ,aF jK]
   have hn:fV (s.getD 0 0).toNat=(s.getD 0 0).toNat-224:=by unfold fV;rw[bF hZ,aF jK]
   rw[hm,hn];by_cases hsl:s.length<3
   ·rw[aF hsl];rcases oV with⟨c,e⟩|⟨c1,c2,c3,cv,e⟩|⟨c1,c2,c3,c4,cv,cs,e⟩|⟨c1,c2,c3,c4,c5,cv,cw,e⟩|e
    all_goals first|(exfalso;omega)|(rw[e];rfl)
   ·rw[bF hsl,takeC s (by omega)];simp only[List.drop_succ_cons,iy,j7];generalize hN:(((s.getD 0 0).toNat-224)*64+(s.getD 1 0).toNat%64)*64+(s.getD 2 0).toNat%64=N;by_cases dm:(jh N&&(jI N==[s.getD 0 0,s.getD 1 0,s.getD 2 0]))=true
    ·rw[aF dm];rw[oU]at dm;simp only[gj,List.map_nil,Ly]at dm;obtain⟨q1,q2,q3,q4,q5,q6⟩:=dm;rw[bF (by omega),bF (by omega),aF ⟨by omega,⟨by omega,by omega⟩,by omega,by omega⟩,aF ⟨by omega,by omega⟩]at hD;rw[<-hD,bF (by simp)]
    ·rw[bF dm];rw[oU]at dm;simp only[gj,List.map_nil,Ly]at dm;rcases oV with⟨c,e⟩|⟨c1,c2,c3,cv,e⟩|⟨c1,c2,c3,c4,cv,cs,e⟩|⟨c1,c2,c3,c4,c5,cv,cw,e⟩|e
     ·exfalso;omega
     ·exfalso;omega
     ·exfalso;apply dm;exact⟨by omega,by omega,by omega,by omega,by omega,by omega⟩
     ·exfalso;omega
     ·rw[e];rfl
  ·by_cases m3:192<=(s.getD 0 0).toNat
   ·have hm:fj (s.getD 0 0).toNat=2:=by unfold fj;rw[bF hZ,bF jK,aF m3]
    have hn:fV (s.getD 0 0).toNat=(s.getD 0 0).toNat-192:=by unfold fV;rw[bF hZ,bF jK,aF m3]
    rw[hm,hn];by_cases hsl:s.length<2
    ·rw[aF hsl];rcases oV with⟨c,e⟩|⟨c1,c2,c3,cv,e⟩|⟨c1,c2,c3,c4,cv,cs,e⟩|⟨c1,c2,c3,c4,c5,cv,cw,e⟩|e
     all_goals first|(exfalso;omega)|(rw[e];rfl)
    ·rw[bF hsl,takeB s (by omega)];simp only[List.drop_succ_cons,iy,j7];generalize hN:((s.getD 0 0).toNat-192)*64+(s.getD 1 0).toNat%64=N;by_cases dm:(jh N&&(jI N==[s.getD 0 0,s.getD 1 0]))=true
     ·rw[aF dm];rw[oU]at dm;simp only[gj,List.map_nil,Lx]at dm;obtain⟨q1,q2,q3,q4,q5⟩:=dm;rw[bF (by omega),aF ⟨by omega,by omega,by omega⟩,aF (by omega)]at hD;rw[<-hD,bF (by simp)]
     ·rw[bF dm];rw[oU]at dm;simp only[gj,List.map_nil,Lx]at dm;rcases oV with⟨c,e⟩|⟨c1,c2,c3,cv,e⟩|⟨c1,c2,c3,c4,cv,cs,e⟩|⟨c1,c2,c3,c4,c5,cv,cw,e⟩|e
      ·exfalso;omega
      ·exfalso;apply dm;exact⟨by omega,by omega,by omega,by omega,by omega⟩
      ·exfalso;omega
      ·exfalso;omega
      ·rw[e];rfl
   ·have hm:fj (s.getD 0 0).toNat=1:=by unfold fj;rw[bF hZ,bF jK,bF m3]
    have hn:fV (s.getD 0 0).toNat=(s.getD 0 0).toNat:=by unfold fV;rw[bF hZ,bF jK,bF m3]
    rw[hm,hn];rw[bF (show ¬s.length<1 by omega),takeA s hl];simp only[List.drop_succ_cons,iy,j7];by_cases dm:(jh (s.getD 0 0).toNat&&(jI (s.getD 0 0).toNat==[s.getD 0 0]))=true
    ·rw[aF dm];rw[oU]at dm;simp only[gj,List.map_nil,Lu]at dm;rw[aF (by omega)]at hD;rw[<-hD,bF (by simp only;omega)]
    ·rw[bF dm];rw[oU]at dm;simp only[gj,List.map_nil,Lu]at dm;rcases oV with⟨c,e⟩|⟨c1,c2,c3,cv,e⟩|⟨c1,c2,c3,c4,cv,cs,e⟩|⟨c1,c2,c3,c4,c5,cv,cw,e⟩|e
     ·exfalso;simp only[and_true]at dm;omega
     ·exfalso;omega
     ·exfalso;omega
     ·exfalso;omega
     ·rw[e];rfl
theorem ZF(s:List UInt8)(hne:s≠[]):(jJ s).2<=s.length:=by
 unfold jJ;split
 ·exact dJ _
 ·split
  ·rename_i h1 h2;exact Nat.le_of_not_lt h1
  ·exact dJ _
theorem LC:∀(m f:Nat)(s:List UInt8)(out:List Int),s.length<=m->s.length<=1048576->out.length+s.length<=1048576->
 ∃r,M.qP (f+m+1) s out=some r/\(match r with|.inl a=>a.1=false/\validGoD m s=false|.inr _=>validGoD m s=true)
 |0,f,s,out,hm,hs,ho=>by
  have e:s=[]:=ja (by omega);subst e;exact⟨.inr out,rfl,rfl⟩
 |m+1,f,s,out,hm,hs,ho=>by
  rw[show f+(m+1)+1=(f+m+1)+1 by omega,M.qP];by_cases hne:s=[]
  ·subst hne;exact⟨.inr out,rfl,rfl⟩
  ·have hl:0<s.length:=List.length_pos_iff.2 hne;have d:decide ((0:Int)<(s.length:Int))=true:=cy (by omega);rw[d,ZA s hne hs];simp only[aE,aQ,bf,aD,cr,hU,kW];have hp:=ZE s hne;have hle:=ZF s hne;have hv:validGoD (m+1) s=if(decodeL s).1=65533/\(decodeL s).2=1 then false else validGoD m (s.drop (decodeL s).2):=by
    rw[validGoD,bF hne]
   by_cases hb:(decodeL s).1=65533/\(decodeL s).2=1
   ·rw[aF hb]at hp hv;rw[hp];exact⟨.inl (false,[]),rfl,rfl,hv⟩
   ·rw[bF hb]at hp hv;have hw:=decodeL_width s;rw[<-hp]at hv hw;have d0:(((jJ s).2:Int)==0)=false:=by rw[ed];omega
    have hsl:cC ((jJ s).2:Int) (s.length:Int) s.length=true:=by unfold cC;simp;omega
    have hlen:decide (out.length+1<=1073741824)=true:=cy (by omega);rw[d0,hsl,hlen];simp only[aZ,aE,bn,bV,mn];have hdl:(s.drop (jJ s).2).length=s.length-(jJ s).2:=List.length_drop;obtain⟨r,h1,h2⟩:=LC m f (s.drop (jJ s).2) (out++[((jJ s).1:Int)]) (by omega) (by omega) (by rw[dA];simp;omega);refine⟨r,h1,?_⟩;rw[hv];exact h2
def lR(s:List UInt8):Bool:=decide (s.length<=24)&&validD s
theorem ZG(s:List UInt8)(hs:s.length<=1048576):M.uc s=some (lR s):=by
 unfold M.uc lR;by_cases h:s.length<=24
 ·have d:decide ((24:Int)<(s.length:Int))=false:=dj (by omega);rw[d,cy h];obtain⟨f,hf⟩:∃f,an=f+s.length+1:=⟨an-(s.length+1),by have:=kL hs;omega⟩;obtain⟨r,h1,h2⟩:=LC s.length f s [] (cH _) hs (by simp;omega);have e:∀r,M.qP (f+s.length+1) s []=some r->M.ud s=(match r with|.inl a=>some (a.2,a.1)|.inr b=>some (b,true)):=fun r h=>by
   unfold M.ud;rw[hf,h];cases r<;>rfl
  have e:=e r h1;cases r with
  |inl a=>
   simp only at h2 e;rw[e];simp only[aZ,bf,aD,aE,aQ,bJ,h2.1];exact fF some h2.2.symm
  |inr b=>
   simp only at h2 e;rw[e];simp only[aZ,bf,aD,aE,aQ,bJ];exact fF some h2.symm
 ·have d:decide ((24:Int)<(s.length:Int))=true:=cy (by omega);rw[d,dj h];rfl
theorem ZH(s:List UInt8)(hs:s.length<=1048576):M.ue s=some (lR s):=by
 have e:M.nW s=some (validD s):=by
  unfold M.nW;rw[cy (show s.length<=9223372036854775807 by omega)];rfl
 have d:decide ((s.length:Int)<=24)=decide (s.length<=24):=by congr 1;exact propext ⟨fun h=>by omega,fun h=>by omega⟩
 unfold M.ue lR;rw[e,d];rfl
end M
namespace M
open Go.V (inB cC an cJ)
theorem af.LD{a:af}{N:Nat}(h:a.sz<=N):a.Text.length<=N:=by rw[af.cT]at h;omega
theorem af.zC{a:af}{N:Nat}(h:a.sz<=N):aR af.sz a.Kids<=N:=by rw[af.cT]at h;omega
theorem af.iv{a:af}{N:Nat}(h:a.sz<=N):a.Kids.length<=N:=fh (di _ _) (af.zC h)
theorem af.iw{a x:af}(h:x∈a.Kids):x.sz<a.sz:=by
 rw[af.cT a];have:=oa af.sz _ _ h;omega
def kO(k:Int):Int×Int:=
 if k=3 then(0,255)else if k=4 then(-128,127)else if k=5 then(0,65535)else if k=6 then(-32768,32767)else if k=7 then(0,4294967295)else if k=8 then(-2147483648,2147483647)
 else if k=9 then(-9223372036854775808,9223372036854775807)else(0,0)
def LF(n:Int):Bool:=(decide ((0:Int)<=n)&&decide (n<=(55295:Int)))||(decide ((57344:Int)<=n)&&decide (n<=(1114111:Int)))
def D8(t:aa):Int:=Go.IntKind.wrap .i64 (Go.V.mY .i64 (1:Int) (t.bY.length:Int)-1)
def qQ(t:aa):Int:=
 if t.Kind=17\/t.Kind=18 then Go.IntKind.wrap .i64 ((t.bY.length:Int)-1)else if t.Kind=19 then D8 t
 else if t.Kind=20\/t.Kind=21\/t.Kind=22\/t.Kind=23 then 2147483647 else 0
def fW(n:Int)(t:aa):Bool:=
 if t.Kind=2\/t.Kind=13\/t.Kind=14 then decide ((0:Int)<=n)&&decide (n<=(1:Int))
 else if 3<=t.Kind/\t.Kind<=9 then decide ((kO t.Kind).1<=n)&&decide (n<=(kO t.Kind).2)
 else if t.Kind=10 then LF n
 else decide ((0:Int)<=n)&&decide (n<=qQ t)
def jj(t:aa):List aa:=if fL t then[]else[t]
def kT(n:Int)(len:Nat)(t:aa):Option (List aa):=
 if t.Kind=12 then some (List.replicate (min len 8) (t.Kids.getD 0 aa.zero))
 else if t.Kind=15\/t.Kind=16 then some t.Kids
 else if t.Kind=13 then(if n=0 then some []else if n=1 then some (jj (t.Kids.getD 0 aa.zero))else none)
 else if t.Kind=14\/t.Kind=17 then(if 0<=n/\n<(t.Kids.length:Int)then some (jj (t.Kids.getD n.toNat aa.zero))else none)
 else some []
def headB(k n:Int)(x:List UInt8)(t:aa):Bool:=(((k==t.Kind)&&fW n t)&&(x==[]||t.Kind==11))&&lR x
mutual
def dH:af->aa->Bool
 |.mk k n x kids,t=>headB k n x t&&(match kT n kids.length t with
   |some ts=>decide (ts.length=kids.length)&&iS kids ts
   |none=>false)
def iS:List af->List aa->Bool
 |[],_=>true
 |v::r,ts=>dH v (ts.headD aa.zero)&&iS r ts.tail
end
theorem LG(v:af)(t:aa):dH v t=(headB v.Kind v.Num v.Text t&&(match kT v.Num v.Kids.length t with
 |some ts=>decide (ts.length=v.Kids.length)&&iS v.Kids ts
 |none=>false)):=by cases v;rfl
theorem D9:∀(a:List af)(b:List aa),b.length=a.length->iS a b=(List.range a.length).all fun k=>dH (a.getD k af.zero) (b.getD k aa.zero)
 |[],_,_=>rfl
 |v::r,[],h=>by simp at h
 |v::r,t::ts,h=>by
  rw[iS,List.headD_cons,List.tail_cons,D9 r ts (by simpa using h),cr,List.range_succ_eq_map,mD,List.all_map];rfl
theorem LH(t:aa):∀(a:List af)(n:Nat),n=a.length->iS a (List.replicate n t)=a.all fun v=>dH v t
 |[],_,_=>rfl
 |v::r,n,h=>by
  subst h;rw[cr,List.replicate_succ,iS,List.headD_cons,List.tail_cons,LH t r r.length rfl,mD]
theorem kb{a b:Int}(h:a≠b):(a==b)=false:=by rw[ed];exact h
theorem kt{a b:Int}(h:a=b):(a==b)=true:=by rw[h];exact xh b
theorem LI(k:Int):∃b,M.uf k=some ((kO k).1,(kO k).2,b):=by
 unfold M.uf kO;by_cases h3:k=3
 ·subst h3;exact⟨true,rfl⟩
 by_cases h4:k=4
 ·subst h4;exact⟨true,rfl⟩
 by_cases h5:k=5
 ·subst h5;exact⟨true,rfl⟩
 by_cases h6:k=6
 ·subst h6;exact⟨true,rfl⟩
 by_cases h7:k=7
 ·subst h7;exact⟨true,rfl⟩
 by_cases h8:k=8
 ·subst h8;exact⟨true,rfl⟩
 by_cases h9:k=9
 ·subst h9;exact⟨true,rfl⟩
 exact⟨false,by simp[h3,h4,h5,h6,h7,h8,h9,kb h3,kb h4,kb h5,kb h6,kb h7,kb h8,kb h9]⟩
theorem LJ(k:Int):∃b,M.xC k=some ((kO k).1,(kO k).2,b):=LI k
theorem ZI{k:Int}(h:¬(3<=k/\k<=9)):kO k=(0,0):=by
 unfold kO;rw[bF (by omega),bF (by omega),bF (by omega),bF (by omega),bF (by omega),bF (by omega),bF (by omega)]
theorem ZJ(v:af)(t:aa):M.ug v t=some (fW v.Num t):=by
 unfold M.ug fW;by_cases h1:t.Kind=2\/t.Kind=13\/t.Kind=14
 ·rw[aF h1];rcases h1 with h|h|h<;>simp[h]
 ·rw[bF h1];simp only[Ee]at h1;obtain⟨a2,ZK,ZL⟩:=h1;simp only[kb a2,kb ZK,kb ZL,aZ];by_cases h2:3<=t.Kind/\t.Kind<=9
  ·rw[aF h2];obtain⟨b,e⟩:=LI t.Kind;have:(bif t.Kind==3 then t.Kind==3 else bif t.Kind==4 then t.Kind==4 else bif t.Kind==5 then t.Kind==5 else bif t.Kind==6 then t.Kind==6 else bif t.Kind==7 then t.Kind==7 else bif t.Kind==8 then t.Kind==8 else t.Kind==9)=true:=by
    have:t.Kind=3\/t.Kind=4\/t.Kind=5\/t.Kind=6\/t.Kind=7\/t.Kind=8\/t.Kind=9:=by omega
    rcases this with h|h|h|h|h|h|h<;>simp[h]
   rw[this,e];rfl
  ·rw[bF h2];have:(bif t.Kind==3 then t.Kind==3 else bif t.Kind==4 then t.Kind==4 else bif t.Kind==5 then t.Kind==5 else bif t.Kind==6 then t.Kind==6 else bif t.Kind==7 then t.Kind==7 else bif t.Kind==8 then t.Kind==8 else t.Kind==9)=false:=by
    simp only[kb (show t.Kind≠3 by omega),kb (show t.Kind≠4 by omega),kb (show t.Kind≠5 by omega),kb (show t.Kind≠6 by omega),kb (show t.Kind≠7 by omega),kb (show t.Kind≠8 by omega),kb (show t.Kind≠9 by omega),aZ]
   rw[this];simp only[aZ];by_cases h3:t.Kind=10
   ·rw[aF h3,kt h3];rfl
   ·rw[bF h3,kb h3];simp only[aZ];unfold qQ D8;by_cases h4:t.Kind=17
    ·simp[h4]
    by_cases h5:t.Kind=18
    ·simp[h5]
    by_cases h6:t.Kind=19
    ·simp[h6]
    by_cases h7:t.Kind=20
    ·simp[h7]
    by_cases h8:t.Kind=21
    ·simp[h8]
    by_cases h9:t.Kind=22
    ·simp[h9]
    by_cases h10:t.Kind=23
    ·simp[h10]
    simp[h4,h5,h6,h7,h8,h9,h10,kb h4,kb h5,kb h6,kb h7,kb h8,kb h9,kb h10]
theorem zL{t:aa}(h:eG t=true):(t.Kind=12->t.Kids.length=1)/\(t.Kind=13->t.Kids.length=1/\fL (t.Kids.getD 0 aa.zero)=false)/\(t.Kind=14->t.Kids.length=2)/\(t.Kind=17->t.Kids.length=t.bY.length):=by
 rw[xj]at h;simp only[bk]at h;have hk:=h.1;unfold oC at hk;simp only[bk]at hk;have hk:=hk.2;unfold zA at hk;refine⟨fun e=>?_,fun e=>?_,fun e=>?_,fun e=>?_⟩
 ·rw[aF (.inl e)]at hk;simp at hk;exact hk.1
 ·rw[aF (.inr e)]at hk;simp only[bk,jc,eQ]at hk;refine⟨hk.1,?_⟩;have hl:0<t.Kids.length:=by omega
  rw[getD_lt hl];have:=List.any_eq_false.1 hk.2 _ (cn hl);simpa using this
 ·rw[bF (by omega),aF e]at hk;simp at hk;exact hk
 ·rw[bF (by omega),bF (by omega),bF (by omega),bF (by omega),aF e]at hk;simp at hk;exact hk
theorem ZM(t:aa)(n:Int)(hl:t.Kids.length<=1048576)(h:t.Kind≠13):M.oW t n=some (if 0<=n/\n<(t.Kids.length:Int)then(t.Kids.getD n.toNat aa.zero,true)else(.mk 0 [] [] [],false)):=by
 unfold M.oW;rw[kb h,wrap_i64 (show(-9223372036854775808:Int)<=(t.Kids.length:Int)-1 by omega) (by omega)];simp only[aZ];by_cases hn:0<=n/\n<(t.Kids.length:Int)
 ·rw[aF hn,cy hn.1,cy (show n<=(t.Kids.length:Int)-1 by omega)];have hin:inB n t.Kids.length=true:=by unfold inB;rw[cy hn.1,cy hn.2];rfl
  rw[hin,aa.aG];rfl
 ·rw[bF hn];have:(decide ((0:Int)<=n)&&decide (n<=(t.Kids.length:Int)-1))=false:=by
   rw[Bool.and_eq_false_iff];by_cases h0:0<=n
   ·right;exact dj (by omega)
   ·left;exact dj h0
  rw[this];rfl
theorem ZN(t:aa)(n:Int)(h:t.Kind=13)(hk:t.Kids.length=1)(hn:n=0\/n=1):M.oW t n=some (if n=0 then(.mk 1 [] [] [],true)else(t.Kids.getD 0 aa.zero,true)):=by
 unfold M.oW;rw[kt h,hk];rcases hn with rfl|rfl
 ·rfl
 ·have:Go.IntKind.wrap .i64 ((1:Int)-1)=0:=by decide
  have h2:Go.IntKind.wrap .i64 (((1:Nat):Int)-1)=0:=by decide
  rw[this,h2,aa.aG];rfl
theorem ZO(v:af)(t:aa)(hv:v.sz<=1048576)(ht:t.sz<=1048576)(hs:eG t=true)(hn:fW v.Num t=true):
 ∃l,M.uh v t=some (l,(kT v.Num v.Kids.length t).isSome)/\∀ts,kT v.Num v.Kids.length t=some ts->l=ts:=by
 obtain⟨s12,s13,s14,zM⟩:=zL hs;have hl:=af.iv hv;have hl2:=aa.iv ht;unfold M.uh kT;by_cases h12:t.Kind=12
 ·rw[aF h12,kt h12];have hk:=s12 h12;have e:M.nV t.Kids (bif decide ((8:Int)<(v.Kids.length:Int))then 8 else(v.Kids.length:Int))=some (List.replicate (min v.Kids.length 8) (t.Kids.getD 0 aa.zero)):=by
   have e1:(bif decide ((8:Int)<(v.Kids.length:Int))then(8:Int)else(v.Kids.length:Int))=((min v.Kids.length 8:Nat):Int):=by
    by_cases h:(8:Int)<(v.Kids.length:Int)
    ·rw[cy h,aE];omega
    ·rw[dj h,aZ];omega
   rw[e1];unfold M.nV;rw[cy hk,cy (show(0:Int)<=((min v.Kids.length 8:Nat):Int) by omega),cy (show((min v.Kids.length 8:Nat):Int)<=8 by omega),bV];rfl
  rw[e];exact⟨_,rfl,fun ts h=>mm h⟩
 ·rw[bF h12,kb h12];simp only[aZ];by_cases h15:t.Kind=15\/t.Kind=16
  ·rw[aF h15];have:(bif t.Kind==15 then t.Kind==15 else t.Kind==16)=true:=by rcases h15 with h|h<;>simp[h]
   rw[this];exact⟨_,rfl,fun ts h=>mm h⟩
  ·rw[bF h15];simp only[Ee]at h15;simp only[kb h15.1,kb h15.2,aZ];by_cases h13:t.Kind=13
   ·rw[aF h13];simp only[kt h13,aE];obtain⟨k1,k2⟩:=s13 h13;have LK:v.Num=0\/v.Num=1:=by
     unfold fW at hn;rw[aF (.inr (.inl h13))]at hn;simp only[bk,bC]at hn;omega
    rw[aa.aG,ZN t v.Num h13 k1 LK];rcases LK with e|e
    ·rw[e];exact⟨[],rfl,fun ts h=>mm h⟩
    ·rw[e];have ZP:((t.Kids.getD 0 aa.zero).Kind==1)=false:=k2;have ho:jj (t.Kids.getD 0 aa.zero)=[t.Kids.getD 0 aa.zero]:=by unfold jj;rw[k2];rfl
     rw[bF (by decide),bF (by decide),aF rfl,ho];simp only[aQ,ZP,aZ,bf,bn,aE,aa.aG];exact⟨_,rfl,fun ts h=>mm h⟩
   ·rw[bF h13];by_cases gK:t.Kind=14\/t.Kind=17
    ·rw[aF gK];have:(bif t.Kind==13 then t.Kind==13 else bif t.Kind==14 then t.Kind==14 else t.Kind==17)=true:=by rcases gK with h|h<;>simp[h]
     rw[this,aa.aG,ZM t v.Num hl2 h13];by_cases hb:0<=v.Num/\v.Num<(t.Kids.length:Int)
     ·rw[aF hb,aF hb];unfold jj fL;cases hu:((t.Kids.getD v.Num.toNat aa.zero).Kind==1)
      ·simp only[aQ,hu,aZ,aE,bf,bn,aa.aG];exact⟨_,rfl,fun ts h=>mm h⟩
      ·simp only[aQ,hu,aZ,aE,bf,bn,aa.aG];exact⟨_,rfl,fun ts h=>mm h⟩
     ·rw[bF hb,bF hb];exact⟨_,rfl,fun ts h=>by cases h⟩
    ·rw[bF gK];simp only[Ee]at gK;simp only[kb h13,kb gK.1,kb gK.2,aZ];exact⟨_,rfl,fun ts h=>mm h⟩
theorem ZQ{n:Int}{len:Nat}{t:aa}(hs:eG t=true){ts:List aa}(h:kT n len t=some ts):∀x∈ts,eG x=true:=by
 have hkids:∀x∈t.Kids,eG x=true:=by
  rw[xj,bk,xk,dW]at hs;exact hs.2
 obtain⟨s12,s13,s14,zM⟩:=zL hs;have hone:∀k,k<t.Kids.length->∀x∈jj (t.Kids.getD k aa.zero),eG x=true:=fun k hk x hx=>by
  unfold jj at hx;split at hx
  ·cases hx
  ·rw[qR]at hx;subst hx;rw[getD_lt hk];exact hkids _ (cn hk)
 unfold kT at h;split at h
 ·rename_i h12;simp only[av]at h;subst h;intro x hx;rw[(List.mem_replicate.1 hx).2,getD_lt (by rw[s12 h12];omega)];exact hkids _ (cn _)
 ·split at h
  ·simp only[av]at h;subst h;exact hkids
  ·split at h
   ·rename_i h13;split at h
    ·simp only[av]at h;subst h;intro x hx;cases hx
    ·split at h
     ·simp only[av]at h;subst h;exact hone 0 (by rw[(s13 h13).1];omega)
     ·cases h
   ·split at h
    ·split at h
     ·rename_i hb;simp only[av]at h;subst h;exact hone _ (by omega)
     ·cases h
    ·simp only[av]at h;subst h;intro x hx;cases hx
theorem ZR{n:Int}{len:Nat}{t:aa}(hs:eG t=true)(ht:t.sz<=1048576){ts:List aa}(h:kT n len t=some ts):∀x∈ts,x.sz<=1048576:=by
 obtain⟨s12,s13,s14,zM⟩:=zL hs;have hkids:∀x∈t.Kids,x.sz<=1048576:=fun x hx=>by have:=aa.iw hx;omega
 have hone:∀k,k<t.Kids.length->∀x∈jj (t.Kids.getD k aa.zero),x.sz<=1048576:=fun k hk x hx=>by
  unfold jj at hx;split at hx
  ·cases hx
  ·rw[qR]at hx;subst hx;rw[getD_lt hk];exact hkids _ (cn hk)
 unfold kT at h;split at h
 ·rename_i h12;simp only[av]at h;subst h;intro x hx;rw[(List.mem_replicate.1 hx).2,getD_lt (by rw[s12 h12];omega)];exact hkids _ (cn _)
 ·split at h
  ·simp only[av]at h;subst h;exact hkids
  ·split at h
   ·rename_i h13;split at h
    ·simp only[av]at h;subst h;intro x hx;cases hx
    ·split at h
     ·simp only[av]at h;subst h;exact hone 0 (by rw[(s13 h13).1];omega)
     ·cases h
   ·split at h
    ·split at h
     ·rename_i hb;simp only[av]at h;subst h;exact hone _ (by omega)
     ·cases h
    ·simp only[av]at h;subst h;intro x hx;cases hx
theorem LL:∀(m:Nat)(v:af)(t:aa),v.sz<m->v.sz<=1048576->t.sz<=1048576->eG t=true->M.lT m v t=some (dH v t)
 |0,v,t,h,_,_,_=>absurd h (lx _)
 |m+1,v,t,h,hv,ht,hs=>by
  have hl:=af.iv hv
  show M.xE (M.lT m) v t=_
  unfold M.xE;rw[af.aG,aa.aG,ZJ,ZH _ (af.LD hv),LG];simp only[aQ,bf,cQ,aD,aE,gn];have hhead:headB v.Kind v.Num v.Text t= !(((!(v.Kind==t.Kind))||(!fW v.Num t)||((!(v.Text==[]))&&(!(t.Kind==11))))||(!lR v.Text)):=by
   unfold headB;cases (v.Kind==t.Kind)<;>cases fW v.Num t<;>cases (v.Text==[])<;>cases (t.Kind==11)<;>cases lR v.Text<;>rfl
  cases hb:(((!(v.Kind==t.Kind))||(!fW v.Num t)||((!(v.Text==[]))&&(!(t.Kind==11))))||(!lR v.Text))
  ·rw[hhead,hb];have hn:fW v.Num t=true:=by
    simp only[qu,Bool.not_eq_false']at hb;exact hb.1.1.2
   obtain⟨l,e1,e2⟩:=ZO v t hv ht hs hn;rw[e1];simp only[aZ,aQ,bf,fA,bJ];cases hk:kT v.Num v.Kids.length t with
   |none=>rfl
   |some ts=>
    have:=e2 ts hk;subst this;simp only[bf,dG,jw];by_cases hlen:l.length=v.Kids.length
    ·have:((l.length:Int)==(v.Kids.length:Int))=true:=by rw[jc];omega
     rw[this,cy hlen];have hloop:=lI (p:=fun k=>dH (v.Kids.getD k af.zero) (l.getD k aa.zero)) (F:=fun f i=>M.lU (M.lT m) l v.Kids (v.Kids.length:Int) f i) (e:=()) (b:=false) v.Kids.length (by omega) (fun f k hk2=>by
      show M.lU (M.lT m) l v.Kids (v.Kids.length:Int) (f+1) (k:Int)=_
      rw[M.lU];have hx:=af.iw (cn hk2);have hkl:k<l.length:=by omega
      have hx2:=ZR hs ht hk l[k] (cn hkl);have hx3:=ZQ hs hk l[k] (cn hkl);simp only[aa.aG,af.aG,getD_lt hk2,getD_lt hkl,LL m v.Kids[k] l[k] (by omega) (by omega) hx2 hx3,bV,ct,dY,hk2,hkl,cI,aE,cQ,bJ,aD,bN hk2 (by omega:v.Kids.length<2^62),aQ,bf];cases dH v.Kids[k] l[k]<;>rfl) (fun f=>by
      show M.lU (M.lT m) l v.Kids (v.Kids.length:Int) (f+1) _=_
      rw[M.lU];simp)
     have ZS:M.lU (M.lT m) l v.Kids (v.Kids.length:Int) an 0=_:=hloop;rw[ZS,D9 _ _ hlen];cases (List.range v.Kids.length).all fun k=>dH (v.Kids.getD k af.zero) (l.getD k aa.zero)<;>rfl
    ·have:((l.length:Int)==(v.Kids.length:Int))=false:=by rw[ed];omega
     rw[this,dj hlen];rfl
  ·rw[hhead,hb];rfl
end M
namespace M
open Go.V (inB cC an cJ)
theorem ZT:lR []=true:=rfl
section
variable {rec :af->aa->Option Bool}{kids:List af}
theorem LM(most:Int)(t:aa)(hl:kids.length<=1048576)(hr:∀x∈kids,rec x t=some (dH x t)):
 M.qS rec kids most t=some (decide ((kids.length:Int)<=most)&&kids.all fun v=>dH v t):=by
 have e:=xx (p:=fun v=>dH v t) (F:=fun f i=>M.lV rec kids f i t) (e:=()) (b:=false) kids (by omega) (fun f k hk=>by
  show M.lV rec kids (f+1) (k:Int) t=_
  rw[M.lV];simp only[aa.aG,af.aG,getD_lt hk,hr _ (cn hk),bV,ct,dY,hk,cI,aE,cQ,bJ,aD,bN hk (by omega:kids.length<2^62),aQ,bf];cases dH kids[k] t<;>rfl) (fun f=>by
  show M.lV rec kids (f+1) _ t=_
  rw[M.lV];simp)
 have e':M.lV rec kids an 0 t=_:=e;unfold M.qS;rw[aa.aG,e'];by_cases h:(kids.length:Int)<=most
 ·rw[cy h,dj (show ¬most<(kids.length:Int) by omega)];cases kids.all fun v=>dH v t<;>rfl
 ·rw[dj h,cy (show most<(kids.length:Int) by omega)];rfl
theorem ZU(ts:List aa)(hl:kids.length<=1048576)(hr:∀k,k<kids.length->k<ts.length->rec (kids.getD k af.zero) (ts.getD k aa.zero)=some (dH (kids.getD k af.zero) (ts.getD k aa.zero))):
 M.ui rec kids ts=some (decide (ts.length=kids.length)&&iS kids ts):=by
 unfold M.ui;by_cases hlen:ts.length=kids.length
 ·have e:=lI (p:=fun k=>dH (kids.getD k af.zero) (ts.getD k aa.zero)) (F:=fun f i=>M.lW rec kids ts f i) (e:=()) (b:=false) kids.length (by omega) (fun f k hk=>by
   show M.lW rec kids ts (f+1) (k:Int)=_
   rw[M.lW];have hk2:k<ts.length:=by omega
   simp only[aa.aG,af.aG,bV,hr k hk hk2,ct,dY,hk,hk2,cI,aE,cQ,bJ,aD,bN hk (by omega:kids.length<2^62),aQ,bf];cases dH (kids.getD k af.zero) (ts.getD k aa.zero)<;>rfl) (fun f=>by
   show M.lW rec kids ts (f+1) _=_
   rw[M.lW];simp)
  have e':M.lW rec kids ts an 0=_:=e;have hne:((kids.length:Int) !=(ts.length:Int))=false:=by rw[gn,hlen];simp
  rw[hne,e',cy hlen,D9 _ _ hlen];cases (List.range kids.length).all fun k=>dH (kids.getD k af.zero) (ts.getD k aa.zero)<;>rfl
 ·have hne:((kids.length:Int) !=(ts.length:Int))=true:=by rw[gn,kb (show(kids.length:Int)≠(ts.length:Int) by omega)];rfl
  rw[hne,dj hlen];rfl
theorem LN(t:aa)(hl:kids.length<=1048576)(hr:∀x∈kids,rec x t=some (dH x t)):
 M.qT rec kids t=some (decide ((jj t).length=kids.length)&&iS kids (jj t)):=by
 unfold M.qT jj fL;cases hu:(t.Kind==1)
 ·simp only[aZ,ee,i9,aa.aG,af.aG,Int.toNat_zero]
  match kids,hr with
  |[],_=>
    have h1:((([]:List af).length:Int)==1)=false:=rfl;rw[h1];simp[iS]
  |[x],hr=>
    have:=hr x (qR.2 rfl);simp only[List.getD_cons_zero,this];simp[inB,iS]
  |x::y::r,_=>
   have h1:(((x::y::r).length:Int)==1)=false:=kb (by simp only[cr];omega);have h2:decide ([t].length=(x::y::r).length)=false:=dj (by simp);rw[h1,h2];simp
 ·simp only[aE,dZ]
  match kids with
  |[]=>rfl
  |x::r=>
   have h1:(((x::r).length:Int)==0)=false:=kb (by simp only[cr];omega);have h2:decide (([]:List aa).length=(x::r).length)=false:=dj (by simp);rw[h1,h2];rfl
end
theorem len0(l:List af):((l.length:Int)==0)=decide (([]:List aa).length=l.length):=by
 cases l with
 |nil=>rfl
 |cons a r=>rw[kb (by simp only[cr];omega),dj (by simp)]
theorem ZV(l:List af):(decide (([]:List aa).length=l.length)&&iS l [])=decide (([]:List aa).length=l.length):=by
 cases l with
 |nil=>rfl
 |cons a r=>rw[dj (by simp)];rfl
theorem ZW(n:Nat)(h:n<=1048576):Go.IntKind.wrap .u64 (n:Int)=(n:Int):=Go.IntWalk.u64_in _ (by omega)
theorem zN(l:List af):(decide (([]:List aa).length=l.length)&&iS l [])=((l.length:Int)==0):=by rw[ZV,len0]
theorem Ea(n:Int):(decide ((0:Int)<=n)&&decide (n<=(0:Int)))=(n==0):=by
 by_cases h:n=0
 ·rw[h];rfl
 ·rw[kb h,Bool.and_eq_false_iff];by_cases h0:(0:Int)<=n
  ·right;exact dj (by omega)
  ·left;exact dj h0
section
variable {rec :af->aa->Option Bool}
theorem ZX(v:af)(t:aa)(hv:v.sz<=1048576)(ht:t.sz<=1048576)(hs:eG t=true)
 (hrec:∀x∈v.Kids,∀y∈t.Kids,rec x y=some (dH x y)) (hk:v.Kind=t.Kind) (htx:t.Kind≠11) (hte:v.Text=[]):
 M.m4 rec v t=some (fW v.Num t&&(match kT v.Num v.Kids.length t with
 |some ts=>decide (ts.length=v.Kids.length)&&iS v.Kids ts
 |none=>false)):=by
 have hl:=af.iv hv;have hl2:=aa.iv ht;have hlab:=aa.Kv ht;obtain⟨s12,s13,s14,zM⟩:=zL hs;have zO:∀k,k<t.Kids.length->∀x∈v.Kids,rec x (t.Kids.getD k aa.zero)=some (dH x (t.Kids.getD k aa.zero)):=fun k hk x hx=>by
  rw[getD_lt hk];exact hrec x hx _ (cn hk)
 unfold M.m4;simp only[aa.aG,af.aG,gn,kt hk,hte,xh,dG,Bool.and_false,kB,aZ];by_cases h2:t.Kind=2
 ·unfold fW kT;simp only[h2,Int.reduceBEq,Int.reduceEq,aE,aZ,kB,or_self,true_or,or_true,j8,false_or,dZ,i9,zN];cases (decide ((0:Int)<=v.Num)&&decide (v.Num<=(1:Int)))<;>rfl
 by_cases gK:t.Kind=14
 ·unfold fW kT;simp only[gK,Int.reduceBEq,Int.reduceEq,aE,aZ,kB,ej,jf,cQ,or_self,true_or,or_true,j8,false_or,dZ,i9];by_cases hn:(decide ((0:Int)<=v.Num)&&decide (v.Num<=(1:Int)))=true
  ·rw[hn];simp only[bk,bC]at hn;have hk2:=s14 gK;have hin:inB v.Num t.Kids.length=true:=by unfold inB;rw[cy hn.1,cy (by omega)];rfl
   rw[LN (t.Kids.getD v.Num.toNat aa.zero) hl (zO _ (by omega)),hin,aF (show 0<=v.Num/\v.Num<(t.Kids.length:Int) by omega)];simp
  ·simp only[qH]at hn;rw[hn];rfl
 by_cases h13:t.Kind=13
 ·unfold fW kT;simp only[h13,Int.reduceBEq,Int.reduceEq,aE,aZ,kB,ej,jf,cQ,or_self,true_or,or_true,j8,false_or,dZ,i9];obtain⟨k1,k2⟩:=s13 h13;have hin:inB (0:Int) t.Kids.length=true:=by rw[k1];rfl
  have ho:jj (t.Kids.getD 0 aa.zero)=[t.Kids.getD 0 aa.zero]:=by unfold jj;rw[k2];rfl
  rw[Int.toNat_zero,LM 1 (t.Kids.getD 0 aa.zero) hl (zO 0 (by omega)),hin,ho];simp only[bf,cQ,bn,aE,aQ];congr 1
  match hkk:v.Kids with
  |[]=>
    by_cases hn:v.Num=0
    ·rw[hn];rfl
    ·rw[kb (show v.Num≠((([]:List af).length:Nat):Int) by simpa using hn)];rw[bF hn];by_cases h1:v.Num=1
     ·rw[aF h1];simp
     ·rw[bF h1];simp
  |[x]=>
    by_cases hn:v.Num=1
    ·rw[hn];simp[iS]
    ·rw[kb (show v.Num≠((([x]:List af).length:Nat):Int) by simpa using hn)];by_cases h1:v.Num=0
     ·rw[aF h1];simp
     ·rw[bF h1,bF hn];simp
  |x::y::r=>
   have e1:decide ((((x::y::r).length:Nat):Int)<=1)=false:=dj (by simp only[cr];omega);rw[e1];by_cases h0:v.Num=0
   ·rw[aF h0];simp
   ·rw[bF h0];by_cases h1:v.Num=1
    ·rw[aF h1];simp
    ·rw[bF h1];simp
 by_cases h10:t.Kind=10
 ·unfold fW kT;have hc:M.iC v.Num=some (LF v.Num):=rfl;simp only[h10,hc,Int.reduceBEq,Int.reduceEq,Int.reduceLE,aE,aZ,kB,or_self,true_or,or_true,j8,false_or,and_false,and_true,dZ,i9,zN,aQ]
 by_cases h12:t.Kind=12
 ·unfold fW kT qQ;simp only[h12,Int.reduceBEq,Int.reduceEq,Int.reduceLE,aE,aZ,kB,ej,jf,cQ,or_self,true_or,or_true,j8,false_or,and_false,and_true,dZ,i9,Ea];have k1:=s12 h12;have hin:inB (0:Int) t.Kids.length=true:=by rw[k1];rfl
  rw[Int.toNat_zero,LM 8 (t.Kids.getD 0 aa.zero) hl (zO 0 (by omega)),hin];simp only[bf,cQ,bn,aE,aQ,fc];by_cases h8:v.Kids.length<=8
  ·rw[cy (show(v.Kids.length:Int)<=8 by omega),cy (show min v.Kids.length 8=v.Kids.length by omega),LH _ _ _ (show min v.Kids.length 8=v.Kids.length by omega)]
  ·rw[dj (show ¬(v.Kids.length:Int)<=8 by omega),dj (show ¬min v.Kids.length 8=v.Kids.length by omega)];rfl
 by_cases h15:t.Kind=15\/t.Kind=16
 ·have e:=ZU (rec:=rec) (kids:=v.Kids) t.Kids hl (fun k h1 h2=>by rw[getD_lt h1,getD_lt h2];exact hrec _ (cn h1) _ (cn h2));unfold fW kT qQ;rcases h15 with h|h
  all_goals
   simp only[h,e,Int.reduceBEq,Int.reduceEq,Int.reduceLE,aE,aZ,kB,ej,jf,cQ,or_self,true_or,or_true,j8,false_or,and_false,and_true,dZ,i9,Ea,bf,bn,aQ]
 by_cases h17:t.Kind=17
 ·unfold fW kT qQ;obtain⟨b,er⟩:=LJ t.Kind;simp only[h17]at er;simp only[h17,er,Int.reduceBEq,Int.reduceEq,Int.reduceLE,aE,aZ,kB,ej,jf,cQ,or_self,true_or,or_true,j8,false_or,and_false,and_true,dZ,i9,bf];have k1:=zM h17;have hw:Go.IntKind.wrap .i64 ((t.bY.length:Int)-1)=(t.bY.length:Int)-1:=wrap_i64 (by omega) (by omega);rw[hw];by_cases hn:0<=v.Num/\v.Num<(t.Kids.length:Int)
  ·have hin:inB v.Num t.Kids.length=true:=by unfold inB;rw[cy hn.1,cy hn.2];rfl
   rw[aF hn,cy hn.1,cy (show v.Num<=(t.bY.length:Int)-1 by omega),LN (t.Kids.getD v.Num.toNat aa.zero) hl (zO _ (by omega)),hin];simp
  ·have:(decide ((0:Int)<=v.Num)&&decide (v.Num<=(t.bY.length:Int)-1))=false:=by
    rw[Bool.and_eq_false_iff];by_cases h0:0<=v.Num
    ·right;exact dj (by omega)
    ·left;exact dj h0
   rw[bF hn,this];rfl
 simp only[Ee]at h15;have Eb:kT v.Num v.Kids.length t=some []:=by
  unfold kT;rw[bF h12,bF (by omega),bF h13,bF (by omega)]
 rw[Eb];simp only[zN,kb h2,kb gK,kb h13,kb h10,kb htx,kb h12,kb h15.1,kb h15.2,kb h17,aZ,kB];obtain⟨b,er⟩:=LJ t.Kind;rw[er];simp only[aQ,bf,bJ,cQ,aD,aE];rw[ZW _ hlab];unfold fW;rw[bF (by omega),bF h10];unfold qQ D8;by_cases h18:t.Kind=18
 ·simp only[h18,Int.reduceBEq,Int.reduceEq,Int.reduceLE,aE,aZ,or_self,true_or,or_true,j8,false_or,and_false,and_true,dZ,i9];cases (decide ((0:Int)<=v.Num)&&decide (v.Num<=Go.IntKind.wrap .i64 ((t.bY.length:Int)-1)))<;>rfl
 by_cases h19:t.Kind=19
 ·simp only[h19,Int.reduceBEq,Int.reduceEq,Int.reduceLE,aE,aZ,or_self,true_or,or_true,j8,false_or,and_false,and_true,dZ,i9];cases (decide ((0:Int)<=v.Num)&&decide (v.Num<=Go.IntKind.wrap .i64 (Go.V.mY .i64 (1:Int) (t.bY.length:Int)-1)))<;>rfl
 by_cases h20:t.Kind=20\/t.Kind=21\/t.Kind=22\/t.Kind=23
 ·rcases h20 with h|h|h|h
  all_goals
   simp only[h,Int.reduceBEq,Int.reduceEq,Int.reduceLE,aE,aZ,or_self,true_or,or_true,j8,false_or,and_false,and_true,dZ,i9];cases (decide ((0:Int)<=v.Num)&&decide (v.Num<=(2147483647:Int)))<;>rfl
 simp only[Ee]at h20;simp only[kb h18,kb h19,kb h20.1,kb h20.2.1,kb h20.2.2.1,kb h20.2.2.2,aZ];by_cases Ec:3<=t.Kind/\t.Kind<=9
 ·rw[aF Ec];cases (decide ((kO t.Kind).1<=v.Num)&&decide (v.Num<=(kO t.Kind).2))<;>rfl
 ·rw[bF Ec,ZI Ec,bF (by omega),bF h19,bF (by omega)];cases (decide ((0:Int)<=v.Num)&&decide (v.Num<=(0:Int)))<;>rfl
end
theorem LP:∀(m:Nat)(v:af)(t:aa),v.sz<m->v.sz<=1048576->t.sz<=1048576->eG t=true->M.qU m v t=some (dH v t)
 |0,v,t,h,_,_,_=>absurd h (lx _)
 |m+1,v,t,h,hv,ht,hs=>by
  have ZY:∀x∈t.Kids,eG x=true:=by
   rw[xj,bk,xk,dW]at hs;exact hs.2
  have hrec:∀x∈v.Kids,∀y∈t.Kids,M.qU m x y=some (dH x y):=fun x hx y hy=>by
   have h1:=af.iw hx;have h2:=aa.iw hy;exact LP m x y (by omega) (by omega) (by omega) (ZY y hy)
  show M.m4 (M.qU m) v t=_
  rw[LG];by_cases hk:v.Kind=t.Kind
  ·by_cases h11:t.Kind=11
   ·have hh:headB v.Kind v.Num v.Text t=(lR v.Text&&(v.Num==0)):=by
     unfold headB fW qQ;simp only[kt hk,h11,kt (hk.trans h11),Int.reduceBEq,Int.reduceEq,Int.reduceLE,or_self,j8,false_or,and_false,and_true,dZ,i9,Ea,jf,aD,bJ];rw[Bool.and_comm]
    have Eb:kT v.Num v.Kids.length t=some []:=by
     unfold kT;rw[bF (by omega),bF (by omega),bF (by omega),bF (by omega)]
    rw[hh,Eb];unfold M.m4;simp only[aa.aG,af.aG,gn,kt hk,h11,kt (hk.trans h11),zN,ZG _ (af.LD hv),Int.reduceBEq,dG,lu,kB,aE,aZ,bf,aQ,bn]
   ·by_cases hte:v.Text=[]
    ·rw[ZX v t hv ht hs hrec hk h11 hte];have:headB v.Kind v.Num v.Text t=fW v.Num t:=by unfold headB;rw[kt hk,hte,ZT];simp
     rw[this];try rfl
    ·have e:(v.Text==[])=false:=by
      cases h:v.Text with
      |nil=>exact absurd h hte
      |cons a r=>rfl
     have:headB v.Kind v.Num v.Text t=false:=by unfold headB;rw[e,kb h11];simp
     rw[this];unfold M.m4;rw[gn,gn,kt hk,kb h11,e];rfl
  ·have:headB v.Kind v.Num v.Text t=false:=by unfold headB;rw[kb hk];rfl
   rw[this];unfold M.m4;rw[gn,kb hk];rfl
end M
namespace M
open Go.V (inB cC an cJ)
def xF(k:Int):Bool:=decide ((20:Int)<=k)&&decide (k<=23)
def lC(t:aa):Bool:=(j6 t&& !fL t)&& !gm xF t
theorem ZZ(k:Int):([(20:Int),21,22,23].any fun x=>k==x)=xF k:=by
 unfold xF;by_cases h:20<=k/\k<=23
 ·have:k=20\/k=21\/k=22\/k=23:=by omega
  rcases this with rfl|rfl|rfl|rfl<;>rfl
 ·simp only[List.any_cons,List.any_nil,kb (show k≠20 by omega),kb (show k≠21 by omega),kb (show k≠22 by omega),kb (show k≠23 by omega),kB];symm;rw[Bool.and_eq_false_iff];by_cases h0:(20:Int)<=k
  ·right;exact dj (by omega)
  ·left;exact dj h0
theorem Z0(t:aa)(h:t.sz<=1048576):M.uj t=some (lC t):=by
 unfold M.uj lC;have e:M.lM t 20 23=some (gm xF t):=D1 20 23 an t (kL h) h;simp only[aa.aG,Ln t h,e,aQ,bf,cQ,aD,aE,gn,fL]
theorem Z1(t:aa)(h:t.sz<=1048576):M.uk t=some (lC t):=by
 unfold M.uk lC;have e:M.lP t [20,21,22,23]=some (gm xF t):=by
  have:=D2 [20,21,22,23] (by simp) an t (kL h) h;rw[D5 ZZ]at this;exact this
 simp only[aa.aG,Zq t h,e,aQ,bf,cQ,aD,aE,fL]
def qo(s:ae):Bool:=s.Buffer.all fun v=>dH v s.cq
def stB(s:ae):Bool:=
 (((lC s.cq&&((decide ((1:Int)<=s.Room)&&decide (s.Room<=(6:Int)))&& !(s.cR&& !(s.Room==1))))&&(decide ((s.Buffer.length:Int)<=s.Room)&&qo s))&&
   ((!(decide (s.dz<(0:Int)))&&(decide (s.dz<=s.Put)&&decide (s.Put<=(if s.cR then 1 else 1000000:Int))))&&
     !((s.Gone&&decide ((0:Int)<(s.Buffer.length:Int)))||(!s.Gone&& !(Go.IntKind.wrap .i64 (s.Put-s.dz)==(s.Buffer.length:Int))))))&&
 (((!s.cR|| !s.Shut)||(s.Put==1))||s.Gone)
theorem ae.sS{s:ae}{N:Nat}(h:s.sz<=N):s.cq.sz<=N:=by rw[ae.cT]at h;omega
theorem ae.sU{s:ae}{N:Nat}(h:s.sz<=N):aR af.sz s.Buffer<=N:=by rw[ae.cT]at h;omega
theorem ae.Z2{s:ae}{N:Nat}(h:s.sz<=N):s.Buffer.length<=N:=fh (di _ _) (ae.sU h)
theorem LQ{t:aa}(h:j6 t=true):eG t=true:=by
 unfold j6 at h;rw[bk]at h;exact h.2
theorem LR{t:aa}(h:lC t=true):j6 t=true:=by
 unfold lC at h;simp only[bk]at h;exact h.1.1
theorem Z3(v:af)(t:aa)(hv:v.sz<=1048576)(ht:t.sz<=1048576)(ho:j6 t=true):M.um v t=some (dH v t):=by
 unfold M.um;have e:M.zP v t=some (dH v t):=LP an v t (kL hv) hv ht (LQ ho);simp only[aa.aG,af.aG,Zm t ht,ho,e,aQ,bf,cQ,bn,aE,bJ]
theorem Z4(v:af)(t:aa)(hv:v.sz<=1048576)(ht:t.sz<=1048576)(ho:j6 t=true):M.zQ v t=some (dH v t):=
 LL an v t (kL hv) hv ht (LQ ho)
theorem Z5(l:List af)(t:aa)(most:Int)(hl:aR af.sz l<=1048576)(ht:t.sz<=1048576)(ho:j6 t=true):
 M.uo l t most=some (decide ((l.length:Int)<=most)&&l.all fun v=>dH v t):=by
 have hlen:l.length<=1048576:=fh (di _ _) hl;have e:=xx (p:=fun v=>dH v t) (F:=fun f i=>M.lX l f i t) (e:=()) (b:=false) l (by omega) (fun f k hk=>by
  show M.lX l (f+1) (k:Int) t=_
  rw[M.lX];simp only[aa.aG,af.aG,getD_lt hk,Z3 l[k] t (K5 hl (cn hk)) ht ho,bV,ct,dY,hk,cI,aE,cQ,bJ,aD,bN hk (by omega:l.length<2^62),aQ,bf];cases dH l[k] t<;>rfl) (fun f=>by
  show M.lX l (f+1) _ t=_
  rw[M.lX];simp)
 have e':M.lX l an 0 t=_:=e;unfold M.uo;rw[aa.aG,e'];by_cases h:(l.length:Int)<=most
 ·rw[cy h,dj (show ¬most<(l.length:Int) by omega)];cases l.all fun v=>dH v t<;>rfl
 ·rw[dj h,cy (show most<(l.length:Int) by omega)];rfl
theorem Z6(s:ae)(h:s.sz<=1048576)(ho:j6 s.cq=true):M.uu s.Buffer s=some (!qo s):=by
 have hlen:=ae.Z2 h;have c:∀v∈s.Buffer,M.uv v s=some (!dH v s.cq):=fun v hv=>by
  unfold M.uv;rw[af.aG,aa.aG,Z4 v s.cq (K5 (ae.sU h) hv) (ae.sS h) ho];rfl
 have e:=contains_of (p:=fun v=> !dH v s.cq) (F:=M.qV s.Buffer s (s.Buffer.length:Int)) s.Buffer (by omega) (fun f k hk=>by
  rw[M.qV];simp only[af.aG,getD_lt hk,c _ (cn hk),bV,ct,dY,hk,cI,aE,cQ,bJ,aD,bN hk (by omega:s.Buffer.length<2^62),aQ,bf]) (fun f=>by
  rw[M.qV];simp)
 have e2:M.xG s.Buffer s=_:=e;unfold M.uu;rw[e2];simp only[aQ,bf,aD,aE];rw[index_ge,qo,tN]
theorem Z7(s:ae)(h:s.sz<=1048576):M.uw s=some (stB s):=by
 unfold M.uw stB;have ht:=Z0 s.cq (ae.sS h);simp only[aa.aG,ht,aQ,bf,aD,gn];cases hT:lC s.cq
 ·simp
 ·rw[Z5 s.Buffer s.cq s.Room (ae.sU h) (ae.sS h) (LR hT)];simp only[aQ,bf,cQ,bn,aE,dG,jw,bJ];have em:(decide (s.Put<=(if s.cR then 1 else 1000000:Int)))=(decide (s.Put<=(1000000:Int))&& !(s.cR&&decide ((1:Int)<s.Put))):=by
   cases s.cR
   ·simp
   ·simp only[dZ,bJ];by_cases h1:s.Put<=1
    ·rw[cy h1,cy (show s.Put<=1000000 by omega),dj (show ¬(1:Int)<s.Put by omega)];rfl
    ·rw[dj h1,cy (show(1:Int)<s.Put by omega)];simp
  rw[em];generalize (decide ((1:Int)<=s.Room)&&decide (s.Room<=(6:Int)))=b1;generalize (s.Room==1)=b2;generalize decide ((s.Buffer.length:Int)<=s.Room)=b3;have:(s.Buffer.all fun v=>dH v s.cq)=qo s:=rfl;rw[this];generalize qo s=b4;generalize decide (s.dz<(0:Int))=b5;generalize decide (s.dz<=s.Put)=b6;generalize decide (s.Put<=(1000000:Int))=b7;generalize decide ((1:Int)<s.Put)=b8;generalize decide ((0:Int)<(s.Buffer.length:Int))=b9;generalize (Go.IntKind.wrap .i64 (s.Put-s.dz)==(s.Buffer.length:Int))=b10;generalize (s.Put==1)=b11;cases s.cR<;>cases s.Gone<;>cases s.Shut<;>cases b1<;>cases b2<;>cases b3<;>cases b4<;>cases b5<;>cases b6<;>cases b7<;>cases b8<;>cases b9<;>cases b10<;>rfl
theorem Z8(s:ae)(h:s.sz<=1048576):M.ux s=some (stB s):=by
 unfold M.ux stB;have ht:=Z1 s.cq (ae.sS h);simp only[aa.aG,ae.aG,ht,aQ,bf,aD,gn];cases hT:lC s.cq
 ·simp
 ·have em:M.kC s=some (if s.cR then 1 else 1000000:Int):=by unfold M.kC;cases s.cR<;>rfl
  have e3:decide (s.Room<(s.Buffer.length:Int))= !decide ((s.Buffer.length:Int)<=s.Room):=by
   by_cases h1:(s.Buffer.length:Int)<=s.Room
   ·rw[cy h1,dj (show ¬s.Room<(s.Buffer.length:Int) by omega)];rfl
   ·rw[dj h1,cy (show s.Room<(s.Buffer.length:Int) by omega)];rfl
  rw[Z6 s h (LR hT),em,e3];simp only[aQ,bf,cQ,bn,aE,dG,jw,bJ];generalize (decide ((1:Int)<=s.Room)&&decide (s.Room<=(6:Int)))=b1;generalize (s.Room==1)=b2;generalize decide ((s.Buffer.length:Int)<=s.Room)=b3;generalize qo s=b4;generalize decide (s.dz<(0:Int))=b5;generalize (decide (s.dz<=s.Put)&&decide (s.Put<=(if s.cR then 1 else 1000000:Int)))=b6;generalize decide ((0:Int)<(s.Buffer.length:Int))=b9;generalize (Go.IntKind.wrap .i64 (s.Put-s.dz)==(s.Buffer.length:Int))=b10;generalize (s.Put==1)=b11;cases s.cR<;>cases s.Gone<;>cases s.Shut<;>cases b1<;>cases b2<;>cases b3<;>cases b4<;>cases b5<;>cases b6<;>cases b9<;>cases b10<;>rfl
end M
