/-
  A TEXT'S FIRST CODE POINT, as the reference reckons it, beside the decoder of the language: in plain words.
-/
import Derived.Test.YtefdfjaifkhphaaGreatDoorXUTP
import Derived.Lib.MapLaws
set_option linter.unusedVariables false
set_option linter.unusedSimpArgs false
namespace M
open Go Go.V Go.Lib
theorem u8w (n:Nat) (h:n<256):IntKind.wrap .u8 (n:Int)=(n:Int):=by
 have:∀m:Fin 256,IntKind.wrap .u8 ((m.val:Nat):Int)=((m.val:Nat):Int):=by decide+kernel
 exact this ⟨n,h⟩
theorem Yo (n:Nat) (h:n<2^62):IntKind.wrap .i64 (n:Int)=(n:Int):=wrap_i64 (by omega) (by omega)
theorem adU (n:Nat) (h:n<2^62):qF .and .i64 (n:Int) 63=((n%64:Nat):Int):=by
 have e:(BitVec.ofInt 64 (n:Int)&&& BitVec.ofInt 64 (63:Int)).toNat=n%64:=by
  rw[BitVec.toNat_and];have h1:(BitVec.ofInt 64 (n:Int)).toNat=n:=by rw[BitVec.toNat_ofInt];omega
  have h2:(BitVec.ofInt 64 (63:Int)).toNat=63:=by decide
  rw[h1,h2];exact Nat.and_two_pow_sub_one_eq_mod n 6
 show IntKind.wrap .i64 (((BitVec.ofInt 64 (n:Int)&&& BitVec.ofInt 64 (63:Int)).toNat:Nat):Int)=_
 rw[e,Yo _ (by omega)]
theorem agf (x:UInt8):qF .and .u8 ((x.toNat:Nat):Int) 63=((x.toNat%64:Nat):Int):=by
 have:∀m:Fin 256,qF .and .u8 ((m.val:Nat):Int) 63=((m.val%64:Nat):Int):=by decide+kernel
 exact this ⟨x.toNat,x.toNat_lt⟩
theorem ahj (n r:Nat) (hr:r<64) (h:n<2^40):qF .or .i64 ((n*64:Nat):Int) (r:Int)=((n*64+r:Nat):Int):=by
 have e:(BitVec.ofInt 64 ((n*64:Nat):Int)|||BitVec.ofInt 64 (r:Int)).toNat=n*64+r:=by
  rw[BitVec.toNat_or];have h1:(BitVec.ofInt 64 ((n*64:Nat):Int)).toNat=n*64:=by rw[BitVec.toNat_ofInt];omega
  have h2:(BitVec.ofInt 64 (r:Int)).toNat=r:=by rw[BitVec.toNat_ofInt];omega
  rw[h1,h2];have:=Nat.two_pow_add_eq_or_of_lt (b:=r) (i:=6) (by simpa using hr) n
  rw[show (2:Nat)^6=64 by rfl] at this
  rw[Nat.mul_comm n 64,<-this]
 show IntKind.wrap .i64 (((BitVec.ofInt 64 ((n*64:Nat):Int)|||BitVec.ofInt 64 (r:Int)).toNat:Nat):Int)=_
 rw[e,Yo _ (by omega)]
theorem ail (n:Nat) (h:n<2^40):Yl .i64 (n:Int) 6=((n*64:Nat):Int):=by
 have:Yl .i64 (n:Int) 6=IntKind.wrap .i64 ((n:Int)*64):=rfl;rw[this,show (n:Int)*64=((n*64:Nat):Int) by omega,Yo _ (by omega)]
theorem aim (n:Nat):LK .i64 (n:Int) 6=((n/64:Nat):Int):=by
 have:LK .i64 (n:Int) 6=(n:Int).fdiv 64:=rfl;rw[this,Int.fdiv_eq_ediv_of_nonneg _ (by omega)];omega
theorem ahk (n:Nat):LK .i64 (n:Int) 12=((n/4096:Nat):Int):=by
 have:LK .i64 (n:Int) 12=(n:Int).fdiv 4096:=rfl;rw[this,Int.fdiv_eq_ediv_of_nonneg _ (by omega)];omega
theorem ahl (n:Nat):LK .i64 (n:Int) 18=((n/262144:Nat):Int):=by
 have:LK .i64 (n:Int) 18=(n:Int).fdiv 262144:=rfl;rw[this,Int.fdiv_eq_ediv_of_nonneg _ (by omega)];omega
theorem byt (k:Int) (m:Nat) (h:k=(m:Int)) (hm:m<256):IntKind.wrap .u8 (IntKind.wrap .i64 k)=(m:Int):=by
 subst h;rw[Yo m (by omega),u8w m hm]
theorem Kz (m:Nat) (h:m<256):JK (m:Int)=true:=by unfold JK;simp;omega
theorem abZ (m:Nat):Bj (m:Int)=UInt8.ofNat m:=rfl
def chB (n:Nat):List UInt8:=
 if n<128 then [UInt8.ofNat n]
 else if n<2048 then [UInt8.ofNat (192+n/64),UInt8.ofNat (128+n%64)]
 else if n<65536 then [UInt8.ofNat (224+n/4096),UInt8.ofNat (128+n/64%64),UInt8.ofNat (128+n%64)]
 else [UInt8.ofNat (240+n/262144),UInt8.ofNat (128+n/4096%64),UInt8.ofNat (128+n/64%64),UInt8.ofNat (128+n%64)]
theorem agh (n:Nat) (h:n<=1114111):M.qW (n:Int)=some (chB n):=by
 have ha:=adU n (by omega)
 have hb:=adU (n/64) (by omega)
 have hc:=adU (n/4096) (by omega)
 unfold M.qW chB;rw[aim,ahk,ahl,hb,hc,ha]
 by_cases h1:n<128
 ·rw[if_pos h1,u8w n (by omega),Kz n (by omega),abZ]
  have:decide ((n:Int)<128)=true:=by simp;omega
  rw[this];rfl
 ·rw[if_neg h1]
  have d1:decide ((n:Int)<128)=false:=by simp;omega
  rw[d1];have b0:=byt (128+((n%64:Nat):Int)) (128+n%64) (by omega) (by omega)
  rw[b0]
  by_cases h2:n<2048
  ·have d2:decide ((n:Int)<2048)=true:=by simp;omega
   have b1:=byt (192+((n/64:Nat):Int)) (192+n/64) (by omega) (by omega)
   rw[if_pos h2,d2,b1];simp only[cond_false,cond_true,Kz _ (show 192+n/64<256 by omega),Kz _ (show 128+n%64<256 by omega),abZ,Bool.and_self,List.map_id']
  ·rw[if_neg h2]
   have d2:decide ((n:Int)<2048)=false:=by simp;omega
   have b2:=byt (128+((n/64%64:Nat):Int)) (128+n/64%64) (by omega) (by omega)
   rw[d2,b2]
   by_cases h3:n<65536
   ·have d3:decide ((n:Int)<65536)=true:=by simp;omega
    have b1:=byt (224+((n/4096:Nat):Int)) (224+n/4096) (by omega) (by omega)
    rw[if_pos h3,d3,b1];simp only[cond_false,cond_true,Kz _ (show 224+n/4096<256 by omega),Kz _ (show 128+n/64%64<256 by omega),Kz _ (show 128+n%64<256 by omega),abZ,Bool.and_self,List.map_id']
   ·have d3:decide ((n:Int)<65536)=false:=by simp;omega
    have b1:=byt (240+((n/262144:Nat):Int)) (240+n/262144) (by omega) (by omega)
    have b3:=byt (128+((n/4096%64:Nat):Int)) (128+n/4096%64) (by omega) (by omega)
    rw[if_neg h3,d3,b1,b3];simp only[cond_false,cond_true,Kz _ (show 240+n/262144<256 by omega),Kz _ (show 128+n/4096%64<256 by omega),Kz _ (show 128+n/64%64<256 by omega),Kz _ (show 128+n%64<256 by omega),abZ,Bool.and_self,List.map_id']
def Tj (n:Nat):List UInt8->Nat
 | []=>n
 |x::r=>Tj (n*64+x.toNat%64) r
theorem UU (s:List UInt8) (many:Nat) (hm:many<=s.length) (hs:s.length<=1048576):∀(d f n i:Nat),i+d=many->d<=3->(n+1)*64^d<=2^24->
 M.kE s (many:Int) (f+d+1) (n:Int) (i:Int)=some (s,(many:Int),((Tj n ((s.take many).drop i):Nat):Int))
 |0,f,n,i,hi,_,hn=>by
  have d:decide ((i:Int)<(many:Int))=false:=by simp;omega
  have e:(s.take many).drop i=[]:=List.drop_eq_nil_of_le (by rw[List.length_take];omega)
  rw[e];simp only[M.kE,d,cond_false,Tj]
 |d+1,f,n,i,hi,hd,hn=>by
  have d1:decide ((i:Int)<(many:Int))=true:=by simp;omega
  have hin:inB (i:Int) s.length=true:=by rw[dM];simp;omega
  have hil:i<(s.take many).length:=by rw[List.length_take];omega
  have hg:s.getD i 0=(s.take many)[i]:=by rw[getD_lt (by omega),List.getElem_take]
  have hp:64^(d+1)=64*64^d:=by rw[Nat.pow_succ,Nat.mul_comm]
  have hn2:n<2^24:=by
   have:(n+1)*1<=(n+1)*64^(d+1):=Nat.mul_le_mul_left _ (Nat.pos_of_ne_zero (by simp))
   omega
  have hb:((s.getD i 0).toNat%64)<64:=Nat.mod_lt _ (by omega)
  have hstep:(n*64+(s.getD i 0).toNat%64+1)*64^d<=2^24:=by
   have:(n*64+(s.getD i 0).toNat%64+1)*64^d<=((n+1)*64)*64^d:=Nat.mul_le_mul_right _ (by omega)
   rw[hp,<-Nat.mul_assoc] at hn;omega
  have ih:=UU s many hm hs d f (n*64+(s.getD i 0).toNat%64) (i+1) (by omega) (by omega) hstep
  rw[Dt hil,Tj];rw[show f+(d+1)+1=(f+d+1)+1 by omega,M.kE]
  rw[d1,Int.toNat_natCast,hin];simp only[cond_true,Bool.and_true];rw[ail n (by omega),agf,Yo ((s.getD i 0).toNat%64) (by omega),ahj n _ hb (by omega),nM (show i<many by omega) (by omega)]
  rw[ih,hg]
end M
namespace M
open Go Go.V Go.Lib
def qG (b:Nat):Nat:=if 240<=b then 4 else if 224<=b then 3 else if 192<=b then 2 else 1
def Xq (b:Nat):Nat:=if 240<=b then b-240 else if 224<=b then b-224 else if 192<=b then b-192 else b
def Oa (n:Nat):Bool:=decide (n<=55295)||(decide (57344<=n)&&decide (n<=1114111))
def ptB (s:List UInt8):Nat×Nat:=
 if s.length<qG (s.getD 0 0).toNat then (0,0)
 else if Oa (Tj (Xq (s.getD 0 0).toNat) ((s.take (qG (s.getD 0 0).toNat)).drop 1))&&(chB (Tj (Xq (s.getD 0 0).toNat) ((s.take (qG (s.getD 0 0).toNat)).drop 1))==s.take (qG (s.getD 0 0).toNat)) then
  (Tj (Xq (s.getD 0 0).toNat) ((s.take (qG (s.getD 0 0).toNat)).drop 1),qG (s.getD 0 0).toNat)
 else (0,0)
theorem agi (n:Nat):M.jR (n:Int)=some (Oa n):=by
 unfold M.jR Oa;have h1:decide ((0:Int)<=(n:Int))=true:=by simp
 have h2:decide ((n:Int)<=55295)=decide (n<=55295):=by congr 1;exact propext ⟨fun h=>by omega,fun h=>by omega⟩
 have h3:decide ((57344:Int)<=(n:Int))=decide (57344<=n):=by congr 1;exact propext ⟨fun h=>by omega,fun h=>by omega⟩
 have h4:decide ((n:Int)<=1114111)=decide (n<=1114111):=by congr 1;exact propext ⟨fun h=>by omega,fun h=>by omega⟩
 rw[h1,h2,h3,h4,Bool.true_and]
theorem afl {n:Nat} (h:Oa n=true):n<=1114111:=by
 unfold Oa at h;simp only[Bool.or_eq_true,Bool.and_eq_true,decide_eq_true_eq] at h;omega
theorem FM (s:List UInt8) (m n:Nat) (hm:m<=s.length) (q9:Bool) (h9:q9=true):
 (bif ((!(Option.getD (M.jR (n:Int)) Inhabited.default))||(!((Option.getD (M.qW (n:Int)) Inhabited.default)==(List.drop (Int.toNat (0:Int)) (List.take (Int.toNat (m:Int)) s))))) then
   (bif (((Go.V.qg (0:Int) (m:Int) (List.length s))||(!((!(Option.getD (M.jR (n:Int)) Inhabited.default))==false)))&&(((Option.isSome (M.qW (n:Int)))||(!((!(Option.getD (M.jR (n:Int)) Inhabited.default))==false)))&&((Option.isSome (M.jR (n:Int)))&&q9))) then some ((0:Int),(0:Int)) else none)
 else
  (bif (((Go.V.qg (0:Int) (m:Int) (List.length s))||(!((!(Option.getD (M.jR (n:Int)) Inhabited.default))==false)))&&(((Option.isSome (M.qW (n:Int)))||(!((!(Option.getD (M.jR (n:Int)) Inhabited.default))==false)))&&((Option.isSome (M.jR (n:Int)))&&q9))) then some ((n:Int),(m:Int)) else none))=
 some (if Oa n&&(chB n==s.take m) then (((n:Nat):Int),((m:Nat):Int)) else (0,0)):=by
 subst h9;have hsl:qg (0:Int) (m:Int) s.length=true:=by unfold qg;simp;omega
 rw[agi,hsl,Int.toNat_natCast];simp only[Option.getD_some,Option.isSome_some,Bool.true_or,Bool.and_true,Bool.true_and]
 cases hc:Oa n
 ·simp
 ·rw[agh n (afl hc)]
  simp only[Option.getD_some,Option.isSome_some,Bool.not_true,Bool.false_or,Int.toNat_zero,List.drop_zero,Bool.true_or,Bool.and_self,cond_true,Bool.true_and]
  cases hb:(chB n==s.take m)<;>simp
theorem afm (s:List UInt8) (hne:s≠[]) (hs:s.length<=1048576):M.xn s=some (((ptB s).1:Int),((ptB s).2:Int)):=by
 have hl:0<s.length:=List.length_pos_iff.2 hne;have e0:(s==[])=false:=by cases s with
  |nil=>exact absurd rfl hne
  |cons a r=>rfl
 have hin:inB (0:Int) s.length=true:=by have:=dM 0 s.length;simpa [hl] using this
 have hb:(s.getD 0 0).toNat<256:=UInt8.toNat_lt _;obtain ⟨f,hf⟩:∃f,aP=f+3+1:=⟨aP-4,by have:=vZ (n:=100) (by omega);omega⟩
 have key:∀(m n0:Nat),qG (s.getD 0 0).toNat=m->Xq (s.getD 0 0).toNat=n0->1<=m->m<=4->(n0+1)*64^(m-1)<=2^24->¬s.length<m->M.kE s (m:Int) aP (n0:Int) 1=some (s,(m:Int),((Tj n0 ((s.take m).drop 1):Nat):Int)):=fun m n0 h1 h2 h3 h4 h5 h6=>by
  have:=UU s m (by omega) hs (m-1) (f+4-m) n0 1 (by omega) (by omega) h5
  rw[hf,show f+3+1=(f+4-m)+(m-1)+1 by omega]
  exact this
 unfold M.xn;rw[e0,Int.toNat_zero];have hw:IntKind.wrap .i64 ((s.getD 0 0).toNat:Int)=((s.getD 0 0).toNat:Int):=Yo _ (by omega)
 unfold ptB
 by_cases II:240<=(s.getD 0 0).toNat
 ·have adV:decide ((240:Int)<=((s.getD 0 0).toNat:Int))=true:=decide_eq_true (by omega)
  have hm:qG (s.getD 0 0).toNat=4:=by unfold qG;rw[if_pos II]
  have hn:Xq (s.getD 0 0).toNat=(s.getD 0 0).toNat-240:=by unfold Xq;rw[if_pos II]
  have hw2:IntKind.wrap .i64 (((s.getD 0 0).toNat:Int)-240)=(((s.getD 0 0).toNat-240:Nat):Int):=by rw[show ((s.getD 0 0).toNat:Int)-240=(((s.getD 0 0).toNat-240:Nat):Int) by omega];exact Yo _ (by omega)
  rw[hm,hn];simp only[adV,cond_false,cond_true,hw,hw2,hin,Bool.true_or,Bool.and_true,Bool.or_true,Bool.true_and,Bool.not_true,Bool.or_false]
  by_cases hsl:s.length<4
  ·have d:decide ((s.length:Int)<4)=true:=by simp;omega
   rw[if_pos hsl,d];rfl
  ·have d:decide ((s.length:Int)<4)=false:=by simp;omega
   have:=key 4 _ hm hn (by omega) (by omega) (by omega) hsl
   rw[if_neg hsl,d];simp only[cond_false];rw[show (4:Int)=((4:Nat):Int) from rfl,this]
   refine (FM s 4 _ (by omega) _ (by rfl)).trans ?_
   split<;>rfl
 ·have adV:decide ((240:Int)<=((s.getD 0 0).toNat:Int))=false:=decide_eq_false (by omega)
  by_cases PU:224<=(s.getD 0 0).toNat
  ·have afn:decide ((224:Int)<=((s.getD 0 0).toNat:Int))=true:=decide_eq_true (by omega)
   have hm:qG (s.getD 0 0).toNat=3:=by unfold qG;rw[if_neg II,if_pos PU]
   have hn:Xq (s.getD 0 0).toNat=(s.getD 0 0).toNat-224:=by unfold Xq;rw[if_neg II,if_pos PU]
   have hw2:IntKind.wrap .i64 (((s.getD 0 0).toNat:Int)-224)=(((s.getD 0 0).toNat-224:Nat):Int):=by rw[show ((s.getD 0 0).toNat:Int)-224=(((s.getD 0 0).toNat-224:Nat):Int) by omega];exact Yo _ (by omega)
   rw[hm,hn];simp only[adV,afn,cond_false,cond_true,hw,hw2,hin,Bool.true_or,Bool.and_true,Bool.or_true,Bool.true_and,Bool.not_true,Bool.not_false,Bool.or_false]
   by_cases hsl:s.length<3
   ·have d:decide ((s.length:Int)<3)=true:=by simp;omega
    rw[if_pos hsl,d];rfl
   ·have d:decide ((s.length:Int)<3)=false:=by simp;omega
    have:=key 3 _ hm hn (by omega) (by omega) (by omega) hsl
    rw[if_neg hsl,d];simp only[cond_false];rw[show (3:Int)=((3:Nat):Int) from rfl,this]
    refine (FM s 3 _ (by omega) _ (by rfl)).trans ?_
    split<;>rfl
  ·have afn:decide ((224:Int)<=((s.getD 0 0).toNat:Int))=false:=decide_eq_false (by omega)
   by_cases Yp:192<=(s.getD 0 0).toNat
   ·have agj:decide ((192:Int)<=((s.getD 0 0).toNat:Int))=true:=decide_eq_true (by omega)
    have hm:qG (s.getD 0 0).toNat=2:=by unfold qG;rw[if_neg II,if_neg PU,if_pos Yp]
    have hn:Xq (s.getD 0 0).toNat=(s.getD 0 0).toNat-192:=by unfold Xq;rw[if_neg II,if_neg PU,if_pos Yp]
    have hw2:IntKind.wrap .i64 (((s.getD 0 0).toNat:Int)-192)=(((s.getD 0 0).toNat-192:Nat):Int):=by rw[show ((s.getD 0 0).toNat:Int)-192=(((s.getD 0 0).toNat-192:Nat):Int) by omega];exact Yo _ (by omega)
    rw[hm,hn];simp only[adV,afn,agj,cond_false,cond_true,hw,hw2,hin,Bool.true_or,Bool.and_true,Bool.or_true,Bool.true_and,Bool.not_true,Bool.not_false,Bool.or_false]
    by_cases hsl:s.length<2
    ·have d:decide ((s.length:Int)<2)=true:=by simp;omega
     rw[if_pos hsl,d];rfl
    ·have d:decide ((s.length:Int)<2)=false:=by simp;omega
     have:=key 2 _ hm hn (by omega) (by omega) (by omega) hsl
     rw[if_neg hsl,d];simp only[cond_false];rw[show (2:Int)=((2:Nat):Int) from rfl,this]
     refine (FM s 2 _ (by omega) _ (by rfl)).trans ?_
     split<;>rfl
   ·have agj:decide ((192:Int)<=((s.getD 0 0).toNat:Int))=false:=decide_eq_false (by omega)
    have hm:qG (s.getD 0 0).toNat=1:=by unfold qG;rw[if_neg II,if_neg PU,if_neg Yp]
    have hn:Xq (s.getD 0 0).toNat=(s.getD 0 0).toNat:=by unfold Xq;rw[if_neg II,if_neg PU,if_neg Yp]
    rw[hm,hn];simp only[adV,afn,agj,cond_false,cond_true,hw,hin,Bool.true_or,Bool.and_true,Bool.or_true,Bool.true_and,Bool.not_true,Bool.not_false,Bool.or_false];have hsl:¬s.length<1:=by omega
    have d:decide ((s.length:Int)<1)=false:=by simp;omega
    have:=key 1 _ hm hn (by omega) (by omega) (by omega) hsl
    rw[if_neg hsl,d];simp only[cond_false];rw[show (1:Int)=((1:Nat):Int) from rfl] at this ⊢
    rw[this];refine (FM s 1 _ (by omega) _ (by rfl)).trans ?_
    split<;>rfl
end M
namespace M
open Go Go.V Go.Lib
def chN (n:Nat):List Nat:=
 if n<128 then [n]
 else if n<2048 then [192+n/64,128+n%64]
 else if n<65536 then [224+n/4096,128+n/64%64,128+n%64]
 else [240+n/262144,128+n/4096%64,128+n/64%64,128+n%64]
theorem afo (n:Nat):chB n=(chN n).map UInt8.ofNat:=by
 unfold chB chN
 repeat' split
 all_goals rfl
theorem agk (n:Nat) (h:n<=1114111):∀x∈chN n,x<256:=by
 unfold chN
 repeat' split
 all_goals (intro x hx;simp only[List.mem_cons,List.not_mem_nil,or_false] at hx;omega)
theorem ZH : ∀(l:List Nat) (s:List UInt8),(∀x∈l,x<256)->(l.map UInt8.ofNat=s↔l=s.map UInt8.toNat)
 | [],[],_=>by simp
 | [],y::s,_=>by simp
 |x::l,[],_=>by simp
 |x::l,y::s,h=>by
  have ih:=ZH l s fun z hz=>h z (List.mem_cons_of_mem _ hz)
  have hx:=h x (List.mem_cons_self ..);simp only[List.map_cons,List.cons.injEq,ih];refine and_congr_left fun _=>⟨fun e=> ?_,fun e=> ?_⟩
  ·rw[<-e];simp;omega
  ·rw[e];simp
theorem ab2 (n:Nat) (h:n<=1114111) (s:List UInt8):(chB n==s)=true↔chN n=s.map UInt8.toNat:=by
 rw[beq_iff_eq,afo];exact ZH _ _ (agk n h)
theorem ahm (n a:Nat):chN n=[a]↔n<128 /\ n=a:=by
 unfold chN
 repeat' split
 all_goals (simp only[List.cons.injEq,and_true,reduceCtorEq,and_false,false_iff,not_and];omega)
theorem ahn (n a b:Nat):chN n=[a,b]↔128<=n /\ n<2048 /\ 192+n/64=a /\ 128+n%64=b:=by
 unfold chN
 repeat' split
 all_goals (simp only[List.cons.injEq,and_true,reduceCtorEq,and_false,false_iff,not_and];omega)
theorem aho (n a b c:Nat):chN n=[a,b,c]↔2048<=n /\ n<65536 /\ 224+n/4096=a /\ 128+n/64%64=b /\ 128+n%64=c:=by
 unfold chN
 repeat' split
 all_goals (simp only[List.cons.injEq,and_true,reduceCtorEq,and_false,false_iff,not_and];omega)
theorem ahp (n a b c d:Nat):chN n=[a,b,c,d]↔65536<=n /\ 240+n/262144=a /\ 128+n/4096%64=b /\ 128+n/64%64=c /\ 128+n%64=d:=by
 unfold chN
 repeat' split
 all_goals (simp only[List.cons.injEq,and_true,reduceCtorEq,and_false,false_iff,not_and];omega)
theorem adW (n:Nat):Oa n=true↔n<=55295 \/ (57344<=n /\ n<=1114111):=by unfold Oa;simp
theorem BN (n:Nat) (s:List UInt8):(Oa n&&(chB n==s))=true↔(n<=55295 \/ (57344<=n /\ n<=1114111)) /\ chN n=s.map UInt8.toNat:=by
 rw[Bool.and_eq_true,adW];constructor
 ·rintro ⟨h1,h2⟩;exact ⟨h1,(ab2 n (by omega) s).1 h2⟩
 ·rintro ⟨h1,h2⟩;exact ⟨h1,(ab2 n (by omega) s).2 h2⟩
theorem agl (s:List UInt8) (hne:s≠[]):(ptB s).2=if (decodeL s).1=65533 /\ (decodeL s).2=1 then 0 else (decodeL s).2:=by
 have hl:0<s.length:=List.length_pos_iff.2 hne;have k0:=(s.getD 0 0).toNat_lt;have k1:=(s.getD 1 0).toNat_lt;have k2:=(s.getD 2 0).toNat_lt;have k3:=(s.getD 3 0).toNat_lt;have shp:=decodeN_shape s.length (s.getD 0 0).toNat (s.getD 1 0).toNat (s.getD 2 0).toNat (s.getD 3 0).toNat;rw[decodeL_N]
 generalize hD:decodeN s.length (s.getD 0 0).toNat (s.getD 1 0).toNat (s.getD 2 0).toNat (s.getD 3 0).toNat=D at shp ⊢
 have hD':=hD;unfold decodeN at hD;unfold ptB
 by_cases II:240<=(s.getD 0 0).toNat
 ·have hm:qG (s.getD 0 0).toNat=4:=by unfold qG;rw[if_pos II]
  have hn:Xq (s.getD 0 0).toNat=(s.getD 0 0).toNat-240:=by unfold Xq;rw[if_pos II]
  rw[hm,hn]
  by_cases hsl:s.length<4
  ·rw[if_pos hsl]
   rcases shp with ⟨c,e⟩ |⟨c1,c2,c3,cv,e⟩ |⟨c1,c2,c3,c4,cv,cs,e⟩ |⟨c1,c2,c3,c4,c5,cv,cw,e⟩ |e
   all_goals first |(exfalso;omega) |(rw[e];rfl)
  ·rw[if_neg hsl,takeD s (by omega)]
   simp only[List.drop_succ_cons,List.drop_zero,Tj]
   generalize hN:(((s.getD 0 0).toNat-240)*64+(s.getD 1 0).toNat%64)*64+(s.getD 2 0).toNat%64=N1
   by_cases pK:(Oa (N1*64+(s.getD 3 0).toNat%64)&&(chB (N1*64+(s.getD 3 0).toNat%64)==[s.getD 0 0,s.getD 1 0,s.getD 2 0,s.getD 3 0]))=true
   ·rw[if_pos pK]
    rw[BN] at pK;simp only[List.map_cons,List.map_nil,ahp] at pK;obtain ⟨q1,q2,q3,q4,q5,q6⟩:=pK;rw[if_neg (by omega),if_neg (by omega),if_neg (by omega),if_pos ⟨by omega,⟨by omega,by omega⟩,⟨by omega,by omega⟩,by omega,by omega⟩,if_pos ⟨by omega,by omega⟩] at hD
    rw[<-hD,if_neg (by simp)]
   ·rw[if_neg pK]
    rw[BN] at pK;simp only[List.map_cons,List.map_nil,ahp] at pK
    rcases shp with ⟨c,e⟩ |⟨c1,c2,c3,cv,e⟩ |⟨c1,c2,c3,c4,cv,cs,e⟩ |⟨c1,c2,c3,c4,c5,cv,cw,e⟩ |e
    ·exfalso;omega
    ·exfalso;omega
    ·exfalso;omega
    ·exfalso;apply pK
     have:(262144:Nat)<=262144:=Nat.le_refl _;rw[if_neg (by omega),if_neg (by omega),if_neg (by omega),if_pos ⟨by omega,⟨by omega,by omega⟩,⟨by omega,by omega⟩,by omega,by omega⟩] at hD
     split at hD
     ·rename_i hv
      exact ⟨by omega,by omega,by omega,by omega,by omega,by omega⟩
     ·rw[<-hD] at e;simp at e
    ·rw[e];rfl
 ·by_cases PU:224<=(s.getD 0 0).toNat
  ·have hm:qG (s.getD 0 0).toNat=3:=by unfold qG;rw[if_neg II,if_pos PU]
   have hn:Xq (s.getD 0 0).toNat=(s.getD 0 0).toNat-224:=by unfold Xq;rw[if_neg II,if_pos PU]
   rw[hm,hn]
   by_cases hsl:s.length<3
   ·rw[if_pos hsl]
    rcases shp with ⟨c,e⟩ |⟨c1,c2,c3,cv,e⟩ |⟨c1,c2,c3,c4,cv,cs,e⟩ |⟨c1,c2,c3,c4,c5,cv,cw,e⟩ |e
    all_goals first |(exfalso;omega) |(rw[e];rfl)
   ·rw[if_neg hsl,takeC s (by omega)]
    simp only[List.drop_succ_cons,List.drop_zero,Tj]
    generalize hN:(((s.getD 0 0).toNat-224)*64+(s.getD 1 0).toNat%64)*64+(s.getD 2 0).toNat%64=N
    by_cases pK:(Oa N&&(chB N==[s.getD 0 0,s.getD 1 0,s.getD 2 0]))=true
    ·rw[if_pos pK]
     rw[BN] at pK;simp only[List.map_cons,List.map_nil,aho] at pK;obtain ⟨q1,q2,q3,q4,q5,q6⟩:=pK;rw[if_neg (by omega),if_neg (by omega),if_pos ⟨by omega,⟨by omega,by omega⟩,by omega,by omega⟩,if_pos ⟨by omega,by omega⟩] at hD
     rw[<-hD,if_neg (by simp)]
    ·rw[if_neg pK]
     rw[BN] at pK;simp only[List.map_cons,List.map_nil,aho] at pK
     rcases shp with ⟨c,e⟩ |⟨c1,c2,c3,cv,e⟩ |⟨c1,c2,c3,c4,cv,cs,e⟩ |⟨c1,c2,c3,c4,c5,cv,cw,e⟩ |e
     ·exfalso;omega
     ·exfalso;omega
     ·exfalso;apply pK
      exact ⟨by omega,by omega,by omega,by omega,by omega,by omega⟩
     ·exfalso;omega
     ·rw[e];rfl
  ·by_cases Yp:192<=(s.getD 0 0).toNat
   ·have hm:qG (s.getD 0 0).toNat=2:=by unfold qG;rw[if_neg II,if_neg PU,if_pos Yp]
    have hn:Xq (s.getD 0 0).toNat=(s.getD 0 0).toNat-192:=by unfold Xq;rw[if_neg II,if_neg PU,if_pos Yp]
    rw[hm,hn]
    by_cases hsl:s.length<2
    ·rw[if_pos hsl]
     rcases shp with ⟨c,e⟩ |⟨c1,c2,c3,cv,e⟩ |⟨c1,c2,c3,c4,cv,cs,e⟩ |⟨c1,c2,c3,c4,c5,cv,cw,e⟩ |e
     all_goals first |(exfalso;omega) |(rw[e];rfl)
    ·rw[if_neg hsl,takeB s (by omega)]
     simp only[List.drop_succ_cons,List.drop_zero,Tj]
     generalize hN:((s.getD 0 0).toNat-192)*64+(s.getD 1 0).toNat%64=N
     by_cases pK:(Oa N&&(chB N==[s.getD 0 0,s.getD 1 0]))=true
     ·rw[if_pos pK]
      rw[BN] at pK;simp only[List.map_cons,List.map_nil,ahn] at pK;obtain ⟨q1,q2,q3,q4,q5⟩:=pK;rw[if_neg (by omega),if_pos ⟨by omega,by omega,by omega⟩,if_pos (by omega)] at hD
      rw[<-hD,if_neg (by simp)]
     ·rw[if_neg pK]
      rw[BN] at pK;simp only[List.map_cons,List.map_nil,ahn] at pK
      rcases shp with ⟨c,e⟩ |⟨c1,c2,c3,cv,e⟩ |⟨c1,c2,c3,c4,cv,cs,e⟩ |⟨c1,c2,c3,c4,c5,cv,cw,e⟩ |e
      ·exfalso;omega
      ·exfalso;apply pK
       exact ⟨by omega,by omega,by omega,by omega,by omega⟩
      ·exfalso;omega
      ·exfalso;omega
      ·rw[e];rfl
   ·have hm:qG (s.getD 0 0).toNat=1:=by unfold qG;rw[if_neg II,if_neg PU,if_neg Yp]
    have hn:Xq (s.getD 0 0).toNat=(s.getD 0 0).toNat:=by unfold Xq;rw[if_neg II,if_neg PU,if_neg Yp]
    rw[hm,hn];rw[if_neg (show ¬s.length<1 by omega),takeA s hl]
    simp only[List.drop_succ_cons,List.drop_zero,Tj]
    by_cases pK:(Oa (s.getD 0 0).toNat&&(chB (s.getD 0 0).toNat==[s.getD 0 0]))=true
    ·rw[if_pos pK]
     rw[BN] at pK;simp only[List.map_cons,List.map_nil,ahm] at pK;rw[if_pos (by omega)] at hD
     rw[<-hD,if_neg (by simp only;omega)]
    ·rw[if_neg pK]
     rw[BN] at pK;simp only[List.map_cons,List.map_nil,ahm] at pK
     rcases shp with ⟨c,e⟩ |⟨c1,c2,c3,cv,e⟩ |⟨c1,c2,c3,c4,cv,cs,e⟩ |⟨c1,c2,c3,c4,c5,cv,cw,e⟩ |e
     ·exfalso;simp only[and_true] at pK;omega
     ·exfalso;omega
     ·exfalso;omega
     ·exfalso;omega
     ·rw[e];rfl
theorem ahq (s:List UInt8) (hne:s≠[]):(ptB s).2<=s.length:=by
 unfold ptB;split
 ·exact Nat.zero_le _
 ·split
  ·rename_i h1 h2;exact Nat.le_of_not_lt h1
  ·exact Nat.zero_le _
theorem QV : ∀(m f:Nat) (s:List UInt8) (out:List Int),s.length<=m->s.length<=1048576->out.length+s.length<=1048576->
 ∃r,M.kY (f+m+1) s out=some r /\ (match r with | .inl a=>a.1=false /\ validGoD m s=false | .inr _=>validGoD m s=true)
 |0,f,s,out,hm,hs,ho=>by
  have e:s=[]:=List.eq_nil_of_length_eq_zero (by omega)
  subst e;exact ⟨.inr out,rfl,rfl⟩
 |m+1,f,s,out,hm,hs,ho=>by
  rw[show f+(m+1)+1=(f+m+1)+1 by omega,M.kY]
  by_cases hne:s=[]
  ·subst hne
   exact ⟨.inr out,rfl,rfl⟩
  ·have hl:0<s.length:=List.length_pos_iff.2 hne
   have d:decide ((0:Int)<(s.length:Int))=true:=decide_eq_true (by omega)
   rw[d,afm s hne hs];simp only[cond_true,Option.getD_some,Option.isSome_some,Bool.and_true,List.length_cons,List.length_nil,Nat.zero_add];have hp:=agl s hne;have hle:=ahq s hne;have hv:validGoD (m+1) s=if (decodeL s).1=65533 /\ (decodeL s).2=1 then false else validGoD m (s.drop (decodeL s).2):=by
    rw[validGoD,if_neg hne]
   by_cases hb:(decodeL s).1=65533 /\ (decodeL s).2=1
   ·rw[if_pos hb] at hp hv
    rw[hp];exact ⟨.inl (false,[]),rfl,rfl,hv⟩
   ·rw[if_neg hb] at hp hv
    have hw:=decodeL_width s;rw[<-hp] at hv hw;have d0:(((ptB s).2:Int)==0)=false:=by rw[beq_eq_false_iff_ne];omega
    have hsl:qg ((ptB s).2:Int) (s.length:Int) s.length=true:=by unfold qg;simp;omega
    have hlen:decide (out.length+1<=1073741824)=true:=decide_eq_true (by omega)
    rw[d0,hsl,hlen];simp only[cond_false,cond_true,Bool.and_self,Int.toNat_natCast,List.take_length];have hdl:(s.drop (ptB s).2).length=s.length-(ptB s).2:=List.length_drop;obtain ⟨r,h1,h2⟩:=QV m f (s.drop (ptB s).2) (out++[((ptB s).1:Int)]) (by omega) (by omega) (by rw[List.length_append];simp;omega)
    refine ⟨r,h1, ?_⟩;rw[hv];exact h2
def KA (s:List UInt8):Bool:=decide (s.length<=24)&&validD s
theorem agm (s:List UInt8) (hs:s.length<=1048576):M.DR s=some (KA s):=by
 unfold M.DR KA
 by_cases h:s.length<=24
 ·have d:decide ((24:Int)<(s.length:Int))=false:=decide_eq_false (by omega)
  rw[d,decide_eq_true h];obtain ⟨f,hf⟩:∃f,aP=f+s.length+1:=⟨aP-(s.length+1),by have:=vZ hs;omega⟩
  obtain ⟨r,h1,h2⟩:=QV s.length f s [] (Nat.le_refl _) hs (by simp;omega)
  have e:∀r,M.kY (f+s.length+1) s []=some r->M.uj s=(match r with | .inl a=>some (a.2,a.1) | .inr b=>some (b,true)):=fun r h=>by
   unfold M.uj;rw[hf,h];cases r<;>rfl
  have e:=e r h1
  cases r with
  |inl a=>
   simp only at h2 e;rw[e];simp only[cond_false,Option.isSome_some,Bool.and_true,cond_true,Option.getD_some,Bool.true_and,h2.1];exact congrArg some h2.2.symm
  |inr b=>
   simp only at h2 e;rw[e];simp only[cond_false,Option.isSome_some,Bool.and_true,cond_true,Option.getD_some,Bool.true_and];exact congrArg some h2.symm
 ·have d:decide ((24:Int)<(s.length:Int))=true:=decide_eq_true (by omega)
  rw[d,decide_eq_false h];rfl
theorem agn (s:List UInt8) (hs:s.length<=1048576):M.DW s=some (KA s):=by
 have e:M.dJ s=some (validD s):=by
  unfold M.dJ;rw[decide_eq_true (show s.length<=9223372036854775807 by omega)];rfl
 have d:decide ((s.length:Int)<=24)=decide (s.length<=24):=by congr 1;exact propext ⟨fun h=>by omega,fun h=>by omega⟩
 unfold M.DW KA;rw[e,d];rfl
end M
namespace M
open Go.V (inB qg aP bG)
theorem af.ab3 {a:af} {N:Nat} (h:a.sz<=N):a.Text.length<=N:=by rw[af.jO] at h;omega
theorem af.TD {a:af} {N:Nat} (h:a.sz<=N):lI af.sz a.Kids<=N:=by rw[af.jO] at h;omega
theorem af.jP {a:af} {N:Nat} (h:a.sz<=N):a.Kids.length<=N:=Nat.le_trans (lC _ _) (af.TD h)
theorem af.rD {a x:af} (h:x∈a.Kids):x.sz<a.sz:=by
 rw[af.jO a];have:=Jk af.sz _ _ h;omega
def UW (k:Int):Int×Int:=
 if k=3 then (0,255) else if k=4 then (-128,127) else if k=5 then (0,65535) else if k=6 then (-32768,32767) else if k=7 then (0,4294967295) else if k=8 then (-2147483648,2147483647)
 else if k=9 then (-9223372036854775808,9223372036854775807) else (0,0)
def afX (n:Int):Bool:=(decide ((0:Int)<=n)&&decide (n<=(55295:Int)))||(decide ((57344:Int)<=n)&&decide (n<=(1114111:Int)))
def Yq (t:ae):Int:=Go.IntKind.wrap .i64 (Go.V.Yl .i64 (1:Int) (t.aQ.length:Int)-1)
def UX (t:ae):Int:=
 if t.Kind=17 \/ t.Kind=18 then Go.IntKind.wrap .i64 ((t.aQ.length:Int)-1) else if t.Kind=19 then Yq t
 else if t.Kind=20 \/ t.Kind=21 \/ t.Kind=22 \/ t.Kind=23 then 2147483647 else 0
def EC (n:Int) (t:ae):Bool:=
 if t.Kind=2 \/ t.Kind=13 \/ t.Kind=14 then decide ((0:Int)<=n)&&decide (n<=(1:Int))
 else if 3<=t.Kind /\ t.Kind<=9 then decide ((UW t.Kind).1<=n)&&decide (n<=(UW t.Kind).2)
 else if t.Kind=10 then afX n
 else decide ((0:Int)<=n)&&decide (n<=UX t)
def Oc (t:ae):List ae:=if sF t then [] else [t]
def kT (n:Int) (len:Nat) (t:ae):Option (List ae):=
 if t.Kind=12 then some (List.replicate (min len 8) (t.Kids.getD 0 ae.zero))
 else if t.Kind=15 \/ t.Kind=16 then some t.Kids
 else if t.Kind=13 then (if n=0 then some [] else if n=1 then some (Oc (t.Kids.getD 0 ae.zero)) else none)
 else if t.Kind=14 \/ t.Kind=17 then (if 0<=n /\ n<(t.Kids.length:Int) then some (Oc (t.Kids.getD n.toNat ae.zero)) else none)
 else some []
def headB (k n:Int) (x:List UInt8) (t:ae):Bool:=(((k==t.Kind)&&EC n t)&&(x==[]||t.Kind==11))&&KA x
mutual
def jC : af->ae->Bool
 | .mk k n x kids,t=>headB k n x t&&(match kT n kids.length t with
   |some ts=>decide (ts.length=kids.length)&&tJ kids ts
   |none=>false)
def tJ : List af->List ae->Bool
 | [],_=>true
 |v::r,ts=>jC v (ts.headD ae.zero)&&tJ r ts.tail
end
theorem TU (v:af) (t:ae):jC v t=(headB v.Kind v.Num v.Text t&&(match kT v.Num v.Kids.length t with
 |some ts=>decide (ts.length=v.Kids.length)&&tJ v.Kids ts
 |none=>false)):=by cases v;rfl
theorem FN : ∀(a:List af) (b:List ae),b.length=a.length->tJ a b=(List.range a.length).all fun k=>jC (a.getD k af.zero) (b.getD k ae.zero)
 | [],_,_=>rfl
 |v::r,[],h=>by simp at h
 |v::r,t::ts,h=>by
  rw[tJ,List.headD_cons,List.tail_cons,FN r ts (by simpa using h),List.length_cons,List.range_succ_eq_map,List.all_cons,List.all_map]
  rfl
theorem QW (t:ae):∀(a:List af) (n:Nat),n=a.length->tJ a (List.replicate n t)=a.all fun v=>jC v t
 | [],_,_=>rfl
 |v::r,n,h=>by
  subst h;rw[List.length_cons,List.replicate_succ,tJ,List.headD_cons,List.tail_cons,QW t r r.length rfl,List.all_cons]
theorem kb {a b:Int} (h:a≠b):(a==b)=false:=by rw[beq_eq_false_iff_ne];exact h
theorem kt {a b:Int} (h:a=b):(a==b)=true:=by rw[h];exact beq_self_eq_true b
theorem UY (k:Int):∃b,M.xu k=some ((UW k).1,(UW k).2,b):=by
 unfold M.xu UW
 by_cases h3:k=3
 ·subst h3;exact ⟨true,rfl⟩
 by_cases h4:k=4
 ·subst h4;exact ⟨true,rfl⟩
 by_cases h5:k=5
 ·subst h5;exact ⟨true,rfl⟩
 by_cases h6:k=6
 ·subst h6;exact ⟨true,rfl⟩
 by_cases h7:k=7
 ·subst h7;exact ⟨true,rfl⟩
 by_cases h8:k=8
 ·subst h8;exact ⟨true,rfl⟩
 by_cases h9:k=9
 ·subst h9;exact ⟨true,rfl⟩
 exact ⟨false,by simp[h3,h4,h5,h6,h7,h8,h9,kb h3,kb h4,kb h5,kb h6,kb h7,kb h8,kb h9]⟩
theorem UZ (k:Int):∃b,M.Az k=some ((UW k).1,(UW k).2,b):=UY k
theorem adX {k:Int} (h:¬(3<=k /\ k<=9)):UW k=(0,0):=by
 unfold UW;rw[if_neg (by omega),if_neg (by omega),if_neg (by omega),if_neg (by omega),if_neg (by omega),if_neg (by omega),if_neg (by omega)]
theorem afp (v:af) (t:ae):M.Jp v t=some (EC v.Num t):=by
 unfold M.Jp EC
 by_cases h1:t.Kind=2 \/ t.Kind=13 \/ t.Kind=14
 ·rw[if_pos h1]
  rcases h1 with h |h |h<;>simp[h]
 ·rw[if_neg h1]
  simp only[not_or] at h1;obtain ⟨a2,a13,a14⟩:=h1;simp only[kb a2,kb a13,kb a14,cond_false]
  by_cases h2:3<=t.Kind /\ t.Kind<=9
  ·rw[if_pos h2]
   obtain ⟨b,e⟩:=UY t.Kind;have:(bif t.Kind==3 then t.Kind==3 else bif t.Kind==4 then t.Kind==4 else bif t.Kind==5 then t.Kind==5 else bif t.Kind==6 then t.Kind==6 else bif t.Kind==7 then t.Kind==7 else bif t.Kind==8 then t.Kind==8 else t.Kind==9)=true:=by
    have:t.Kind=3 \/ t.Kind=4 \/ t.Kind=5 \/ t.Kind=6 \/ t.Kind=7 \/ t.Kind=8 \/ t.Kind=9:=by omega
    rcases this with h |h |h |h |h |h |h<;>simp[h]
   rw[this,e];rfl
  ·rw[if_neg h2]
   have:(bif t.Kind==3 then t.Kind==3 else bif t.Kind==4 then t.Kind==4 else bif t.Kind==5 then t.Kind==5 else bif t.Kind==6 then t.Kind==6 else bif t.Kind==7 then t.Kind==7 else bif t.Kind==8 then t.Kind==8 else t.Kind==9)=false:=by
    simp only[kb (show t.Kind≠3 by omega),kb (show t.Kind≠4 by omega),kb (show t.Kind≠5 by omega),kb (show t.Kind≠6 by omega),kb (show t.Kind≠7 by omega),kb (show t.Kind≠8 by omega),kb (show t.Kind≠9 by omega),cond_false]
   rw[this];simp only[cond_false]
   by_cases h3:t.Kind=10
   ·rw[if_pos h3,kt h3];rfl
   ·rw[if_neg h3,kb h3]
    simp only[cond_false];unfold UX Yq
    by_cases h4:t.Kind=17
    ·simp[h4]
    by_cases h5:t.Kind=18
    ·simp[h5]
    by_cases h6:t.Kind=19
    ·simp[h6]
    by_cases h7:t.Kind=20
    ·simp[h7]
    by_cases h8:t.Kind=21
    ·simp[h8]
    by_cases h9:t.Kind=22
    ·simp[h9]
    by_cases h10:t.Kind=23
    ·simp[h10]
    simp[h4,h5,h6,h7,h8,h9,h10,kb h4,kb h5,kb h6,kb h7,kb h8,kb h9,kb h10]
theorem FO {t:ae} (h:jg t=true):(t.Kind=12->t.Kids.length=1) /\ (t.Kind=13->t.Kids.length=1 /\ sF (t.Kids.getD 0 ae.zero)=false) /\ (t.Kind=14->t.Kids.length=2) /\ (t.Kind=17->t.Kids.length=t.aQ.length):=by
 rw[zT] at h;simp only[Bool.and_eq_true] at h;have hk:=h.1;unfold EX at hk;simp only[Bool.and_eq_true] at hk;have hk:=hk.2;unfold Zc at hk;refine ⟨fun e=> ?_,fun e=> ?_,fun e=> ?_,fun e=> ?_⟩
 ·rw[if_pos (.inl e)] at hk;simp at hk;exact hk.1
 ·rw[if_pos (.inr e)] at hk;simp only[Bool.and_eq_true,beq_iff_eq,Bool.not_eq_true'] at hk
  refine ⟨hk.1, ?_⟩;have hl:0<t.Kids.length:=by omega
  rw[getD_lt hl];have:=List.any_eq_false.1 hk.2 _ (List.getElem_mem hl);simpa using this
 ·rw[if_neg (by omega),if_pos e] at hk;simp at hk;exact hk
 ·rw[if_neg (by omega),if_neg (by omega),if_neg (by omega),if_neg (by omega),if_pos e] at hk;simp at hk;exact hk
theorem adY (t:ae) (n:Int) (hl:t.Kids.length<=1048576) (h:t.Kind≠13):M.qB t n=some (if 0<=n /\ n<(t.Kids.length:Int) then (t.Kids.getD n.toNat ae.zero,true) else (.mk 0 [] [] [],false)):=by
 unfold M.qB;rw[kb h,wrap_i64 (show (-9223372036854775808:Int)<=(t.Kids.length:Int)-1 by omega) (by omega)]
 simp only[cond_false]
 by_cases hn:0<=n /\ n<(t.Kids.length:Int)
 ·rw[if_pos hn,decide_eq_true hn.1,decide_eq_true (show n<=(t.Kids.length:Int)-1 by omega)]
  have hin:inB n t.Kids.length=true:=by unfold inB;rw[decide_eq_true hn.1,decide_eq_true hn.2];rfl
  rw[hin,ae.bM];rfl
 ·rw[if_neg hn]
  have:(decide ((0:Int)<=n)&&decide (n<=(t.Kids.length:Int)-1))=false:=by
   rw[Bool.and_eq_false_iff]
   by_cases h0:0<=n
   ·right;exact decide_eq_false (by omega)
   ·left;exact decide_eq_false h0
  rw[this];rfl
theorem afq (t:ae) (n:Int) (h:t.Kind=13) (hk:t.Kids.length=1) (hn:n=0 \/ n=1):M.qB t n=some (if n=0 then (.mk 1 [] [] [],true) else (t.Kids.getD 0 ae.zero,true)):=by
 unfold M.qB;rw[kt h,hk]
 rcases hn with rfl |rfl
 ·rfl
 ·have:Go.IntKind.wrap .i64 ((1:Int)-1)=0:=by decide
  have h2:Go.IntKind.wrap .i64 (((1:Nat):Int)-1)=0:=by decide
  rw[this,h2,ae.bM];rfl
theorem aaZ (v:af) (t:ae) (hv:v.sz<=1048576) (ht:t.sz<=1048576) (hs:jg t=true) (hn:EC v.Num t=true):
 ∃l,M.xw v t=some (l,(kT v.Num v.Kids.length t).isSome) /\ ∀ts,kT v.Num v.Kids.length t=some ts->l=ts:=by
 obtain ⟨s12,s13,s14,s17⟩:=FO hs;have hl:=af.jP hv;have hl2:=ae.jP ht;unfold M.xw kT
 by_cases h12:t.Kind=12
 ·rw[if_pos h12,kt h12]
  have hk:=s12 h12;have e:M.dP t.Kids (bif decide ((8:Int)<(v.Kids.length:Int)) then 8 else (v.Kids.length:Int))=some (List.replicate (min v.Kids.length 8) (t.Kids.getD 0 ae.zero)):=by
   have e1:(bif decide ((8:Int)<(v.Kids.length:Int)) then (8:Int) else (v.Kids.length:Int))=((min v.Kids.length 8:Nat):Int):=by
    by_cases h:(8:Int)<(v.Kids.length:Int)
    ·rw[decide_eq_true h,cond_true];omega
    ·rw[decide_eq_false h,cond_false];omega
   rw[e1];unfold M.dP;rw[decide_eq_true hk,decide_eq_true (show (0:Int)<=((min v.Kids.length 8:Nat):Int) by omega),decide_eq_true (show ((min v.Kids.length 8:Nat):Int)<=8 by omega),Int.toNat_natCast]
   rfl
  rw[e];exact ⟨_,rfl,fun ts h=>Option.some.inj h⟩
 ·rw[if_neg h12,kb h12]
  simp only[cond_false]
  by_cases h15:t.Kind=15 \/ t.Kind=16
  ·rw[if_pos h15]
   have:(bif t.Kind==15 then t.Kind==15 else t.Kind==16)=true:=by rcases h15 with h |h<;>simp[h]
   rw[this];exact ⟨_,rfl,fun ts h=>Option.some.inj h⟩
  ·rw[if_neg h15]
   simp only[not_or] at h15;simp only[kb h15.1,kb h15.2,cond_false]
   by_cases h13:t.Kind=13
   ·rw[if_pos h13]
    simp only[kt h13,cond_true];obtain ⟨k1,k2⟩:=s13 h13;have ahr:v.Num=0 \/ v.Num=1:=by
     unfold EC at hn;rw[if_pos (.inr (.inl h13))] at hn;simp only[Bool.and_eq_true,decide_eq_true_eq] at hn;omega
    rw[ae.bM,afq t v.Num h13 k1 ahr]
    rcases ahr with e |e
    ·rw[e];exact ⟨[],rfl,fun ts h=>Option.some.inj h⟩
    ·rw[e]
     have hku:((t.Kids.getD 0 ae.zero).Kind==1)=false:=k2;have ho:Oc (t.Kids.getD 0 ae.zero)=[t.Kids.getD 0 ae.zero]:=by unfold Oc;rw[k2];rfl
     rw[if_neg (by decide),if_neg (by decide),if_pos rfl,ho]
     simp only[Option.getD_some,hku,cond_false,Option.isSome_some,Bool.and_self,cond_true,ae.bM];exact ⟨_,rfl,fun ts h=>Option.some.inj h⟩
   ·rw[if_neg h13]
    by_cases Y2:t.Kind=14 \/ t.Kind=17
    ·rw[if_pos Y2]
     have:(bif t.Kind==13 then t.Kind==13 else bif t.Kind==14 then t.Kind==14 else t.Kind==17)=true:=by rcases Y2 with h |h<;>simp[h]
     rw[this,ae.bM,adY t v.Num hl2 h13]
     by_cases hb:0<=v.Num /\ v.Num<(t.Kids.length:Int)
     ·rw[if_pos hb,if_pos hb]
      unfold Oc sF
      cases hu:((t.Kids.getD v.Num.toNat ae.zero).Kind==1)
      ·simp only[Option.getD_some,hu,cond_false,cond_true,Option.isSome_some,Bool.and_self,ae.bM]
       exact ⟨_,rfl,fun ts h=>Option.some.inj h⟩
      ·simp only[Option.getD_some,hu,cond_false,cond_true,Option.isSome_some,Bool.and_self,ae.bM]
       exact ⟨_,rfl,fun ts h=>Option.some.inj h⟩
     ·rw[if_neg hb,if_neg hb]
      exact ⟨_,rfl,fun ts h=>by cases h⟩
    ·rw[if_neg Y2]
     simp only[not_or] at Y2;simp only[kb h13,kb Y2.1,kb Y2.2,cond_false];exact ⟨_,rfl,fun ts h=>Option.some.inj h⟩
theorem adZ {n:Int} {len:Nat} {t:ae} (hs:jg t=true) {ts:List ae} (h:kT n len t=some ts):∀x∈ts,jg x=true:=by
 have hkids:∀x∈t.Kids,jg x=true:=by
  rw[zT,Bool.and_eq_true,A8,List.all_eq_true] at hs;exact hs.2
 obtain ⟨s12,s13,s14,s17⟩:=FO hs;have hone:∀k,k<t.Kids.length->∀x∈Oc (t.Kids.getD k ae.zero),jg x=true:=fun k hk x hx=>by
  unfold Oc at hx;split at hx
  ·cases hx
  ·rw[List.mem_singleton] at hx;subst hx;rw[getD_lt hk];exact hkids _ (List.getElem_mem hk)
 unfold kT at h;split at h
 ·rename_i h12
  simp only[Option.some.injEq] at h;subst h;intro x hx;rw[(List.mem_replicate.1 hx).2,getD_lt (by rw[s12 h12];omega)]
  exact hkids _ (List.getElem_mem _)
 ·split at h
  ·simp only[Option.some.injEq] at h;subst h;exact hkids
  ·split at h
   ·rename_i h13
    split at h
    ·simp only[Option.some.injEq] at h;subst h;intro x hx;cases hx
    ·split at h
     ·simp only[Option.some.injEq] at h;subst h;exact hone 0 (by rw[(s13 h13).1];omega)
     ·cases h
   ·split at h
    ·split at h
     ·rename_i hb
      simp only[Option.some.injEq] at h;subst h;exact hone _ (by omega)
     ·cases h
    ·simp only[Option.some.injEq] at h;subst h;intro x hx;cases hx
theorem ahs {n:Int} {len:Nat} {t:ae} (hs:jg t=true) (ht:t.sz<=1048576) {ts:List ae} (h:kT n len t=some ts):∀x∈ts,x.sz<=1048576:=by
 obtain ⟨s12,s13,s14,s17⟩:=FO hs;have hkids:∀x∈t.Kids,x.sz<=1048576:=fun x hx=>by have:=ae.rD hx;omega
 have hone:∀k,k<t.Kids.length->∀x∈Oc (t.Kids.getD k ae.zero),x.sz<=1048576:=fun k hk x hx=>by
  unfold Oc at hx;split at hx
  ·cases hx
  ·rw[List.mem_singleton] at hx;subst hx;rw[getD_lt hk];exact hkids _ (List.getElem_mem hk)
 unfold kT at h;split at h
 ·rename_i h12
  simp only[Option.some.injEq] at h;subst h;intro x hx;rw[(List.mem_replicate.1 hx).2,getD_lt (by rw[s12 h12];omega)]
  exact hkids _ (List.getElem_mem _)
 ·split at h
  ·simp only[Option.some.injEq] at h;subst h;exact hkids
  ·split at h
   ·rename_i h13
    split at h
    ·simp only[Option.some.injEq] at h;subst h;intro x hx;cases hx
    ·split at h
     ·simp only[Option.some.injEq] at h;subst h;exact hone 0 (by rw[(s13 h13).1];omega)
     ·cases h
   ·split at h
    ·split at h
     ·rename_i hb
      simp only[Option.some.injEq] at h;subst h;exact hone _ (by omega)
     ·cases h
    ·simp only[Option.some.injEq] at h;subst h;intro x hx;cases hx
theorem ad1 : ∀(m:Nat) (v:af) (t:ae),v.sz<m->v.sz<=1048576->t.sz<=1048576->jg t=true->M.rY m v t=some (jC v t)
 |0,v,t,h,_,_,_=>absurd h (Nat.not_lt_zero _)
 |m+1,v,t,h,hv,ht,hs=>by
  have hl:=af.jP hv
  show M.Ih (M.rY m) v t=_
  unfold M.Ih;rw[af.bM,ae.bM,afp,agn _ (af.ab3 hv),TU];simp only[Option.getD_some,Option.isSome_some,Bool.true_or,Bool.and_true,cond_true,mP];have hhead:headB v.Kind v.Num v.Text t= !(((!(v.Kind==t.Kind))||(!EC v.Num t)||((!(v.Text==[]))&&(!(t.Kind==11))))||(!KA v.Text)):=by
   unfold headB
   cases (v.Kind==t.Kind)<;>cases EC v.Num t<;>cases (v.Text==[])<;>cases (t.Kind==11)<;>cases KA v.Text<;>rfl
  cases hb:(((!(v.Kind==t.Kind))||(!EC v.Num t)||((!(v.Text==[]))&&(!(t.Kind==11))))||(!KA v.Text))
  ·rw[hhead,hb]
   have hn:EC v.Num t=true:=by
    simp only[Bool.or_eq_false_iff,Bool.not_eq_false'] at hb;exact hb.1.1.2
   obtain ⟨l,e1,e2⟩:=aaZ v t hv ht hs hn;rw[e1];simp only[cond_false,Option.getD_some,Option.isSome_some,Bool.not_false,Bool.true_and]
   cases hk:kT v.Num v.Kids.length t with
   |none=>rfl
   |some ts=>
    have:=e2 ts hk;subst this;simp only[Option.isSome_some,Bool.not_true,Bool.false_or]
    by_cases hlen:l.length=v.Kids.length
    ·have:((l.length:Int)==(v.Kids.length:Int))=true:=by rw[beq_iff_eq];omega
     rw[this,decide_eq_true hlen];have hloop:=Ez (p:=fun k=>jC (v.Kids.getD k af.zero) (l.getD k ae.zero)) (F:=fun f i=>M.pW (M.rY m) l v.Kids (v.Kids.length:Int) f i) (e:=()) (b:=false) v.Kids.length (by omega) (fun f k hk2=>by
      show M.pW (M.rY m) l v.Kids (v.Kids.length:Int) (f+1) (k:Int)=_
      rw[M.pW];have hx:=af.rD (List.getElem_mem hk2);have hkl:k<l.length:=by omega
      have hx2:=ahs hs ht hk l[k] (List.getElem_mem hkl);have hx3:=adZ hs hk l[k] (List.getElem_mem hkl);simp only[ae.bM,af.bM,getD_lt hk2,getD_lt hkl,ad1 m v.Kids[k] l[k] (by omega) (by omega) hx2 hx3,Int.toNat_natCast,dM,Int.ofNat_lt,hk2,hkl,decide_true,cond_true,Bool.true_or,Bool.true_and,Bool.and_true,nM hk2 (by omega:v.Kids.length<2^62),Option.getD_some,Option.isSome_some]
      cases jC v.Kids[k] l[k]<;>rfl) (fun f=>by
      show M.pW (M.rY m) l v.Kids (v.Kids.length:Int) (f+1) _=_
      rw[M.pW];simp)
     have agp:M.pW (M.rY m) l v.Kids (v.Kids.length:Int) aP 0=_:=hloop;rw[agp,FN _ _ hlen]
     cases (List.range v.Kids.length).all fun k=>jC (v.Kids.getD k af.zero) (l.getD k ae.zero)<;>rfl
    ·have:((l.length:Int)==(v.Kids.length:Int))=false:=by rw[beq_eq_false_iff_ne];omega
     rw[this,decide_eq_false hlen];rfl
  ·rw[hhead,hb];rfl
end M
namespace M
open Go.V (inB qg aP bG)
theorem aa0 : KA []=true:=rfl
section
variable {rec :af->ae->Option Bool} {kids:List af}
theorem ab4 (most:Int) (t:ae) (hl:kids.length<=1048576) (hr:∀x∈kids,rec x t=some (jC x t)):
 M.sW rec kids most t=some (decide ((kids.length:Int)<=most)&&kids.all fun v=>jC v t):=by
 have e:=UT (p:=fun v=>jC v t) (F:=fun f i=>M.iE rec kids f i t) (e:=()) (b:=false) kids (by omega) (fun f k hk=>by
  show M.iE rec kids (f+1) (k:Int) t=_
  rw[M.iE];simp only[ae.bM,af.bM,getD_lt hk,hr _ (List.getElem_mem hk),Int.toNat_natCast,dM,Int.ofNat_lt,hk,decide_true,cond_true,Bool.true_or,Bool.true_and,Bool.and_true,nM hk (by omega:kids.length<2^62),Option.getD_some,Option.isSome_some]
  cases jC kids[k] t<;>rfl) (fun f=>by
  show M.iE rec kids (f+1) _ t=_
  rw[M.iE];simp)
 have e':M.iE rec kids aP 0 t=_:=e;unfold M.sW;rw[ae.bM,e']
 by_cases h:(kids.length:Int)<=most
 ·rw[decide_eq_true h,decide_eq_false (show ¬most<(kids.length:Int) by omega)]
  cases kids.all fun v=>jC v t<;>rfl
 ·rw[decide_eq_false h,decide_eq_true (show most<(kids.length:Int) by omega)];rfl
theorem agq (ts:List ae) (hl:kids.length<=1048576) (hr:∀k,k<kids.length->k<ts.length->rec (kids.getD k af.zero) (ts.getD k ae.zero)=some (jC (kids.getD k af.zero) (ts.getD k ae.zero))):
 M.DT rec kids ts=some (decide (ts.length=kids.length)&&tJ kids ts):=by
 unfold M.DT
 by_cases hlen:ts.length=kids.length
 ·have e:=Ez (p:=fun k=>jC (kids.getD k af.zero) (ts.getD k ae.zero)) (F:=fun f i=>M.kF rec kids ts f i) (e:=()) (b:=false) kids.length (by omega) (fun f k hk=>by
   show M.kF rec kids ts (f+1) (k:Int)=_
   rw[M.kF];have hk2:k<ts.length:=by omega
   simp only[ae.bM,af.bM,Int.toNat_natCast,hr k hk hk2,dM,Int.ofNat_lt,hk,hk2,decide_true,cond_true,Bool.true_or,Bool.true_and,Bool.and_true,nM hk (by omega:kids.length<2^62),Option.getD_some,Option.isSome_some]
   cases jC (kids.getD k af.zero) (ts.getD k ae.zero)<;>rfl) (fun f=>by
   show M.kF rec kids ts (f+1) _=_
   rw[M.kF];simp)
  have e':M.kF rec kids ts aP 0=_:=e;have hne:((kids.length:Int) !=(ts.length:Int))=false:=by rw[mP,hlen];simp
  rw[hne,e',decide_eq_true hlen,FN _ _ hlen]
  cases (List.range kids.length).all fun k=>jC (kids.getD k af.zero) (ts.getD k ae.zero)<;>rfl
 ·have hne:((kids.length:Int) !=(ts.length:Int))=true:=by rw[mP,kb (show (kids.length:Int)≠(ts.length:Int) by omega)];rfl
  rw[hne,decide_eq_false hlen];rfl
theorem ad2 (t:ae) (hl:kids.length<=1048576) (hr:∀x∈kids,rec x t=some (jC x t)):
 M.xm rec kids t=some (decide ((Oc t).length=kids.length)&&tJ kids (Oc t)):=by
 unfold M.xm Oc sF
 cases hu:(t.Kind==1)
 ·simp only[cond_false,Bool.false_eq_true,if_false,ae.bM,af.bM,Int.toNat_zero]
  match kids,hr with
  | [],_=>
    have h1:((([]:List af).length:Int)==1)=false:=rfl;rw[h1];simp[tJ]
  | [x],hr=>
    have:=hr x (List.mem_singleton.2 rfl);simp only[List.getD_cons_zero,this];simp[inB,tJ]
  |x::y::r,_=>
   have h1:(((x::y::r).length:Int)==1)=false:=kb (by simp only[List.length_cons];omega)
   have h2:decide ([t].length=(x::y::r).length)=false:=decide_eq_false (by simp)
   rw[h1,h2];simp
 ·simp only[cond_true,if_true]
  match kids with
  | []=>rfl
  |x::r=>
   have h1:(((x::r).length:Int)==0)=false:=kb (by simp only[List.length_cons];omega)
   have h2:decide (([]:List ae).length=(x::r).length)=false:=decide_eq_false (by simp)
   rw[h1,h2];rfl
end
theorem len0 (l:List af):((l.length:Int)==0)=decide (([]:List ae).length=l.length):=by
 cases l with
 |nil=>rfl
 |cons a r=>rw[kb (by simp only[List.length_cons];omega),decide_eq_false (by simp)]
theorem agr (l:List af):(decide (([]:List ae).length=l.length)&&tJ l [])=decide (([]:List ae).length=l.length):=by
 cases l with
 |nil=>rfl
 |cons a r=>rw[decide_eq_false (by simp)];rfl
theorem aht (n:Nat) (h:n<=1048576):Go.IntKind.wrap .u64 (n:Int)=(n:Int):=Go.IntWalk.u64_in _ (by omega)
theorem TE (l:List af):(decide (([]:List ae).length=l.length)&&tJ l [])=((l.length:Int)==0):=by rw[agr,len0]
theorem ags (n:Int):(decide ((0:Int)<=n)&&decide (n<=(0:Int)))=(n==0):=by
 by_cases h:n=0
 ·rw[h];rfl
 ·rw[kb h,Bool.and_eq_false_iff]
  by_cases h0:(0:Int)<=n
  ·right;exact decide_eq_false (by omega)
  ·left;exact decide_eq_false h0
section
variable {rec :af->ae->Option Bool}
theorem agt (v:af) (t:ae) (hv:v.sz<=1048576) (ht:t.sz<=1048576) (hs:jg t=true)
 (hrec:∀x∈v.Kids,∀y∈t.Kids,rec x y=some (jC x y)) (hk:v.Kind=t.Kind) (htx:t.Kind≠11) (hte:v.Text=[]):
 M.mJ rec v t=some (EC v.Num t&&(match kT v.Num v.Kids.length t with
 |some ts=>decide (ts.length=v.Kids.length)&&tJ v.Kids ts
 |none=>false)):=by
 have hl:=af.jP hv;have hl2:=ae.jP ht;have hlab:=ae.TS ht;obtain ⟨s12,s13,s14,s17⟩:=FO hs;have ab5:∀k,k<t.Kids.length->∀x∈v.Kids,rec x (t.Kids.getD k ae.zero)=some (jC x (t.Kids.getD k ae.zero)):=fun k hk x hx=>by
  rw[getD_lt hk];exact hrec x hx _ (List.getElem_mem hk)
 unfold M.mJ;simp only[ae.bM,af.bM,mP,kt hk,hte,beq_self_eq_true,Bool.not_true,Bool.and_false,Bool.or_self,cond_false]
 by_cases h2:t.Kind=2
 ·unfold EC kT
  simp only[h2,Int.reduceBEq,Int.reduceEq,cond_true,cond_false,Bool.or_self,or_self,true_or,or_true,or_false,false_or,if_true,if_false,TE]
  cases (decide ((0:Int)<=v.Num)&&decide (v.Num<=(1:Int)))<;>rfl
 by_cases Y2:t.Kind=14
 ·unfold EC kT
  simp only[Y2,Int.reduceBEq,Int.reduceEq,cond_true,cond_false,Bool.or_self,Bool.or_false,Bool.or_true,Bool.true_or,or_self,true_or,or_true,or_false,false_or,if_true,if_false]
  by_cases hn:(decide ((0:Int)<=v.Num)&&decide (v.Num<=(1:Int)))=true
  ·rw[hn]
   simp only[Bool.and_eq_true,decide_eq_true_eq] at hn;have hk2:=s14 Y2;have hin:inB v.Num t.Kids.length=true:=by unfold inB;rw[decide_eq_true hn.1,decide_eq_true (by omega)];rfl
   rw[ad2 (t.Kids.getD v.Num.toNat ae.zero) hl (ab5 _ (by omega)),hin,if_pos (show 0<=v.Num /\ v.Num<(t.Kids.length:Int) by omega)]
   simp
  ·simp only[Bool.not_eq_true] at hn
   rw[hn];rfl
 by_cases h13:t.Kind=13
 ·unfold EC kT
  simp only[h13,Int.reduceBEq,Int.reduceEq,cond_true,cond_false,Bool.or_self,Bool.or_false,Bool.or_true,Bool.true_or,or_self,true_or,or_true,or_false,false_or,if_true,if_false];obtain ⟨k1,k2⟩:=s13 h13;have hin:inB (0:Int) t.Kids.length=true:=by rw[k1];rfl
  have ho:Oc (t.Kids.getD 0 ae.zero)=[t.Kids.getD 0 ae.zero]:=by unfold Oc;rw[k2];rfl
  rw[Int.toNat_zero,ab4 1 (t.Kids.getD 0 ae.zero) hl (ab5 0 (by omega)),hin,ho]
  simp only[Option.isSome_some,Bool.true_or,Bool.and_self,cond_true,Option.getD_some]
  congr 1
  match hkk:v.Kids with
  | []=>
    by_cases hn:v.Num=0
    ·rw[hn];rfl
    ·rw[kb (show v.Num≠((([]:List af).length:Nat):Int) by simpa using hn)]
     rw[if_neg hn]
     by_cases h1:v.Num=1
     ·rw[if_pos h1];simp
     ·rw[if_neg h1];simp
  | [x]=>
    by_cases hn:v.Num=1
    ·rw[hn];simp[tJ]
    ·rw[kb (show v.Num≠((([x]:List af).length:Nat):Int) by simpa using hn)]
     by_cases h1:v.Num=0
     ·rw[if_pos h1];simp
     ·rw[if_neg h1,if_neg hn];simp
  |x::y::r=>
   have e1:decide ((((x::y::r).length:Nat):Int)<=1)=false:=decide_eq_false (by simp only[List.length_cons];omega)
   rw[e1]
   by_cases h0:v.Num=0
   ·rw[if_pos h0];simp
   ·rw[if_neg h0]
    by_cases h1:v.Num=1
    ·rw[if_pos h1];simp
    ·rw[if_neg h1];simp
 by_cases h10:t.Kind=10
 ·unfold EC kT
  have hc:M.jR v.Num=some (afX v.Num):=rfl;simp only[h10,hc,Int.reduceBEq,Int.reduceEq,Int.reduceLE,cond_true,cond_false,Bool.or_self,or_self,true_or,or_true,or_false,false_or,and_false,and_true,if_true,if_false,TE,Option.getD_some]
 by_cases h12:t.Kind=12
 ·unfold EC kT UX
  simp only[h12,Int.reduceBEq,Int.reduceEq,Int.reduceLE,cond_true,cond_false,Bool.or_self,Bool.or_false,Bool.or_true,Bool.true_or,or_self,true_or,or_true,or_false,false_or,and_false,and_true,if_true,if_false,ags];have k1:=s12 h12;have hin:inB (0:Int) t.Kids.length=true:=by rw[k1];rfl
  rw[Int.toNat_zero,ab4 8 (t.Kids.getD 0 ae.zero) hl (ab5 0 (by omega)),hin]
  simp only[Option.isSome_some,Bool.true_or,Bool.and_self,cond_true,Option.getD_some,List.length_replicate]
  by_cases h8:v.Kids.length<=8
  ·rw[decide_eq_true (show (v.Kids.length:Int)<=8 by omega),decide_eq_true (show min v.Kids.length 8=v.Kids.length by omega),QW _ _ _ (show min v.Kids.length 8=v.Kids.length by omega)]
  ·rw[decide_eq_false (show ¬(v.Kids.length:Int)<=8 by omega),decide_eq_false (show ¬min v.Kids.length 8=v.Kids.length by omega)];rfl
 by_cases h15:t.Kind=15 \/ t.Kind=16
 ·have e:=agq (rec:=rec) (kids:=v.Kids) t.Kids hl (fun k h1 h2=>by rw[getD_lt h1,getD_lt h2];exact hrec _ (List.getElem_mem h1) _ (List.getElem_mem h2))
  unfold EC kT UX
  rcases h15 with h |h
  all_goals
   simp only[h,e,Int.reduceBEq,Int.reduceEq,Int.reduceLE,cond_true,cond_false,Bool.or_self,Bool.or_false,Bool.or_true,Bool.true_or,or_self,true_or,or_true,or_false,false_or,and_false,and_true,if_true,if_false,ags,Option.isSome_some,Bool.and_self,Option.getD_some]
 by_cases h17:t.Kind=17
 ·unfold EC kT UX
  obtain ⟨b,er⟩:=UZ t.Kind;simp only[h17] at er;simp only[h17,er,Int.reduceBEq,Int.reduceEq,Int.reduceLE,cond_true,cond_false,Bool.or_self,Bool.or_false,Bool.or_true,Bool.true_or,or_self,true_or,or_true,or_false,false_or,and_false,and_true,if_true,if_false,Option.isSome_some];have k1:=s17 h17;have hw:Go.IntKind.wrap .i64 ((t.aQ.length:Int)-1)=(t.aQ.length:Int)-1:=wrap_i64 (by omega) (by omega)
  rw[hw]
  by_cases hn:0<=v.Num /\ v.Num<(t.Kids.length:Int)
  ·have hin:inB v.Num t.Kids.length=true:=by unfold inB;rw[decide_eq_true hn.1,decide_eq_true hn.2];rfl
   rw[if_pos hn,decide_eq_true hn.1,decide_eq_true (show v.Num<=(t.aQ.length:Int)-1 by omega),ad2 (t.Kids.getD v.Num.toNat ae.zero) hl (ab5 _ (by omega)),hin]
   simp
  ·have:(decide ((0:Int)<=v.Num)&&decide (v.Num<=(t.aQ.length:Int)-1))=false:=by
    rw[Bool.and_eq_false_iff]
    by_cases h0:0<=v.Num
    ·right;exact decide_eq_false (by omega)
    ·left;exact decide_eq_false h0
   rw[if_neg hn,this];rfl
 simp only[not_or] at h15;have hkT:kT v.Num v.Kids.length t=some []:=by
  unfold kT;rw[if_neg h12,if_neg (by omega),if_neg h13,if_neg (by omega)]
 rw[hkT];simp only[TE,kb h2,kb Y2,kb h13,kb h10,kb htx,kb h12,kb h15.1,kb h15.2,kb h17,cond_false,Bool.or_self];obtain ⟨b,er⟩:=UZ t.Kind;rw[er];simp only[Option.getD_some,Option.isSome_some,Bool.true_and,Bool.true_or,Bool.and_true,cond_true];rw[aht _ hlab];unfold EC;rw[if_neg (by omega),if_neg h10]
 unfold UX Yq
 by_cases h18:t.Kind=18
 ·simp only[h18,Int.reduceBEq,Int.reduceEq,Int.reduceLE,cond_true,cond_false,or_self,true_or,or_true,or_false,false_or,and_false,and_true,if_true,if_false]
  cases (decide ((0:Int)<=v.Num)&&decide (v.Num<=Go.IntKind.wrap .i64 ((t.aQ.length:Int)-1)))<;>rfl
 by_cases h19:t.Kind=19
 ·simp only[h19,Int.reduceBEq,Int.reduceEq,Int.reduceLE,cond_true,cond_false,or_self,true_or,or_true,or_false,false_or,and_false,and_true,if_true,if_false]
  cases (decide ((0:Int)<=v.Num)&&decide (v.Num<=Go.IntKind.wrap .i64 (Go.V.Yl .i64 (1:Int) (t.aQ.length:Int)-1)))<;>rfl
 by_cases h20:t.Kind=20 \/ t.Kind=21 \/ t.Kind=22 \/ t.Kind=23
 ·rcases h20 with h |h |h |h
  all_goals
   simp only[h,Int.reduceBEq,Int.reduceEq,Int.reduceLE,cond_true,cond_false,or_self,true_or,or_true,or_false,false_or,and_false,and_true,if_true,if_false]
   cases (decide ((0:Int)<=v.Num)&&decide (v.Num<=(2147483647:Int)))<;>rfl
 simp only[not_or] at h20;simp only[kb h18,kb h19,kb h20.1,kb h20.2.1,kb h20.2.2.1,kb h20.2.2.2,cond_false]
 by_cases h39:3<=t.Kind /\ t.Kind<=9
 ·rw[if_pos h39]
  cases (decide ((UW t.Kind).1<=v.Num)&&decide (v.Num<=(UW t.Kind).2))<;>rfl
 ·rw[if_neg h39,adX h39,if_neg (by omega),if_neg h19,if_neg (by omega)]
  cases (decide ((0:Int)<=v.Num)&&decide (v.Num<=(0:Int)))<;>rfl
end
theorem ad3 : ∀(m:Nat) (v:af) (t:ae),v.sz<m->v.sz<=1048576->t.sz<=1048576->jg t=true->M.qA m v t=some (jC v t)
 |0,v,t,h,_,_,_=>absurd h (Nat.not_lt_zero _)
 |m+1,v,t,h,hv,ht,hs=>by
  have agu:∀x∈t.Kids,jg x=true:=by
   rw[zT,Bool.and_eq_true,A8,List.all_eq_true] at hs;exact hs.2
  have hrec:∀x∈v.Kids,∀y∈t.Kids,M.qA m x y=some (jC x y):=fun x hx y hy=>by
   have h1:=af.rD hx;have h2:=ae.rD hy;exact ad3 m x y (by omega) (by omega) (by omega) (agu y hy)
  show M.mJ (M.qA m) v t=_
  rw[TU]
  by_cases hk:v.Kind=t.Kind
  ·by_cases h11:t.Kind=11
   ·have hh:headB v.Kind v.Num v.Text t=(KA v.Text&&(v.Num==0)):=by
     unfold headB EC UX;simp only[kt hk,h11,kt (hk.trans h11),Int.reduceBEq,Int.reduceEq,Int.reduceLE,or_self,or_false,false_or,and_false,and_true,if_true,if_false,ags,Bool.or_true,Bool.and_true,Bool.true_and];rw[Bool.and_comm]
    have hkT:kT v.Num v.Kids.length t=some []:=by
     unfold kT;rw[if_neg (by omega),if_neg (by omega),if_neg (by omega),if_neg (by omega)]
    rw[hh,hkT];unfold M.mJ;simp only[ae.bM,af.bM,mP,kt hk,h11,kt (hk.trans h11),TE,agm _ (af.ab3 hv),Int.reduceBEq,Bool.not_true,Bool.false_and,Bool.or_self,cond_true,cond_false,Option.isSome_some,Option.getD_some,Bool.and_self]
   ·by_cases hte:v.Text=[]
    ·rw[agt v t hv ht hs hrec hk h11 hte]
     have:headB v.Kind v.Num v.Text t=EC v.Num t:=by unfold headB;rw[kt hk,hte,aa0];simp
     rw[this];try rfl
    ·have e:(v.Text==[])=false:=by
      cases h:v.Text with
      |nil=>exact absurd h hte
      |cons a r=>rfl
     have:headB v.Kind v.Num v.Text t=false:=by unfold headB;rw[e,kb h11];simp
     rw[this];unfold M.mJ;rw[mP,mP,kt hk,kb h11,e];rfl
  ·have:headB v.Kind v.Num v.Text t=false:=by unfold headB;rw[kb hk];rfl
   rw[this];unfold M.mJ;rw[mP,kb hk];rfl
end M
namespace M
open Go.V (inB qg aP bG)
def ad4 (k:Int):Bool:=decide ((20:Int)<=k)&&decide (k<=23)
def MM (t:ae):Bool:=(tOk t&& !sF t)&& !FI ad4 t
theorem ad5 (k:Int):([(20:Int),21,22,23].any fun x=>k==x)=ad4 k:=by
 unfold ad4
 by_cases h:20<=k /\ k<=23
 ·have:k=20 \/ k=21 \/ k=22 \/ k=23:=by omega
  rcases this with rfl |rfl |rfl |rfl<;>rfl
 ·simp only[List.any_cons,List.any_nil,kb (show k≠20 by omega),kb (show k≠21 by omega),kb (show k≠22 by omega),kb (show k≠23 by omega),Bool.or_self]
  symm;rw[Bool.and_eq_false_iff]
  by_cases h0:(20:Int)<=k
  ·right;exact decide_eq_false (by omega)
  ·left;exact decide_eq_false h0
theorem aa1 (t:ae) (h:t.sz<=1048576):M.jE t=some (MM t):=by
 unfold M.jE MM;have e:M.rU t 20 23=some (FI ad4 t):=adN 20 23 aP t (vZ h) h;simp only[ae.bM,ahi t h,e,Option.getD_some,Option.isSome_some,Bool.true_or,Bool.and_true,cond_true,mP,sF]
theorem agv (t:ae) (h:t.sz<=1048576):M.qX t=some (MM t):=by
 unfold M.qX MM;have e:M.pU t [20,21,22,23]=some (FI ad4 t):=by
  have:=adO [20,21,22,23] (by simp) aP t (vZ h) h
  rw[PT ad5] at this;exact this
 simp only[ae.bM,adT t h,e,Option.getD_some,Option.isSome_some,Bool.true_or,Bool.and_true,cond_true,sF]
def V8 (s:ah):Bool:=s.Buffer.all fun v=>jC v s.aO
def stB (s:ah):Bool:=
 (((MM s.aO&&((decide ((1:Int)<=s.Room)&&decide (s.Room<=(6:Int)))&& !(s.bu&& !(s.Room==1))))&&(decide ((s.Buffer.length:Int)<=s.Room)&&V8 s))&&
   ((!(decide (s.qM<(0:Int)))&&(decide (s.qM<=s.Put)&&decide (s.Put<=(if s.bu then 1 else 1000000:Int))))&&
     !((s.Gone&&decide ((0:Int)<(s.Buffer.length:Int)))||(!s.Gone&& !(Go.IntKind.wrap .i64 (s.Put-s.qM)==(s.Buffer.length:Int))))))&&
 (((!s.bu|| !s.Shut)||(s.Put==1))||s.Gone)
theorem ah.EU {s:ah} {N:Nat} (h:s.sz<=N):s.aO.sz<=N:=by rw[ah.jO] at h;omega
theorem ah.EW {s:ah} {N:Nat} (h:s.sz<=N):lI af.sz s.Buffer<=N:=by rw[ah.jO] at h;omega
theorem ah.Yr {s:ah} {N:Nat} (h:s.sz<=N):s.Buffer.length<=N:=Nat.le_trans (lC _ _) (ah.EW h)
theorem U0 {t:ae} (h:tOk t=true):jg t=true:=by
 unfold tOk at h;rw[Bool.and_eq_true] at h;exact h.2
theorem XX {t:ae} (h:MM t=true):tOk t=true:=by
 unfold MM at h;simp only[Bool.and_eq_true] at h;exact h.1.1
theorem agw (v:af) (t:ae) (hv:v.sz<=1048576) (ht:t.sz<=1048576) (ho:tOk t=true):M.O8 v t=some (jC v t):=by
 unfold M.O8;have e:M.Jo v t=some (jC v t):=ad3 aP v t (vZ hv) hv ht (U0 ho);simp only[ae.bM,af.bM,adR t ht,ho,e,Option.getD_some,Option.isSome_some,Bool.true_or,Bool.and_self,cond_true,Bool.true_and]
theorem agx (v:af) (t:ae) (hv:v.sz<=1048576) (ht:t.sz<=1048576) (ho:tOk t=true):M.Yd v t=some (jC v t):=
 ad1 aP v t (vZ hv) hv ht (U0 ho)
theorem acT (l:List af) (t:ae) (most:Int) (hl:lI af.sz l<=1048576) (ht:t.sz<=1048576) (ho:tOk t=true):
 M.zU l t most=some (decide ((l.length:Int)<=most)&&l.all fun v=>jC v t):=by
 have hlen:l.length<=1048576:=Nat.le_trans (lC _ _) hl;have e:=UT (p:=fun v=>jC v t) (F:=fun f i=>M.jq l f i t) (e:=()) (b:=false) l (by omega) (fun f k hk=>by
  show M.jq l (f+1) (k:Int) t=_
  rw[M.jq];simp only[ae.bM,af.bM,getD_lt hk,agw l[k] t (ZA hl (List.getElem_mem hk)) ht ho,Int.toNat_natCast,dM,Int.ofNat_lt,hk,decide_true,cond_true,Bool.true_or,Bool.true_and,Bool.and_true,nM hk (by omega:l.length<2^62),Option.getD_some,Option.isSome_some]
  cases jC l[k] t<;>rfl) (fun f=>by
  show M.jq l (f+1) _ t=_
  rw[M.jq];simp)
 have e':M.jq l aP 0 t=_:=e;unfold M.zU;rw[ae.bM,e']
 by_cases h:(l.length:Int)<=most
 ·rw[decide_eq_true h,decide_eq_false (show ¬most<(l.length:Int) by omega)]
  cases l.all fun v=>jC v t<;>rfl
 ·rw[decide_eq_false h,decide_eq_true (show most<(l.length:Int) by omega)];rfl
theorem Yt (s:ah) (h:s.sz<=1048576) (ho:tOk s.aO=true):M.dH s.Buffer s=some (!V8 s):=by
 have hlen:=ah.Yr h;have c:∀v∈s.Buffer,M.pX v s=some (!jC v s.aO):=fun v hv=>by
  unfold M.pX;rw[af.bM,ae.bM,agx v s.aO (ZA (ah.EW h) hv) (ah.EU h) ho];rfl
 have e:=contains_of (p:=fun v=> !jC v s.aO) (F:=M.cO s.Buffer s (s.Buffer.length:Int)) s.Buffer (by omega) (fun f k hk=>by
  rw[M.cO];simp only[af.bM,getD_lt hk,c _ (List.getElem_mem hk),Int.toNat_natCast,dM,Int.ofNat_lt,hk,decide_true,cond_true,Bool.true_or,Bool.true_and,Bool.and_true,nM hk (by omega:s.Buffer.length<2^62),Option.getD_some,Option.isSome_some]) (fun f=>by
  rw[M.cO];simp)
 have e2:M.eY s.Buffer s=_:=e;unfold M.dH;rw[e2];simp only[Option.getD_some,Option.isSome_some,Bool.and_true,cond_true];rw[index_ge,V8,List.not_all_eq_any_not]
theorem MK (s:ah) (h:s.sz<=1048576):M.je s=some (stB s):=by
 unfold M.je stB;have ht:=aa1 s.aO (ah.EU h);simp only[ae.bM,ht,Option.getD_some,Option.isSome_some,Bool.and_true,mP]
 cases hT:MM s.aO
 ·simp
 ·rw[acT s.Buffer s.aO s.Room (ah.EW h) (ah.EU h) (XX hT)]
  simp only[Option.getD_some,Option.isSome_some,Bool.true_or,Bool.and_self,cond_true,Bool.not_true,Bool.false_or,Bool.true_and];have em:(decide (s.Put<=(if s.bu then 1 else 1000000:Int)))=(decide (s.Put<=(1000000:Int))&& !(s.bu&&decide ((1:Int)<s.Put))):=by
   cases s.bu
   ·simp
   ·simp only[if_true,Bool.true_and]
    by_cases h1:s.Put<=1
    ·rw[decide_eq_true h1,decide_eq_true (show s.Put<=1000000 by omega),decide_eq_false (show ¬(1:Int)<s.Put by omega)];rfl
    ·rw[decide_eq_false h1,decide_eq_true (show (1:Int)<s.Put by omega)];simp
  rw[em]
  generalize (decide ((1:Int)<=s.Room)&&decide (s.Room<=(6:Int)))=b1
  generalize (s.Room==1)=b2
  generalize decide ((s.Buffer.length:Int)<=s.Room)=b3
  have:(s.Buffer.all fun v=>jC v s.aO)=V8 s:=rfl
  rw[this]
  generalize V8 s=b4
  generalize decide (s.qM<(0:Int))=b5
  generalize decide (s.qM<=s.Put)=b6
  generalize decide (s.Put<=(1000000:Int))=b7
  generalize decide ((1:Int)<s.Put)=b8
  generalize decide ((0:Int)<(s.Buffer.length:Int))=b9
  generalize (Go.IntKind.wrap .i64 (s.Put-s.qM)==(s.Buffer.length:Int))=b10
  generalize (s.Put==1)=b11
  cases s.bu<;>cases s.Gone<;>cases s.Shut<;>cases b1<;>cases b2<;>cases b3<;>cases b4<;>cases b5<;>cases b6<;>cases b7<;>cases b8<;>cases b9<;>cases b10<;>rfl
theorem ML (s:ah) (h:s.sz<=1048576):M.jM s=some (stB s):=by
 unfold M.jM stB;have ht:=agv s.aO (ah.EU h);simp only[ae.bM,ah.bM,ht,Option.getD_some,Option.isSome_some,Bool.and_true,mP]
 cases hT:MM s.aO
 ·simp
 ·have em:M.vI s=some (if s.bu then 1 else 1000000:Int):=by unfold M.vI;cases s.bu<;>rfl
  have e3:decide (s.Room<(s.Buffer.length:Int))= !decide ((s.Buffer.length:Int)<=s.Room):=by
   by_cases h1:(s.Buffer.length:Int)<=s.Room
   ·rw[decide_eq_true h1,decide_eq_false (show ¬s.Room<(s.Buffer.length:Int) by omega)];rfl
   ·rw[decide_eq_false h1,decide_eq_true (show s.Room<(s.Buffer.length:Int) by omega)];rfl
  rw[Yt s h (XX hT),em,e3];simp only[Option.getD_some,Option.isSome_some,Bool.true_or,Bool.and_self,cond_true,Bool.not_true,Bool.false_or,Bool.true_and]
  generalize (decide ((1:Int)<=s.Room)&&decide (s.Room<=(6:Int)))=b1
  generalize (s.Room==1)=b2
  generalize decide ((s.Buffer.length:Int)<=s.Room)=b3
  generalize V8 s=b4
  generalize decide (s.qM<(0:Int))=b5
  generalize (decide (s.qM<=s.Put)&&decide (s.Put<=(if s.bu then 1 else 1000000:Int)))=b6
  generalize decide ((0:Int)<(s.Buffer.length:Int))=b9
  generalize (Go.IntKind.wrap .i64 (s.Put-s.qM)==(s.Buffer.length:Int))=b10
  generalize (s.Put==1)=b11
  cases s.bu<;>cases s.Gone<;>cases s.Shut<;>cases b1<;>cases b2<;>cases b3<;>cases b4<;>cases b5<;>cases b6<;>cases b9<;>cases b10<;>rfl
end M
