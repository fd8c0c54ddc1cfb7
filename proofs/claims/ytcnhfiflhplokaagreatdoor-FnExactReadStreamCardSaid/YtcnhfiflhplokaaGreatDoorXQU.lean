/-
  A TEXT'S FIRST CODE POINT, as the reference reckons it, beside the decoder of the language: in plain words.
-/
import Derived.Test.YtcnhfiflhplokaaGreatDoorXQTP
import Derived.Lib.MapLaws
set_option linter.unusedVariables false
set_option linter.unusedSimpArgs false
namespace M
open Go Go.V Go.Lib
theorem u8w (n:Nat) (h:n<256):IntKind.wrap .u8 (n:Int)=(n:Int):=by
 have:∀m:Fin 256,IntKind.wrap .u8 ((m.val:Nat):Int)=((m.val:Nat):Int):=by decide+kernel
 exact this ⟨n,h⟩
theorem Zr (n:Nat) (h:n<2^62):IntKind.wrap .i64 (n:Int)=(n:Int):=wrap_i64 (by omega) (by omega)
theorem afm (n:Nat) (h:n<2^62):wP .and .i64 (n:Int) 63=((n%64:Nat):Int):=by
 have e:(BitVec.ofInt 64 (n:Int)&&& BitVec.ofInt 64 (63:Int)).toNat=n%64:=by
  rw[BitVec.toNat_and];have h1:(BitVec.ofInt 64 (n:Int)).toNat=n:=by rw[BitVec.toNat_ofInt];omega
  have h2:(BitVec.ofInt 64 (63:Int)).toNat=63:=by decide
  rw[h1,h2];exact Nat.and_two_pow_sub_one_eq_mod n 6
 show IntKind.wrap .i64 (((BitVec.ofInt 64 (n:Int)&&& BitVec.ofInt 64 (63:Int)).toNat:Nat):Int)=_
 rw[e,Zr _ (by omega)]
theorem ahC (x:UInt8):wP .and .u8 ((x.toNat:Nat):Int) 63=((x.toNat%64:Nat):Int):=by
 have:∀m:Fin 256,wP .and .u8 ((m.val:Nat):Int) 63=((m.val%64:Nat):Int):=by decide+kernel
 exact this ⟨x.toNat,x.toNat_lt⟩
theorem aiT (n r:Nat) (hr:r<64) (h:n<2^40):wP .or .i64 ((n*64:Nat):Int) (r:Int)=((n*64+r:Nat):Int):=by
 have e:(BitVec.ofInt 64 ((n*64:Nat):Int)|||BitVec.ofInt 64 (r:Int)).toNat=n*64+r:=by
  rw[BitVec.toNat_or];have h1:(BitVec.ofInt 64 ((n*64:Nat):Int)).toNat=n*64:=by rw[BitVec.toNat_ofInt];omega
  have h2:(BitVec.ofInt 64 (r:Int)).toNat=r:=by rw[BitVec.toNat_ofInt];omega
  rw[h1,h2];have:=Nat.two_pow_add_eq_or_of_lt (b:=r) (i:=6) (by simpa using hr) n
  rw[show (2:Nat)^6=64 by rfl] at this
  rw[Nat.mul_comm n 64,<-this]
 show IntKind.wrap .i64 (((BitVec.ofInt 64 ((n*64:Nat):Int)|||BitVec.ofInt 64 (r:Int)).toNat:Nat):Int)=_
 rw[e,Zr _ (by omega)]
theorem ajC (n:Nat) (h:n<2^40):Za .i64 (n:Int) 6=((n*64:Nat):Int):=by
 have:Za .i64 (n:Int) 6=IntKind.wrap .i64 ((n:Int)*64):=rfl;rw[this,show (n:Int)*64=((n*64:Nat):Int) by omega,Zr _ (by omega)]
theorem ajD (n:Nat):OZ .i64 (n:Int) 6=((n/64:Nat):Int):=by
 have:OZ .i64 (n:Int) 6=(n:Int).fdiv 64:=rfl;rw[this,Int.fdiv_eq_ediv_of_nonneg _ (by omega)];omega
theorem aiU (n:Nat):OZ .i64 (n:Int) 12=((n/4096:Nat):Int):=by
 have:OZ .i64 (n:Int) 12=(n:Int).fdiv 4096:=rfl;rw[this,Int.fdiv_eq_ediv_of_nonneg _ (by omega)];omega
theorem aiV (n:Nat):OZ .i64 (n:Int) 18=((n/262144:Nat):Int):=by
 have:OZ .i64 (n:Int) 18=(n:Int).fdiv 262144:=rfl;rw[this,Int.fdiv_eq_ediv_of_nonneg _ (by omega)];omega
theorem byt (k:Int) (m:Nat) (h:k=(m:Int)) (hm:m<256):IntKind.wrap .u8 (IntKind.wrap .i64 k)=(m:Int):=by
 subst h;rw[Zr m (by omega),u8w m hm]
theorem Me (m:Nat) (h:m<256):Gh (m:Int)=true:=by unfold Gh;simp;omega
theorem adh (m:Nat):Ae (m:Int)=UInt8.ofNat m:=rfl
def chB (n:Nat):List UInt8:=
 if n<128 then [UInt8.ofNat n]
 else if n<2048 then [UInt8.ofNat (192+n/64),UInt8.ofNat (128+n%64)]
 else if n<65536 then [UInt8.ofNat (224+n/4096),UInt8.ofNat (128+n/64%64),UInt8.ofNat (128+n%64)]
 else [UInt8.ofNat (240+n/262144),UInt8.ofNat (128+n/4096%64),UInt8.ofNat (128+n/64%64),UInt8.ofNat (128+n%64)]
theorem ahD (n:Nat) (h:n<=1114111):M.rX (n:Int)=some (chB n):=by
 have ha:=afm n (by omega)
 have hb:=afm (n/64) (by omega)
 have hc:=afm (n/4096) (by omega)
 unfold M.rX chB;rw[ajD,aiU,aiV,hb,hc,ha]
 by_cases h1:n<128
 ·rw[if_pos h1,u8w n (by omega),Me n (by omega),adh]
  have:decide ((n:Int)<128)=true:=by simp;omega
  rw[this];rfl
 ·rw[if_neg h1]
  have d1:decide ((n:Int)<128)=false:=by simp;omega
  rw[d1];have b0:=byt (128+((n%64:Nat):Int)) (128+n%64) (by omega) (by omega)
  rw[b0]
  by_cases h2:n<2048
  ·have d2:decide ((n:Int)<2048)=true:=by simp;omega
   have b1:=byt (192+((n/64:Nat):Int)) (192+n/64) (by omega) (by omega)
   rw[if_pos h2,d2,b1];simp only[cond_false,cond_true,Me _ (show 192+n/64<256 by omega),Me _ (show 128+n%64<256 by omega),adh,Bool.and_self,List.map_id']
  ·rw[if_neg h2]
   have d2:decide ((n:Int)<2048)=false:=by simp;omega
   have b2:=byt (128+((n/64%64:Nat):Int)) (128+n/64%64) (by omega) (by omega)
   rw[d2,b2]
   by_cases h3:n<65536
   ·have d3:decide ((n:Int)<65536)=true:=by simp;omega
    have b1:=byt (224+((n/4096:Nat):Int)) (224+n/4096) (by omega) (by omega)
    rw[if_pos h3,d3,b1];simp only[cond_false,cond_true,Me _ (show 224+n/4096<256 by omega),Me _ (show 128+n/64%64<256 by omega),Me _ (show 128+n%64<256 by omega),adh,Bool.and_self,List.map_id']
   ·have d3:decide ((n:Int)<65536)=false:=by simp;omega
    have b1:=byt (240+((n/262144:Nat):Int)) (240+n/262144) (by omega) (by omega)
    have b3:=byt (128+((n/4096%64:Nat):Int)) (128+n/4096%64) (by omega) (by omega)
    rw[if_neg h3,d3,b1,b3];simp only[cond_false,cond_true,Me _ (show 240+n/262144<256 by omega),Me _ (show 128+n/4096%64<256 by omega),Me _ (show 128+n/64%64<256 by omega),Me _ (show 128+n%64<256 by omega),adh,Bool.and_self,List.map_id']
def Uc (n:Nat):List UInt8->Nat
 | []=>n
 |x::r=>Uc (n*64+x.toNat%64) r
theorem VC (s:List UInt8) (many:Nat) (hm:many<=s.length) (hs:s.length<=1048576):∀(d f n i:Nat),i+d=many->d<=3->(n+1)*64^d<=2^24->
 M.lg s (many:Int) (f+d+1) (n:Int) (i:Int)=some (s,(many:Int),((Uc n ((s.take many).drop i):Nat):Int))
 |0,f,n,i,hi,_,hn=>by
  have d:decide ((i:Int)<(many:Int))=false:=by simp;omega
  have e:(s.take many).drop i=[]:=List.drop_eq_nil_of_le (by rw[List.length_take];omega)
  rw[e];simp only[M.lg,d,cond_false,Uc]
 |d+1,f,n,i,hi,hd,hn=>by
  have d1:decide ((i:Int)<(many:Int))=true:=by simp;omega
  have hin:inB (i:Int) s.length=true:=by rw[dS];simp;omega
  have hil:i<(s.take many).length:=by rw[List.length_take];omega
  have hg:s.getD i 0=(s.take many)[i]:=by rw[getD_lt (by omega),List.getElem_take]
  have hp:64^(d+1)=64*64^d:=by rw[Nat.pow_succ,Nat.mul_comm]
  have hn2:n<2^24:=by
   have:(n+1)*1<=(n+1)*64^(d+1):=Nat.mul_le_mul_left _ (Nat.pos_of_ne_zero (by simp))
   omega
  have hb:((s.getD i 0).toNat%64)<64:=Nat.mod_lt _ (by omega)
  have hstep:(n*64+(s.getD i 0).toNat%64+1)*64^d<=2^24:=by
   have:(n*64+(s.getD i 0).toNat%64+1)*64^d<=((n+1)*64)*64^d:=Nat.mul_le_mul_right _ (by omega)
   rw[hp,<-Nat.mul_assoc] at hn;omega
  have ih:=VC s many hm hs d f (n*64+(s.getD i 0).toNat%64) (i+1) (by omega) (by omega) hstep
  rw[iy hil,Uc];rw[show f+(d+1)+1=(f+d+1)+1 by omega,M.lg]
  rw[d1,Int.toNat_natCast,hin];simp only[cond_true,Bool.and_true];rw[ajC n (by omega),ahC,Zr ((s.getD i 0).toNat%64) (by omega),aiT n _ hb (by omega),gW (show i<many by omega) (by omega)]
  rw[ih,hg]
end M
namespace M
open Go Go.V Go.Lib
def rC (b:Nat):Nat:=if 240<=b then 4 else if 224<=b then 3 else if 192<=b then 2 else 1
def Yo (b:Nat):Nat:=if 240<=b then b-240 else if 224<=b then b-224 else if 192<=b then b-192 else b
def O7 (n:Nat):Bool:=decide (n<=55295)||(decide (57344<=n)&&decide (n<=1114111))
def ptB (s:List UInt8):Nat×Nat:=
 if s.length<rC (s.getD 0 0).toNat then (0,0)
 else if O7 (Uc (Yo (s.getD 0 0).toNat) ((s.take (rC (s.getD 0 0).toNat)).drop 1))&&(chB (Uc (Yo (s.getD 0 0).toNat) ((s.take (rC (s.getD 0 0).toNat)).drop 1))==s.take (rC (s.getD 0 0).toNat)) then
  (Uc (Yo (s.getD 0 0).toNat) ((s.take (rC (s.getD 0 0).toNat)).drop 1),rC (s.getD 0 0).toNat)
 else (0,0)
theorem ahE (n:Nat):M.kH (n:Int)=some (O7 n):=by
 unfold M.kH O7;have h1:decide ((0:Int)<=(n:Int))=true:=by simp
 have h2:decide ((n:Int)<=55295)=decide (n<=55295):=by congr 1;exact propext ⟨fun h=>by omega,fun h=>by omega⟩
 have h3:decide ((57344:Int)<=(n:Int))=decide (57344<=n):=by congr 1;exact propext ⟨fun h=>by omega,fun h=>by omega⟩
 have h4:decide ((n:Int)<=1114111)=decide (n<=1114111):=by congr 1;exact propext ⟨fun h=>by omega,fun h=>by omega⟩
 rw[h1,h2,h3,h4,Bool.true_and]
theorem agJ {n:Nat} (h:O7 n=true):n<=1114111:=by
 unfold O7 at h;simp only[Bool.or_eq_true,Bool.and_eq_true,decide_eq_true_eq] at h;omega
theorem Gp (s:List UInt8) (m n:Nat) (hm:m<=s.length) (q9:Bool) (h9:q9=true):
 (bif ((!(Option.getD (M.kH (n:Int)) Inhabited.default))||(!((Option.getD (M.rX (n:Int)) Inhabited.default)==(List.drop (Int.toNat (0:Int)) (List.take (Int.toNat (m:Int)) s))))) then
   (bif (((Go.V.CO (0:Int) (m:Int) (List.length s))||(!((!(Option.getD (M.kH (n:Int)) Inhabited.default))==false)))&&(((Option.isSome (M.rX (n:Int)))||(!((!(Option.getD (M.kH (n:Int)) Inhabited.default))==false)))&&((Option.isSome (M.kH (n:Int)))&&q9))) then some ((0:Int),(0:Int)) else none)
 else
  (bif (((Go.V.CO (0:Int) (m:Int) (List.length s))||(!((!(Option.getD (M.kH (n:Int)) Inhabited.default))==false)))&&(((Option.isSome (M.rX (n:Int)))||(!((!(Option.getD (M.kH (n:Int)) Inhabited.default))==false)))&&((Option.isSome (M.kH (n:Int)))&&q9))) then some ((n:Int),(m:Int)) else none))=
 some (if O7 n&&(chB n==s.take m) then (((n:Nat):Int),((m:Nat):Int)) else (0,0)):=by
 subst h9;have hsl:CO (0:Int) (m:Int) s.length=true:=by unfold CO;simp;omega
 rw[ahE,hsl,Int.toNat_natCast];simp only[Option.getD_some,Option.isSome_some,Bool.true_or,Bool.and_true,Bool.true_and]
 cases hc:O7 n
 ·simp
 ·rw[ahD n (agJ hc)]
  simp only[Option.getD_some,Option.isSome_some,Bool.not_true,Bool.false_or,Int.toNat_zero,List.drop_zero,Bool.true_or,Bool.and_self,cond_true,Bool.true_and]
  cases hb:(chB n==s.take m)<;>simp
theorem agK (s:List UInt8) (hne:s≠[]) (hs:s.length<=1048576):M.xP s=some (((ptB s).1:Int),((ptB s).2:Int)):=by
 have hl:0<s.length:=List.length_pos_iff.2 hne;have e0:(s==[])=false:=by cases s with
  |nil=>exact absurd rfl hne
  |cons a r=>rfl
 have hin:inB (0:Int) s.length=true:=by have:=dS 0 s.length;simpa [hl] using this
 have hb:(s.getD 0 0).toNat<256:=UInt8.toNat_lt _;obtain ⟨f,hf⟩:∃f,aG=f+3+1:=⟨aG-4,by have:=wR (n:=100) (by omega);omega⟩
 have key:∀(m n0:Nat),rC (s.getD 0 0).toNat=m->Yo (s.getD 0 0).toNat=n0->1<=m->m<=4->(n0+1)*64^(m-1)<=2^24->¬s.length<m->M.lg s (m:Int) aG (n0:Int) 1=some (s,(m:Int),((Uc n0 ((s.take m).drop 1):Nat):Int)):=fun m n0 h1 h2 h3 h4 h5 h6=>by
  have:=VC s m (by omega) hs (m-1) (f+4-m) n0 1 (by omega) (by omega) h5
  rw[hf,show f+3+1=(f+4-m)+(m-1)+1 by omega]
  exact this
 unfold M.xP;rw[e0,Int.toNat_zero];have hw:IntKind.wrap .i64 ((s.getD 0 0).toNat:Int)=((s.getD 0 0).toNat:Int):=Zr _ (by omega)
 unfold ptB
 by_cases Jy:240<=(s.getD 0 0).toNat
 ·have afn:decide ((240:Int)<=((s.getD 0 0).toNat:Int))=true:=decide_eq_true (by omega)
  have hm:rC (s.getD 0 0).toNat=4:=by unfold rC;rw[if_pos Jy]
  have hn:Yo (s.getD 0 0).toNat=(s.getD 0 0).toNat-240:=by unfold Yo;rw[if_pos Jy]
  have hw2:IntKind.wrap .i64 (((s.getD 0 0).toNat:Int)-240)=(((s.getD 0 0).toNat-240:Nat):Int):=by rw[show ((s.getD 0 0).toNat:Int)-240=(((s.getD 0 0).toNat-240:Nat):Int) by omega];exact Zr _ (by omega)
  rw[hm,hn];simp only[afn,cond_false,cond_true,hw,hw2,hin,Bool.true_or,Bool.and_true,Bool.or_true,Bool.true_and,Bool.not_true,Bool.or_false]
  by_cases hsl:s.length<4
  ·have d:decide ((s.length:Int)<4)=true:=by simp;omega
   rw[if_pos hsl,d];rfl
  ·have d:decide ((s.length:Int)<4)=false:=by simp;omega
   have:=key 4 _ hm hn (by omega) (by omega) (by omega) hsl
   rw[if_neg hsl,d];simp only[cond_false];rw[show (4:Int)=((4:Nat):Int) from rfl,this]
   refine (Gp s 4 _ (by omega) _ (by rfl)).trans ?_
   split<;>rfl
 ·have afn:decide ((240:Int)<=((s.getD 0 0).toNat:Int))=false:=decide_eq_false (by omega)
  by_cases Qz:224<=(s.getD 0 0).toNat
  ·have agL:decide ((224:Int)<=((s.getD 0 0).toNat:Int))=true:=decide_eq_true (by omega)
   have hm:rC (s.getD 0 0).toNat=3:=by unfold rC;rw[if_neg Jy,if_pos Qz]
   have hn:Yo (s.getD 0 0).toNat=(s.getD 0 0).toNat-224:=by unfold Yo;rw[if_neg Jy,if_pos Qz]
   have hw2:IntKind.wrap .i64 (((s.getD 0 0).toNat:Int)-224)=(((s.getD 0 0).toNat-224:Nat):Int):=by rw[show ((s.getD 0 0).toNat:Int)-224=(((s.getD 0 0).toNat-224:Nat):Int) by omega];exact Zr _ (by omega)
   rw[hm,hn];simp only[afn,agL,cond_false,cond_true,hw,hw2,hin,Bool.true_or,Bool.and_true,Bool.or_true,Bool.true_and,Bool.not_true,Bool.not_false,Bool.or_false]
   by_cases hsl:s.length<3
   ·have d:decide ((s.length:Int)<3)=true:=by simp;omega
    rw[if_pos hsl,d];rfl
   ·have d:decide ((s.length:Int)<3)=false:=by simp;omega
    have:=key 3 _ hm hn (by omega) (by omega) (by omega) hsl
    rw[if_neg hsl,d];simp only[cond_false];rw[show (3:Int)=((3:Nat):Int) from rfl,this]
    refine (Gp s 3 _ (by omega) _ (by rfl)).trans ?_
    split<;>rfl
  ·have agL:decide ((224:Int)<=((s.getD 0 0).toNat:Int))=false:=decide_eq_false (by omega)
   by_cases Zt:192<=(s.getD 0 0).toNat
   ·have ahF:decide ((192:Int)<=((s.getD 0 0).toNat:Int))=true:=decide_eq_true (by omega)
    have hm:rC (s.getD 0 0).toNat=2:=by unfold rC;rw[if_neg Jy,if_neg Qz,if_pos Zt]
    have hn:Yo (s.getD 0 0).toNat=(s.getD 0 0).toNat-192:=by unfold Yo;rw[if_neg Jy,if_neg Qz,if_pos Zt]
    have hw2:IntKind.wrap .i64 (((s.getD 0 0).toNat:Int)-192)=(((s.getD 0 0).toNat-192:Nat):Int):=by rw[show ((s.getD 0 0).toNat:Int)-192=(((s.getD 0 0).toNat-192:Nat):Int) by omega];exact Zr _ (by omega)
    rw[hm,hn];simp only[afn,agL,ahF,cond_false,cond_true,hw,hw2,hin,Bool.true_or,Bool.and_true,Bool.or_true,Bool.true_and,Bool.not_true,Bool.not_false,Bool.or_false]
    by_cases hsl:s.length<2
    ·have d:decide ((s.length:Int)<2)=true:=by simp;omega
     rw[if_pos hsl,d];rfl
    ·have d:decide ((s.length:Int)<2)=false:=by simp;omega
     have:=key 2 _ hm hn (by omega) (by omega) (by omega) hsl
     rw[if_neg hsl,d];simp only[cond_false];rw[show (2:Int)=((2:Nat):Int) from rfl,this]
     refine (Gp s 2 _ (by omega) _ (by rfl)).trans ?_
     split<;>rfl
   ·have ahF:decide ((192:Int)<=((s.getD 0 0).toNat:Int))=false:=decide_eq_false (by omega)
    have hm:rC (s.getD 0 0).toNat=1:=by unfold rC;rw[if_neg Jy,if_neg Qz,if_neg Zt]
    have hn:Yo (s.getD 0 0).toNat=(s.getD 0 0).toNat:=by unfold Yo;rw[if_neg Jy,if_neg Qz,if_neg Zt]
    rw[hm,hn];simp only[afn,agL,ahF,cond_false,cond_true,hw,hin,Bool.true_or,Bool.and_true,Bool.or_true,Bool.true_and,Bool.not_true,Bool.not_false,Bool.or_false];have hsl:¬s.length<1:=by omega
    have d:decide ((s.length:Int)<1)=false:=by simp;omega
    have:=key 1 _ hm hn (by omega) (by omega) (by omega) hsl
    rw[if_neg hsl,d];simp only[cond_false];rw[show (1:Int)=((1:Nat):Int) from rfl] at this ⊢
    rw[this];refine (Gp s 1 _ (by omega) _ (by rfl)).trans ?_
    split<;>rfl
end M
namespace M
open Go Go.V Go.Lib
def chN (n:Nat):List Nat:=
 if n<128 then [n]
 else if n<2048 then [192+n/64,128+n%64]
 else if n<65536 then [224+n/4096,128+n/64%64,128+n%64]
 else [240+n/262144,128+n/4096%64,128+n/64%64,128+n%64]
theorem agM (n:Nat):chB n=(chN n).map UInt8.ofNat:=by
 unfold chB chN
 repeat' split
 all_goals rfl
theorem ahG (n:Nat) (h:n<=1114111):∀x∈chN n,x<256:=by
 unfold chN
 repeat' split
 all_goals (intro x hx;simp only[List.mem_cons,List.not_mem_nil,or_false] at hx;omega)
theorem aaV : ∀(l:List Nat) (s:List UInt8),(∀x∈l,x<256)->(l.map UInt8.ofNat=s↔l=s.map UInt8.toNat)
 | [],[],_=>by simp
 | [],y::s,_=>by simp
 |x::l,[],_=>by simp
 |x::l,y::s,h=>by
  have ih:=aaV l s fun z hz=>h z (List.mem_cons_of_mem _ hz)
  have hx:=h x (List.mem_cons_self ..);simp only[List.map_cons,List.cons.injEq,ih];refine and_congr_left fun _=>⟨fun e=> ?_,fun e=> ?_⟩
  ·rw[<-e];simp;omega
  ·rw[e];simp
theorem adk (n:Nat) (h:n<=1114111) (s:List UInt8):(chB n==s)=true↔chN n=s.map UInt8.toNat:=by
 rw[beq_iff_eq,agM];exact aaV _ _ (ahG n h)
theorem aiW (n a:Nat):chN n=[a]↔n<128 /\ n=a:=by
 unfold chN
 repeat' split
 all_goals (simp only[List.cons.injEq,and_true,reduceCtorEq,and_false,false_iff,not_and];omega)
theorem aiX (n a b:Nat):chN n=[a,b]↔128<=n /\ n<2048 /\ 192+n/64=a /\ 128+n%64=b:=by
 unfold chN
 repeat' split
 all_goals (simp only[List.cons.injEq,and_true,reduceCtorEq,and_false,false_iff,not_and];omega)
theorem aiY (n a b c:Nat):chN n=[a,b,c]↔2048<=n /\ n<65536 /\ 224+n/4096=a /\ 128+n/64%64=b /\ 128+n%64=c:=by
 unfold chN
 repeat' split
 all_goals (simp only[List.cons.injEq,and_true,reduceCtorEq,and_false,false_iff,not_and];omega)
theorem aiZ (n a b c d:Nat):chN n=[a,b,c,d]↔65536<=n /\ 240+n/262144=a /\ 128+n/4096%64=b /\ 128+n/64%64=c /\ 128+n%64=d:=by
 unfold chN
 repeat' split
 all_goals (simp only[List.cons.injEq,and_true,reduceCtorEq,and_false,false_iff,not_and];omega)
theorem afo (n:Nat):O7 n=true↔n<=55295 \/ (57344<=n /\ n<=1114111):=by unfold O7;simp
theorem DD (n:Nat) (s:List UInt8):(O7 n&&(chB n==s))=true↔(n<=55295 \/ (57344<=n /\ n<=1114111)) /\ chN n=s.map UInt8.toNat:=by
 rw[Bool.and_eq_true,afo];constructor
 ·rintro ⟨h1,h2⟩;exact ⟨h1,(adk n (by omega) s).1 h2⟩
 ·rintro ⟨h1,h2⟩;exact ⟨h1,(adk n (by omega) s).2 h2⟩
theorem ahH (s:List UInt8) (hne:s≠[]):(ptB s).2=if (decodeL s).1=65533 /\ (decodeL s).2=1 then 0 else (decodeL s).2:=by
 have hl:0<s.length:=List.length_pos_iff.2 hne;have k0:=(s.getD 0 0).toNat_lt;have k1:=(s.getD 1 0).toNat_lt;have k2:=(s.getD 2 0).toNat_lt;have k3:=(s.getD 3 0).toNat_lt;have shp:=decodeN_shape s.length (s.getD 0 0).toNat (s.getD 1 0).toNat (s.getD 2 0).toNat (s.getD 3 0).toNat;rw[decodeL_N]
 generalize hD:decodeN s.length (s.getD 0 0).toNat (s.getD 1 0).toNat (s.getD 2 0).toNat (s.getD 3 0).toNat=D at shp ⊢
 have hD':=hD;unfold decodeN at hD;unfold ptB
 by_cases Jy:240<=(s.getD 0 0).toNat
 ·have hm:rC (s.getD 0 0).toNat=4:=by unfold rC;rw[if_pos Jy]
  have hn:Yo (s.getD 0 0).toNat=(s.getD 0 0).toNat-240:=by unfold Yo;rw[if_pos Jy]
  rw[hm,hn]
  by_cases hsl:s.length<4
  ·rw[if_pos hsl]
   rcases shp with ⟨c,e⟩ |⟨c1,c2,c3,cv,e⟩ |⟨c1,c2,c3,c4,cv,cs,e⟩ |⟨c1,c2,c3,c4,c5,cv,cw,e⟩ |e
   all_goals first |(exfalso;omega) |(rw[e];rfl)
  ·rw[if_neg hsl,takeD s (by omega)]
   simp only[List.drop_succ_cons,List.drop_zero,Uc]
   generalize hN:(((s.getD 0 0).toNat-240)*64+(s.getD 1 0).toNat%64)*64+(s.getD 2 0).toNat%64=N1
   by_cases qw:(O7 (N1*64+(s.getD 3 0).toNat%64)&&(chB (N1*64+(s.getD 3 0).toNat%64)==[s.getD 0 0,s.getD 1 0,s.getD 2 0,s.getD 3 0]))=true
   ·rw[if_pos qw]
    rw[DD] at qw;simp only[List.map_cons,List.map_nil,aiZ] at qw;obtain ⟨q1,q2,q3,q4,q5,q6⟩:=qw;rw[if_neg (by omega),if_neg (by omega),if_neg (by omega),if_pos ⟨by omega,⟨by omega,by omega⟩,⟨by omega,by omega⟩,by omega,by omega⟩,if_pos ⟨by omega,by omega⟩] at hD
    rw[<-hD,if_neg (by simp)]
   ·rw[if_neg qw]
    rw[DD] at qw;simp only[List.map_cons,List.map_nil,aiZ] at qw
    rcases shp with ⟨c,e⟩ |⟨c1,c2,c3,cv,e⟩ |⟨c1,c2,c3,c4,cv,cs,e⟩ |⟨c1,c2,c3,c4,c5,cv,cw,e⟩ |e
    ·exfalso;omega
    ·exfalso;omega
    ·exfalso;omega
    ·exfalso;apply qw
     have:(262144:Nat)<=262144:=Nat.le_refl _;rw[if_neg (by omega),if_neg (by omega),if_neg (by omega),if_pos ⟨by omega,⟨by omega,by omega⟩,⟨by omega,by omega⟩,by omega,by omega⟩] at hD
     split at hD
     ·rename_i hv
      exact ⟨by omega,by omega,by omega,by omega,by omega,by omega⟩
     ·rw[<-hD] at e;simp at e
    ·rw[e];rfl
 ·by_cases Qz:224<=(s.getD 0 0).toNat
  ·have hm:rC (s.getD 0 0).toNat=3:=by unfold rC;rw[if_neg Jy,if_pos Qz]
   have hn:Yo (s.getD 0 0).toNat=(s.getD 0 0).toNat-224:=by unfold Yo;rw[if_neg Jy,if_pos Qz]
   rw[hm,hn]
   by_cases hsl:s.length<3
   ·rw[if_pos hsl]
    rcases shp with ⟨c,e⟩ |⟨c1,c2,c3,cv,e⟩ |⟨c1,c2,c3,c4,cv,cs,e⟩ |⟨c1,c2,c3,c4,c5,cv,cw,e⟩ |e
    all_goals first |(exfalso;omega) |(rw[e];rfl)
   ·rw[if_neg hsl,takeC s (by omega)]
    simp only[List.drop_succ_cons,List.drop_zero,Uc]
    generalize hN:(((s.getD 0 0).toNat-224)*64+(s.getD 1 0).toNat%64)*64+(s.getD 2 0).toNat%64=N
    by_cases qw:(O7 N&&(chB N==[s.getD 0 0,s.getD 1 0,s.getD 2 0]))=true
    ·rw[if_pos qw]
     rw[DD] at qw;simp only[List.map_cons,List.map_nil,aiY] at qw;obtain ⟨q1,q2,q3,q4,q5,q6⟩:=qw;rw[if_neg (by omega),if_neg (by omega),if_pos ⟨by omega,⟨by omega,by omega⟩,by omega,by omega⟩,if_pos ⟨by omega,by omega⟩] at hD
     rw[<-hD,if_neg (by simp)]
    ·rw[if_neg qw]
     rw[DD] at qw;simp only[List.map_cons,List.map_nil,aiY] at qw
     rcases shp with ⟨c,e⟩ |⟨c1,c2,c3,cv,e⟩ |⟨c1,c2,c3,c4,cv,cs,e⟩ |⟨c1,c2,c3,c4,c5,cv,cw,e⟩ |e
     ·exfalso;omega
     ·exfalso;omega
     ·exfalso;apply qw
      exact ⟨by omega,by omega,by omega,by omega,by omega,by omega⟩
     ·exfalso;omega
     ·rw[e];rfl
  ·by_cases Zt:192<=(s.getD 0 0).toNat
   ·have hm:rC (s.getD 0 0).toNat=2:=by unfold rC;rw[if_neg Jy,if_neg Qz,if_pos Zt]
    have hn:Yo (s.getD 0 0).toNat=(s.getD 0 0).toNat-192:=by unfold Yo;rw[if_neg Jy,if_neg Qz,if_pos Zt]
    rw[hm,hn]
    by_cases hsl:s.length<2
    ·rw[if_pos hsl]
     rcases shp with ⟨c,e⟩ |⟨c1,c2,c3,cv,e⟩ |⟨c1,c2,c3,c4,cv,cs,e⟩ |⟨c1,c2,c3,c4,c5,cv,cw,e⟩ |e
     all_goals first |(exfalso;omega) |(rw[e];rfl)
    ·rw[if_neg hsl,takeB s (by omega)]
     simp only[List.drop_succ_cons,List.drop_zero,Uc]
     generalize hN:((s.getD 0 0).toNat-192)*64+(s.getD 1 0).toNat%64=N
     by_cases qw:(O7 N&&(chB N==[s.getD 0 0,s.getD 1 0]))=true
     ·rw[if_pos qw]
      rw[DD] at qw;simp only[List.map_cons,List.map_nil,aiX] at qw;obtain ⟨q1,q2,q3,q4,q5⟩:=qw;rw[if_neg (by omega),if_pos ⟨by omega,by omega,by omega⟩,if_pos (by omega)] at hD
      rw[<-hD,if_neg (by simp)]
     ·rw[if_neg qw]
      rw[DD] at qw;simp only[List.map_cons,List.map_nil,aiX] at qw
      rcases shp with ⟨c,e⟩ |⟨c1,c2,c3,cv,e⟩ |⟨c1,c2,c3,c4,cv,cs,e⟩ |⟨c1,c2,c3,c4,c5,cv,cw,e⟩ |e
      ·exfalso;omega
      ·exfalso;apply qw
       exact ⟨by omega,by omega,by omega,by omega,by omega⟩
      ·exfalso;omega
      ·exfalso;omega
      ·rw[e];rfl
   ·have hm:rC (s.getD 0 0).toNat=1:=by unfold rC;rw[if_neg Jy,if_neg Qz,if_neg Zt]
    have hn:Yo (s.getD 0 0).toNat=(s.getD 0 0).toNat:=by unfold Yo;rw[if_neg Jy,if_neg Qz,if_neg Zt]
    rw[hm,hn];rw[if_neg (show ¬s.length<1 by omega),takeA s hl]
    simp only[List.drop_succ_cons,List.drop_zero,Uc]
    by_cases qw:(O7 (s.getD 0 0).toNat&&(chB (s.getD 0 0).toNat==[s.getD 0 0]))=true
    ·rw[if_pos qw]
     rw[DD] at qw;simp only[List.map_cons,List.map_nil,aiW] at qw;rw[if_pos (by omega)] at hD
     rw[<-hD,if_neg (by simp only;omega)]
    ·rw[if_neg qw]
     rw[DD] at qw;simp only[List.map_cons,List.map_nil,aiW] at qw
     rcases shp with ⟨c,e⟩ |⟨c1,c2,c3,cv,e⟩ |⟨c1,c2,c3,c4,cv,cs,e⟩ |⟨c1,c2,c3,c4,c5,cv,cw,e⟩ |e
     ·exfalso;simp only[and_true] at qw;omega
     ·exfalso;omega
     ·exfalso;omega
     ·exfalso;omega
     ·rw[e];rfl
theorem ai0 (s:List UInt8) (hne:s≠[]):(ptB s).2<=s.length:=by
 unfold ptB;split
 ·exact Nat.zero_le _
 ·split
  ·rename_i h1 h2;exact Nat.le_of_not_lt h1
  ·exact Nat.zero_le _
theorem RP : ∀(m f:Nat) (s:List UInt8) (out:List Int),s.length<=m->s.length<=1048576->out.length+s.length<=1048576->
 ∃r,M.lV (f+m+1) s out=some r /\ (match r with | .inl a=>a.1=false /\ validGoD m s=false | .inr _=>validGoD m s=true)
 |0,f,s,out,hm,hs,ho=>by
  have e:s=[]:=List.eq_nil_of_length_eq_zero (by omega)
  subst e;exact ⟨.inr out,rfl,rfl⟩
 |m+1,f,s,out,hm,hs,ho=>by
  rw[show f+(m+1)+1=(f+m+1)+1 by omega,M.lV]
  by_cases hne:s=[]
  ·subst hne
   exact ⟨.inr out,rfl,rfl⟩
  ·have hl:0<s.length:=List.length_pos_iff.2 hne
   have d:decide ((0:Int)<(s.length:Int))=true:=decide_eq_true (by omega)
   rw[d,agK s hne hs];simp only[cond_true,Option.getD_some,Option.isSome_some,Bool.and_true,List.length_cons,List.length_nil,Nat.zero_add];have hp:=ahH s hne;have hle:=ai0 s hne;have hv:validGoD (m+1) s=if (decodeL s).1=65533 /\ (decodeL s).2=1 then false else validGoD m (s.drop (decodeL s).2):=by
    rw[validGoD,if_neg hne]
   by_cases hb:(decodeL s).1=65533 /\ (decodeL s).2=1
   ·rw[if_pos hb] at hp hv
    rw[hp];exact ⟨.inl (false,[]),rfl,rfl,hv⟩
   ·rw[if_neg hb] at hp hv
    have hw:=decodeL_width s;rw[<-hp] at hv hw;have d0:(((ptB s).2:Int)==0)=false:=by rw[beq_eq_false_iff_ne];omega
    have hsl:CO ((ptB s).2:Int) (s.length:Int) s.length=true:=by unfold CO;simp;omega
    have hlen:decide (out.length+1<=1073741824)=true:=decide_eq_true (by omega)
    rw[d0,hsl,hlen];simp only[cond_false,cond_true,Bool.and_self,Int.toNat_natCast,List.take_length];have hdl:(s.drop (ptB s).2).length=s.length-(ptB s).2:=List.length_drop;obtain ⟨r,h1,h2⟩:=RP m f (s.drop (ptB s).2) (out++[((ptB s).1:Int)]) (by omega) (by omega) (by rw[List.length_append];simp;omega)
    refine ⟨r,h1, ?_⟩;rw[hv];exact h2
def MB (s:List UInt8):Bool:=decide (s.length<=24)&&validD s
theorem ahI (s:List UInt8) (hs:s.length<=1048576):M.EK s=some (MB s):=by
 unfold M.EK MB
 by_cases h:s.length<=24
 ·have d:decide ((24:Int)<(s.length:Int))=false:=decide_eq_false (by omega)
  rw[d,decide_eq_true h];obtain ⟨f,hf⟩:∃f,aG=f+s.length+1:=⟨aG-(s.length+1),by have:=wR hs;omega⟩
  obtain ⟨r,h1,h2⟩:=RP s.length f s [] (Nat.le_refl _) hs (by simp;omega)
  have e:∀r,M.lV (f+s.length+1) s []=some r->M.uZ s=(match r with | .inl a=>some (a.2,a.1) | .inr b=>some (b,true)):=fun r h=>by
   unfold M.uZ;rw[hf,h];cases r<;>rfl
  have e:=e r h1
  cases r with
  |inl a=>
   simp only at h2 e;rw[e];simp only[cond_false,Option.isSome_some,Bool.and_true,cond_true,Option.getD_some,Bool.true_and,h2.1];exact congrArg some h2.2.symm
  |inr b=>
   simp only at h2 e;rw[e];simp only[cond_false,Option.isSome_some,Bool.and_true,cond_true,Option.getD_some,Bool.true_and];exact congrArg some h2.symm
 ·have d:decide ((24:Int)<(s.length:Int))=true:=decide_eq_true (by omega)
  rw[d,decide_eq_false h];rfl
theorem ahJ (s:List UInt8) (hs:s.length<=1048576):M.ES s=some (MB s):=by
 have e:M.dU s=some (validD s):=by
  unfold M.dU;rw[decide_eq_true (show s.length<=9223372036854775807 by omega)];rfl
 have d:decide ((s.length:Int)<=24)=decide (s.length<=24):=by congr 1;exact propext ⟨fun h=>by omega,fun h=>by omega⟩
 unfold M.ES MB;rw[e,d];rfl
end M
namespace M
open Go.V (inB CO aG cZ)
theorem af.adl {a:af} {N:Nat} (h:a.sz<=N):a.Text.length<=N:=by rw[af.jP] at h;omega
theorem af.Ul {a:af} {N:Nat} (h:a.sz<=N):jv af.sz a.Kids<=N:=by rw[af.jP] at h;omega
theorem af.kJ {a:af} {N:Nat} (h:a.sz<=N):a.Kids.length<=N:=Nat.le_trans (dV _ _) (af.Ul h)
theorem af.sQ {a x:af} (h:x∈a.Kids):x.sz<a.sz:=by
 rw[af.jP a];have:=qL af.sz _ _ h;omega
def VD (k:Int):Int×Int:=
 if k=3 then (0,255) else if k=4 then (-128,127) else if k=5 then (0,65535) else if k=6 then (-32768,32767) else if k=7 then (0,4294967295) else if k=8 then (-2147483648,2147483647)
 else if k=9 then (-9223372036854775808,9223372036854775807) else (0,0)
def ahb (n:Int):Bool:=(decide ((0:Int)<=n)&&decide (n<=(55295:Int)))||(decide ((57344:Int)<=n)&&decide (n<=(1114111:Int)))
def Zu (t:ae):Int:=Go.IntKind.wrap .i64 (Go.V.Za .i64 (1:Int) (t.aQ.length:Int)-1)
def VE (t:ae):Int:=
 if t.Kind=17 \/ t.Kind=18 then Go.IntKind.wrap .i64 ((t.aQ.length:Int)-1) else if t.Kind=19 then Zu t
 else if t.Kind=20 \/ t.Kind=21 \/ t.Kind=22 \/ t.Kind=23 then 2147483647 else 0
def Fv (n:Int) (t:ae):Bool:=
 if t.Kind=2 \/ t.Kind=13 \/ t.Kind=14 then decide ((0:Int)<=n)&&decide (n<=(1:Int))
 else if 3<=t.Kind /\ t.Kind<=9 then decide ((VD t.Kind).1<=n)&&decide (n<=(VD t.Kind).2)
 else if t.Kind=10 then ahb n
 else decide ((0:Int)<=n)&&decide (n<=VE t)
def O8 (t:ae):List ae:=if tJ t then [] else [t]
def kT (n:Int) (len:Nat) (t:ae):Option (List ae):=
 if t.Kind=12 then some (List.replicate (min len 8) (t.Kids.getD 0 ae.zero))
 else if t.Kind=15 \/ t.Kind=16 then some t.Kids
 else if t.Kind=13 then (if n=0 then some [] else if n=1 then some (O8 (t.Kids.getD 0 ae.zero)) else none)
 else if t.Kind=14 \/ t.Kind=17 then (if 0<=n /\ n<(t.Kids.length:Int) then some (O8 (t.Kids.getD n.toNat ae.zero)) else none)
 else some []
def headB (k n:Int) (x:List UInt8) (t:ae):Bool:=(((k==t.Kind)&&Fv n t)&&(x==[]||t.Kind==11))&&MB x
mutual
def kK : af->ae->Bool
 | .mk k n x kids,t=>headB k n x t&&(match kT n kids.length t with
   |some ts=>decide (ts.length=kids.length)&&uG kids ts
   |none=>false)
def uG : List af->List ae->Bool
 | [],_=>true
 |v::r,ts=>kK v (ts.headD ae.zero)&&uG r ts.tail
end
theorem aaW (v:af) (t:ae):kK v t=(headB v.Kind v.Num v.Text t&&(match kT v.Num v.Kids.length t with
 |some ts=>decide (ts.length=v.Kids.length)&&uG v.Kids ts
 |none=>false)):=by cases v;rfl
theorem Gq : ∀(a:List af) (b:List ae),b.length=a.length->uG a b=(List.range a.length).all fun k=>kK (a.getD k af.zero) (b.getD k ae.zero)
 | [],_,_=>rfl
 |v::r,[],h=>by simp at h
 |v::r,t::ts,h=>by
  rw[uG,List.headD_cons,List.tail_cons,Gq r ts (by simpa using h),List.length_cons,List.range_succ_eq_map,List.all_cons,List.all_map]
  rfl
theorem RQ (t:ae):∀(a:List af) (n:Nat),n=a.length->uG a (List.replicate n t)=a.all fun v=>kK v t
 | [],_,_=>rfl
 |v::r,n,h=>by
  subst h;rw[List.length_cons,List.replicate_succ,uG,List.headD_cons,List.tail_cons,RQ t r r.length rfl,List.all_cons]
theorem kb {a b:Int} (h:a≠b):(a==b)=false:=by rw[beq_eq_false_iff_ne];exact h
theorem kt {a b:Int} (h:a=b):(a==b)=true:=by rw[h];exact beq_self_eq_true b
theorem VF (k:Int):∃b,M.xU k=some ((VD k).1,(VD k).2,b):=by
 unfold M.xU VD
 by_cases h3:k=3
 ·subst h3;exact ⟨true,rfl⟩
 by_cases h4:k=4
 ·subst h4;exact ⟨true,rfl⟩
 by_cases h5:k=5
 ·subst h5;exact ⟨true,rfl⟩
 by_cases h6:k=6
 ·subst h6;exact ⟨true,rfl⟩
 by_cases h7:k=7
 ·subst h7;exact ⟨true,rfl⟩
 by_cases h8:k=8
 ·subst h8;exact ⟨true,rfl⟩
 by_cases h9:k=9
 ·subst h9;exact ⟨true,rfl⟩
 exact ⟨false,by simp[h3,h4,h5,h6,h7,h8,h9,kb h3,kb h4,kb h5,kb h6,kb h7,kb h8,kb h9]⟩
theorem VG (k:Int):∃b,M.Bo k=some ((VD k).1,(VD k).2,b):=VF k
theorem afp {k:Int} (h:¬(3<=k /\ k<=9)):VD k=(0,0):=by
 unfold VD;rw[if_neg (by omega),if_neg (by omega),if_neg (by omega),if_neg (by omega),if_neg (by omega),if_neg (by omega),if_neg (by omega)]
theorem agN (v:af) (t:ae):M.J9 v t=some (Fv v.Num t):=by
 unfold M.J9 Fv
 by_cases h1:t.Kind=2 \/ t.Kind=13 \/ t.Kind=14
 ·rw[if_pos h1]
  rcases h1 with h |h |h<;>simp[h]
 ·rw[if_neg h1]
  simp only[not_or] at h1;obtain ⟨a2,a13,a14⟩:=h1;simp only[kb a2,kb a13,kb a14,cond_false]
  by_cases h2:3<=t.Kind /\ t.Kind<=9
  ·rw[if_pos h2]
   obtain ⟨b,e⟩:=VF t.Kind;have:(bif t.Kind==3 then t.Kind==3 else bif t.Kind==4 then t.Kind==4 else bif t.Kind==5 then t.Kind==5 else bif t.Kind==6 then t.Kind==6 else bif t.Kind==7 then t.Kind==7 else bif t.Kind==8 then t.Kind==8 else t.Kind==9)=true:=by
    have:t.Kind=3 \/ t.Kind=4 \/ t.Kind=5 \/ t.Kind=6 \/ t.Kind=7 \/ t.Kind=8 \/ t.Kind=9:=by omega
    rcases this with h |h |h |h |h |h |h<;>simp[h]
   rw[this,e];rfl
  ·rw[if_neg h2]
   have:(bif t.Kind==3 then t.Kind==3 else bif t.Kind==4 then t.Kind==4 else bif t.Kind==5 then t.Kind==5 else bif t.Kind==6 then t.Kind==6 else bif t.Kind==7 then t.Kind==7 else bif t.Kind==8 then t.Kind==8 else t.Kind==9)=false:=by
    simp only[kb (show t.Kind≠3 by omega),kb (show t.Kind≠4 by omega),kb (show t.Kind≠5 by omega),kb (show t.Kind≠6 by omega),kb (show t.Kind≠7 by omega),kb (show t.Kind≠8 by omega),kb (show t.Kind≠9 by omega),cond_false]
   rw[this];simp only[cond_false]
   by_cases h3:t.Kind=10
   ·rw[if_pos h3,kt h3];rfl
   ·rw[if_neg h3,kb h3]
    simp only[cond_false];unfold VE Zu
    by_cases h4:t.Kind=17
    ·simp[h4]
    by_cases h5:t.Kind=18
    ·simp[h5]
    by_cases h6:t.Kind=19
    ·simp[h6]
    by_cases h7:t.Kind=20
    ·simp[h7]
    by_cases h8:t.Kind=21
    ·simp[h8]
    by_cases h9:t.Kind=22
    ·simp[h9]
    by_cases h10:t.Kind=23
    ·simp[h10]
    simp[h4,h5,h6,h7,h8,h9,h10,kb h4,kb h5,kb h6,kb h7,kb h8,kb h9,kb h10]
theorem Gs {t:ae} (h:jD t=true):(t.Kind=12->t.Kids.length=1) /\ (t.Kind=13->t.Kids.length=1 /\ tJ (t.Kids.getD 0 ae.zero)=false) /\ (t.Kind=14->t.Kids.length=2) /\ (t.Kind=17->t.Kids.length=t.aQ.length):=by
 rw[Fp] at h;simp only[Bool.and_eq_true] at h;have hk:=h.1;unfold Jw at hk;simp only[Bool.and_eq_true] at hk;have hk:=hk.2;unfold adb at hk;refine ⟨fun e=> ?_,fun e=> ?_,fun e=> ?_,fun e=> ?_⟩
 ·rw[if_pos (.inl e)] at hk;simp at hk;exact hk.1
 ·rw[if_pos (.inr e)] at hk;simp only[Bool.and_eq_true,beq_iff_eq,Bool.not_eq_true'] at hk
  refine ⟨hk.1, ?_⟩;have hl:0<t.Kids.length:=by omega
  rw[getD_lt hl];have:=List.any_eq_false.1 hk.2 _ (List.getElem_mem hl);simpa using this
 ·rw[if_neg (by omega),if_pos e] at hk;simp at hk;exact hk
 ·rw[if_neg (by omega),if_neg (by omega),if_neg (by omega),if_neg (by omega),if_pos e] at hk;simp at hk;exact hk
theorem afq (t:ae) (n:Int) (hl:t.Kids.length<=1048576) (h:t.Kind≠13):M.rf t n=some (if 0<=n /\ n<(t.Kids.length:Int) then (t.Kids.getD n.toNat ae.zero,true) else (.mk 0 [] [] [],false)):=by
 unfold M.rf;rw[kb h,wrap_i64 (show (-9223372036854775808:Int)<=(t.Kids.length:Int)-1 by omega) (by omega)]
 simp only[cond_false]
 by_cases hn:0<=n /\ n<(t.Kids.length:Int)
 ·rw[if_pos hn,decide_eq_true hn.1,decide_eq_true (show n<=(t.Kids.length:Int)-1 by omega)]
  have hin:inB n t.Kids.length=true:=by unfold inB;rw[decide_eq_true hn.1,decide_eq_true hn.2];rfl
  rw[hin,ae.aU];rfl
 ·rw[if_neg hn]
  have:(decide ((0:Int)<=n)&&decide (n<=(t.Kids.length:Int)-1))=false:=by
   rw[Bool.and_eq_false_iff]
   by_cases h0:0<=n
   ·right;exact decide_eq_false (by omega)
   ·left;exact decide_eq_false h0
  rw[this];rfl
theorem agO (t:ae) (n:Int) (h:t.Kind=13) (hk:t.Kids.length=1) (hn:n=0 \/ n=1):M.rf t n=some (if n=0 then (.mk 1 [] [] [],true) else (t.Kids.getD 0 ae.zero,true)):=by
 unfold M.rf;rw[kt h,hk]
 rcases hn with rfl |rfl
 ·rfl
 ·have:Go.IntKind.wrap .i64 ((1:Int)-1)=0:=by decide
  have h2:Go.IntKind.wrap .i64 (((1:Nat):Int)-1)=0:=by decide
  rw[this,h2,ae.aU];rfl
theorem acg (v:af) (t:ae) (hv:v.sz<=1048576) (ht:t.sz<=1048576) (hs:jD t=true) (hn:Fv v.Num t=true):
 ∃l,M.xW v t=some (l,(kT v.Num v.Kids.length t).isSome) /\ ∀ts,kT v.Num v.Kids.length t=some ts->l=ts:=by
 obtain ⟨s12,s13,s14,s17⟩:=Gs hs;have hl:=af.kJ hv;have hl2:=ae.kJ ht;unfold M.xW kT
 by_cases h12:t.Kind=12
 ·rw[if_pos h12,kt h12]
  have hk:=s12 h12;have e:M.dZ t.Kids (bif decide ((8:Int)<(v.Kids.length:Int)) then 8 else (v.Kids.length:Int))=some (List.replicate (min v.Kids.length 8) (t.Kids.getD 0 ae.zero)):=by
   have e1:(bif decide ((8:Int)<(v.Kids.length:Int)) then (8:Int) else (v.Kids.length:Int))=((min v.Kids.length 8:Nat):Int):=by
    by_cases h:(8:Int)<(v.Kids.length:Int)
    ·rw[decide_eq_true h,cond_true];omega
    ·rw[decide_eq_false h,cond_false];omega
   rw[e1];unfold M.dZ;rw[decide_eq_true hk,decide_eq_true (show (0:Int)<=((min v.Kids.length 8:Nat):Int) by omega),decide_eq_true (show ((min v.Kids.length 8:Nat):Int)<=8 by omega),Int.toNat_natCast]
   rfl
  rw[e];exact ⟨_,rfl,fun ts h=>Option.some.inj h⟩
 ·rw[if_neg h12,kb h12]
  simp only[cond_false]
  by_cases h15:t.Kind=15 \/ t.Kind=16
  ·rw[if_pos h15]
   have:(bif t.Kind==15 then t.Kind==15 else t.Kind==16)=true:=by rcases h15 with h |h<;>simp[h]
   rw[this];exact ⟨_,rfl,fun ts h=>Option.some.inj h⟩
  ·rw[if_neg h15]
   simp only[not_or] at h15;simp only[kb h15.1,kb h15.2,cond_false]
   by_cases h13:t.Kind=13
   ·rw[if_pos h13]
    simp only[kt h13,cond_true];obtain ⟨k1,k2⟩:=s13 h13;have ai1:v.Num=0 \/ v.Num=1:=by
     unfold Fv at hn;rw[if_pos (.inr (.inl h13))] at hn;simp only[Bool.and_eq_true,decide_eq_true_eq] at hn;omega
    rw[ae.aU,agO t v.Num h13 k1 ai1]
    rcases ai1 with e |e
    ·rw[e];exact ⟨[],rfl,fun ts h=>Option.some.inj h⟩
    ·rw[e]
     have hku:((t.Kids.getD 0 ae.zero).Kind==1)=false:=k2;have ho:O8 (t.Kids.getD 0 ae.zero)=[t.Kids.getD 0 ae.zero]:=by unfold O8;rw[k2];rfl
     rw[if_neg (by decide),if_neg (by decide),if_pos rfl,ho]
     simp only[Option.getD_some,hku,cond_false,Option.isSome_some,Bool.and_self,cond_true,ae.aU];exact ⟨_,rfl,fun ts h=>Option.some.inj h⟩
   ·rw[if_neg h13]
    by_cases Z5:t.Kind=14 \/ t.Kind=17
    ·rw[if_pos Z5]
     have:(bif t.Kind==13 then t.Kind==13 else bif t.Kind==14 then t.Kind==14 else t.Kind==17)=true:=by rcases Z5 with h |h<;>simp[h]
     rw[this,ae.aU,afq t v.Num hl2 h13]
     by_cases hb:0<=v.Num /\ v.Num<(t.Kids.length:Int)
     ·rw[if_pos hb,if_pos hb]
      unfold O8 tJ
      cases hu:((t.Kids.getD v.Num.toNat ae.zero).Kind==1)
      ·simp only[Option.getD_some,hu,cond_false,cond_true,Option.isSome_some,Bool.and_self,ae.aU]
       exact ⟨_,rfl,fun ts h=>Option.some.inj h⟩
      ·simp only[Option.getD_some,hu,cond_false,cond_true,Option.isSome_some,Bool.and_self,ae.aU]
       exact ⟨_,rfl,fun ts h=>Option.some.inj h⟩
     ·rw[if_neg hb,if_neg hb]
      exact ⟨_,rfl,fun ts h=>by cases h⟩
    ·rw[if_neg Z5]
     simp only[not_or] at Z5;simp only[kb h13,kb Z5.1,kb Z5.2,cond_false];exact ⟨_,rfl,fun ts h=>Option.some.inj h⟩
theorem afr {n:Int} {len:Nat} {t:ae} (hs:jD t=true) {ts:List ae} (h:kT n len t=some ts):∀x∈ts,jD x=true:=by
 have hkids:∀x∈t.Kids,jD x=true:=by
  rw[Fp,Bool.and_eq_true,BZ,List.all_eq_true] at hs;exact hs.2
 obtain ⟨s12,s13,s14,s17⟩:=Gs hs;have hone:∀k,k<t.Kids.length->∀x∈O8 (t.Kids.getD k ae.zero),jD x=true:=fun k hk x hx=>by
  unfold O8 at hx;split at hx
  ·cases hx
  ·rw[List.mem_singleton] at hx;subst hx;rw[getD_lt hk];exact hkids _ (List.getElem_mem hk)
 unfold kT at h;split at h
 ·rename_i h12
  simp only[Option.some.injEq] at h;subst h;intro x hx;rw[(List.mem_replicate.1 hx).2,getD_lt (by rw[s12 h12];omega)]
  exact hkids _ (List.getElem_mem _)
 ·split at h
  ·simp only[Option.some.injEq] at h;subst h;exact hkids
  ·split at h
   ·rename_i h13
    split at h
    ·simp only[Option.some.injEq] at h;subst h;intro x hx;cases hx
    ·split at h
     ·simp only[Option.some.injEq] at h;subst h;exact hone 0 (by rw[(s13 h13).1];omega)
     ·cases h
   ·split at h
    ·split at h
     ·rename_i hb
      simp only[Option.some.injEq] at h;subst h;exact hone _ (by omega)
     ·cases h
    ·simp only[Option.some.injEq] at h;subst h;intro x hx;cases hx
theorem ai2 {n:Int} {len:Nat} {t:ae} (hs:jD t=true) (ht:t.sz<=1048576) {ts:List ae} (h:kT n len t=some ts):∀x∈ts,x.sz<=1048576:=by
 obtain ⟨s12,s13,s14,s17⟩:=Gs hs;have hkids:∀x∈t.Kids,x.sz<=1048576:=fun x hx=>by have:=ae.sQ hx;omega
 have hone:∀k,k<t.Kids.length->∀x∈O8 (t.Kids.getD k ae.zero),x.sz<=1048576:=fun k hk x hx=>by
  unfold O8 at hx;split at hx
  ·cases hx
  ·rw[List.mem_singleton] at hx;subst hx;rw[getD_lt hk];exact hkids _ (List.getElem_mem hk)
 unfold kT at h;split at h
 ·rename_i h12
  simp only[Option.some.injEq] at h;subst h;intro x hx;rw[(List.mem_replicate.1 hx).2,getD_lt (by rw[s12 h12];omega)]
  exact hkids _ (List.getElem_mem _)
 ·split at h
  ·simp only[Option.some.injEq] at h;subst h;exact hkids
  ·split at h
   ·rename_i h13
    split at h
    ·simp only[Option.some.injEq] at h;subst h;intro x hx;cases hx
    ·split at h
     ·simp only[Option.some.injEq] at h;subst h;exact hone 0 (by rw[(s13 h13).1];omega)
     ·cases h
   ·split at h
    ·split at h
     ·rename_i hb
      simp only[Option.some.injEq] at h;subst h;exact hone _ (by omega)
     ·cases h
    ·simp only[Option.some.injEq] at h;subst h;intro x hx;cases hx
theorem afs : ∀(m:Nat) (v:af) (t:ae),v.sz<m->v.sz<=1048576->t.sz<=1048576->jD t=true->M.tq m v t=some (kK v t)
 |0,v,t,h,_,_,_=>absurd h (Nat.not_lt_zero _)
 |m+1,v,t,h,hv,ht,hs=>by
  have hl:=af.kJ hv
  show M.Jl (M.tq m) v t=_
  unfold M.Jl;rw[af.aU,ae.aU,agN,ahJ _ (af.adl hv),aaW];simp only[Option.getD_some,Option.isSome_some,Bool.true_or,Bool.and_true,cond_true,nR];have hhead:headB v.Kind v.Num v.Text t= !(((!(v.Kind==t.Kind))||(!Fv v.Num t)||((!(v.Text==[]))&&(!(t.Kind==11))))||(!MB v.Text)):=by
   unfold headB
   cases (v.Kind==t.Kind)<;>cases Fv v.Num t<;>cases (v.Text==[])<;>cases (t.Kind==11)<;>cases MB v.Text<;>rfl
  cases hb:(((!(v.Kind==t.Kind))||(!Fv v.Num t)||((!(v.Text==[]))&&(!(t.Kind==11))))||(!MB v.Text))
  ·rw[hhead,hb]
   have hn:Fv v.Num t=true:=by
    simp only[Bool.or_eq_false_iff,Bool.not_eq_false'] at hb;exact hb.1.1.2
   obtain ⟨l,e1,e2⟩:=acg v t hv ht hs hn;rw[e1];simp only[cond_false,Option.getD_some,Option.isSome_some,Bool.not_false,Bool.true_and]
   cases hk:kT v.Num v.Kids.length t with
   |none=>rfl
   |some ts=>
    have:=e2 ts hk;subst this;simp only[Option.isSome_some,Bool.not_true,Bool.false_or]
    by_cases hlen:l.length=v.Kids.length
    ·have:((l.length:Int)==(v.Kids.length:Int))=true:=by rw[beq_iff_eq];omega
     rw[this,decide_eq_true hlen];have hloop:=Fq (p:=fun k=>kK (v.Kids.getD k af.zero) (l.getD k ae.zero)) (F:=fun f i=>M.qE (M.tq m) l v.Kids (v.Kids.length:Int) f i) (e:=()) (b:=false) v.Kids.length (by omega) (fun f k hk2=>by
      show M.qE (M.tq m) l v.Kids (v.Kids.length:Int) (f+1) (k:Int)=_
      rw[M.qE];have hx:=af.sQ (List.getElem_mem hk2);have hkl:k<l.length:=by omega
      have hx2:=ai2 hs ht hk l[k] (List.getElem_mem hkl);have hx3:=afr hs hk l[k] (List.getElem_mem hkl);simp only[ae.aU,af.aU,getD_lt hk2,getD_lt hkl,afs m v.Kids[k] l[k] (by omega) (by omega) hx2 hx3,Int.toNat_natCast,dS,Int.ofNat_lt,hk2,hkl,decide_true,cond_true,Bool.true_or,Bool.true_and,Bool.and_true,gW hk2 (by omega:v.Kids.length<2^62),Option.getD_some,Option.isSome_some]
      cases kK v.Kids[k] l[k]<;>rfl) (fun f=>by
      show M.qE (M.tq m) l v.Kids (v.Kids.length:Int) (f+1) _=_
      rw[M.qE];simp)
     have ahK:M.qE (M.tq m) l v.Kids (v.Kids.length:Int) aG 0=_:=hloop;rw[ahK,Gq _ _ hlen]
     cases (List.range v.Kids.length).all fun k=>kK (v.Kids.getD k af.zero) (l.getD k ae.zero)<;>rfl
    ·have:((l.length:Int)==(v.Kids.length:Int))=false:=by rw[beq_eq_false_iff_ne];omega
     rw[this,decide_eq_false hlen];rfl
  ·rw[hhead,hb];rfl
end M
namespace M
open Go.V (inB CO aG cZ)
theorem ach : MB []=true:=rfl
section
variable {rec :af->ae->Option Bool} {kids:List af}
theorem adm (most:Int) (t:ae) (hl:kids.length<=1048576) (hr:∀x∈kids,rec x t=some (kK x t)):
 M.uy rec kids most t=some (decide ((kids.length:Int)<=most)&&kids.all fun v=>kK v t):=by
 have e:=VB (p:=fun v=>kK v t) (F:=fun f i=>M.iY rec kids f i t) (e:=()) (b:=false) kids (by omega) (fun f k hk=>by
  show M.iY rec kids (f+1) (k:Int) t=_
  rw[M.iY];simp only[ae.aU,af.aU,getD_lt hk,hr _ (List.getElem_mem hk),Int.toNat_natCast,dS,Int.ofNat_lt,hk,decide_true,cond_true,Bool.true_or,Bool.true_and,Bool.and_true,gW hk (by omega:kids.length<2^62),Option.getD_some,Option.isSome_some]
  cases kK kids[k] t<;>rfl) (fun f=>by
  show M.iY rec kids (f+1) _ t=_
  rw[M.iY];simp)
 have e':M.iY rec kids aG 0 t=_:=e;unfold M.uy;rw[ae.aU,e']
 by_cases h:(kids.length:Int)<=most
 ·rw[decide_eq_true h,decide_eq_false (show ¬most<(kids.length:Int) by omega)]
  cases kids.all fun v=>kK v t<;>rfl
 ·rw[decide_eq_false h,decide_eq_true (show most<(kids.length:Int) by omega)];rfl
theorem ahL (ts:List ae) (hl:kids.length<=1048576) (hr:∀k,k<kids.length->k<ts.length->rec (kids.getD k af.zero) (ts.getD k ae.zero)=some (kK (kids.getD k af.zero) (ts.getD k ae.zero))):
 M.EL rec kids ts=some (decide (ts.length=kids.length)&&uG kids ts):=by
 unfold M.EL
 by_cases hlen:ts.length=kids.length
 ·have e:=Fq (p:=fun k=>kK (kids.getD k af.zero) (ts.getD k ae.zero)) (F:=fun f i=>M.lh rec kids ts f i) (e:=()) (b:=false) kids.length (by omega) (fun f k hk=>by
   show M.lh rec kids ts (f+1) (k:Int)=_
   rw[M.lh];have hk2:k<ts.length:=by omega
   simp only[ae.aU,af.aU,Int.toNat_natCast,hr k hk hk2,dS,Int.ofNat_lt,hk,hk2,decide_true,cond_true,Bool.true_or,Bool.true_and,Bool.and_true,gW hk (by omega:kids.length<2^62),Option.getD_some,Option.isSome_some]
   cases kK (kids.getD k af.zero) (ts.getD k ae.zero)<;>rfl) (fun f=>by
   show M.lh rec kids ts (f+1) _=_
   rw[M.lh];simp)
  have e':M.lh rec kids ts aG 0=_:=e;have hne:((kids.length:Int) !=(ts.length:Int))=false:=by rw[nR,hlen];simp
  rw[hne,e',decide_eq_true hlen,Gq _ _ hlen]
  cases (List.range kids.length).all fun k=>kK (kids.getD k af.zero) (ts.getD k ae.zero)<;>rfl
 ·have hne:((kids.length:Int) !=(ts.length:Int))=true:=by rw[nR,kb (show (kids.length:Int)≠(ts.length:Int) by omega)];rfl
  rw[hne,decide_eq_false hlen];rfl
theorem aft (t:ae) (hl:kids.length<=1048576) (hr:∀x∈kids,rec x t=some (kK x t)):
 M.xO rec kids t=some (decide ((O8 t).length=kids.length)&&uG kids (O8 t)):=by
 unfold M.xO O8 tJ
 cases hu:(t.Kind==1)
 ·simp only[cond_false,Bool.false_eq_true,if_false,ae.aU,af.aU,Int.toNat_zero]
  match kids,hr with
  | [],_=>
    have h1:((([]:List af).length:Int)==1)=false:=rfl;rw[h1];simp[uG]
  | [x],hr=>
    have:=hr x (List.mem_singleton.2 rfl);simp only[List.getD_cons_zero,this];simp[inB,uG]
  |x::y::r,_=>
   have h1:(((x::y::r).length:Int)==1)=false:=kb (by simp only[List.length_cons];omega)
   have h2:decide ([t].length=(x::y::r).length)=false:=decide_eq_false (by simp)
   rw[h1,h2];simp
 ·simp only[cond_true,if_true]
  match kids with
  | []=>rfl
  |x::r=>
   have h1:(((x::r).length:Int)==0)=false:=kb (by simp only[List.length_cons];omega)
   have h2:decide (([]:List ae).length=(x::r).length)=false:=decide_eq_false (by simp)
   rw[h1,h2];rfl
end
theorem len0 (l:List af):((l.length:Int)==0)=decide (([]:List ae).length=l.length):=by
 cases l with
 |nil=>rfl
 |cons a r=>rw[kb (by simp only[List.length_cons];omega),decide_eq_false (by simp)]
theorem ahM (l:List af):(decide (([]:List ae).length=l.length)&&uG l [])=decide (([]:List ae).length=l.length):=by
 cases l with
 |nil=>rfl
 |cons a r=>rw[decide_eq_false (by simp)];rfl
theorem ai3 (n:Nat) (h:n<=1048576):Go.IntKind.wrap .u64 (n:Int)=(n:Int):=Go.IntWalk.u64_in _ (by omega)
theorem Um (l:List af):(decide (([]:List ae).length=l.length)&&uG l [])=((l.length:Int)==0):=by rw[ahM,len0]
theorem ahN (n:Int):(decide ((0:Int)<=n)&&decide (n<=(0:Int)))=(n==0):=by
 by_cases h:n=0
 ·rw[h];rfl
 ·rw[kb h,Bool.and_eq_false_iff]
  by_cases h0:(0:Int)<=n
  ·right;exact decide_eq_false (by omega)
  ·left;exact decide_eq_false h0
section
variable {rec :af->ae->Option Bool}
theorem ahO (v:af) (t:ae) (hv:v.sz<=1048576) (ht:t.sz<=1048576) (hs:jD t=true)
 (hrec:∀x∈v.Kids,∀y∈t.Kids,rec x y=some (kK x y)) (hk:v.Kind=t.Kind) (htx:t.Kind≠11) (hte:v.Text=[]):
 M.nM rec v t=some (Fv v.Num t&&(match kT v.Num v.Kids.length t with
 |some ts=>decide (ts.length=v.Kids.length)&&uG v.Kids ts
 |none=>false)):=by
 have hl:=af.kJ hv;have hl2:=ae.kJ ht;have hlab:=ae.Vr ht;obtain ⟨s12,s13,s14,s17⟩:=Gs hs;have adn:∀k,k<t.Kids.length->∀x∈v.Kids,rec x (t.Kids.getD k ae.zero)=some (kK x (t.Kids.getD k ae.zero)):=fun k hk x hx=>by
  rw[getD_lt hk];exact hrec x hx _ (List.getElem_mem hk)
 unfold M.nM;simp only[ae.aU,af.aU,nR,kt hk,hte,beq_self_eq_true,Bool.not_true,Bool.and_false,Bool.or_self,cond_false]
 by_cases h2:t.Kind=2
 ·unfold Fv kT
  simp only[h2,Int.reduceBEq,Int.reduceEq,cond_true,cond_false,Bool.or_self,or_self,true_or,or_true,or_false,false_or,if_true,if_false,Um]
  cases (decide ((0:Int)<=v.Num)&&decide (v.Num<=(1:Int)))<;>rfl
 by_cases Z5:t.Kind=14
 ·unfold Fv kT
  simp only[Z5,Int.reduceBEq,Int.reduceEq,cond_true,cond_false,Bool.or_self,Bool.or_false,Bool.or_true,Bool.true_or,or_self,true_or,or_true,or_false,false_or,if_true,if_false]
  by_cases hn:(decide ((0:Int)<=v.Num)&&decide (v.Num<=(1:Int)))=true
  ·rw[hn]
   simp only[Bool.and_eq_true,decide_eq_true_eq] at hn;have hk2:=s14 Z5;have hin:inB v.Num t.Kids.length=true:=by unfold inB;rw[decide_eq_true hn.1,decide_eq_true (by omega)];rfl
   rw[aft (t.Kids.getD v.Num.toNat ae.zero) hl (adn _ (by omega)),hin,if_pos (show 0<=v.Num /\ v.Num<(t.Kids.length:Int) by omega)]
   simp
  ·simp only[Bool.not_eq_true] at hn
   rw[hn];rfl
 by_cases h13:t.Kind=13
 ·unfold Fv kT
  simp only[h13,Int.reduceBEq,Int.reduceEq,cond_true,cond_false,Bool.or_self,Bool.or_false,Bool.or_true,Bool.true_or,or_self,true_or,or_true,or_false,false_or,if_true,if_false];obtain ⟨k1,k2⟩:=s13 h13;have hin:inB (0:Int) t.Kids.length=true:=by rw[k1];rfl
  have ho:O8 (t.Kids.getD 0 ae.zero)=[t.Kids.getD 0 ae.zero]:=by unfold O8;rw[k2];rfl
  rw[Int.toNat_zero,adm 1 (t.Kids.getD 0 ae.zero) hl (adn 0 (by omega)),hin,ho]
  simp only[Option.isSome_some,Bool.true_or,Bool.and_self,cond_true,Option.getD_some]
  congr 1
  match hkk:v.Kids with
  | []=>
    by_cases hn:v.Num=0
    ·rw[hn];rfl
    ·rw[kb (show v.Num≠((([]:List af).length:Nat):Int) by simpa using hn)]
     rw[if_neg hn]
     by_cases h1:v.Num=1
     ·rw[if_pos h1];simp
     ·rw[if_neg h1];simp
  | [x]=>
    by_cases hn:v.Num=1
    ·rw[hn];simp[uG]
    ·rw[kb (show v.Num≠((([x]:List af).length:Nat):Int) by simpa using hn)]
     by_cases h1:v.Num=0
     ·rw[if_pos h1];simp
     ·rw[if_neg h1,if_neg hn];simp
  |x::y::r=>
   have e1:decide ((((x::y::r).length:Nat):Int)<=1)=false:=decide_eq_false (by simp only[List.length_cons];omega)
   rw[e1]
   by_cases h0:v.Num=0
   ·rw[if_pos h0];simp
   ·rw[if_neg h0]
    by_cases h1:v.Num=1
    ·rw[if_pos h1];simp
    ·rw[if_neg h1];simp
 by_cases h10:t.Kind=10
 ·unfold Fv kT
  have hc:M.kH v.Num=some (ahb v.Num):=rfl;simp only[h10,hc,Int.reduceBEq,Int.reduceEq,Int.reduceLE,cond_true,cond_false,Bool.or_self,or_self,true_or,or_true,or_false,false_or,and_false,and_true,if_true,if_false,Um,Option.getD_some]
 by_cases h12:t.Kind=12
 ·unfold Fv kT VE
  simp only[h12,Int.reduceBEq,Int.reduceEq,Int.reduceLE,cond_true,cond_false,Bool.or_self,Bool.or_false,Bool.or_true,Bool.true_or,or_self,true_or,or_true,or_false,false_or,and_false,and_true,if_true,if_false,ahN];have k1:=s12 h12;have hin:inB (0:Int) t.Kids.length=true:=by rw[k1];rfl
  rw[Int.toNat_zero,adm 8 (t.Kids.getD 0 ae.zero) hl (adn 0 (by omega)),hin]
  simp only[Option.isSome_some,Bool.true_or,Bool.and_self,cond_true,Option.getD_some,List.length_replicate]
  by_cases h8:v.Kids.length<=8
  ·rw[decide_eq_true (show (v.Kids.length:Int)<=8 by omega),decide_eq_true (show min v.Kids.length 8=v.Kids.length by omega),RQ _ _ _ (show min v.Kids.length 8=v.Kids.length by omega)]
  ·rw[decide_eq_false (show ¬(v.Kids.length:Int)<=8 by omega),decide_eq_false (show ¬min v.Kids.length 8=v.Kids.length by omega)];rfl
 by_cases h15:t.Kind=15 \/ t.Kind=16
 ·have e:=ahL (rec:=rec) (kids:=v.Kids) t.Kids hl (fun k h1 h2=>by rw[getD_lt h1,getD_lt h2];exact hrec _ (List.getElem_mem h1) _ (List.getElem_mem h2))
  unfold Fv kT VE
  rcases h15 with h |h
  all_goals
   simp only[h,e,Int.reduceBEq,Int.reduceEq,Int.reduceLE,cond_true,cond_false,Bool.or_self,Bool.or_false,Bool.or_true,Bool.true_or,or_self,true_or,or_true,or_false,false_or,and_false,and_true,if_true,if_false,ahN,Option.isSome_some,Bool.and_self,Option.getD_some]
 by_cases h17:t.Kind=17
 ·unfold Fv kT VE
  obtain ⟨b,er⟩:=VG t.Kind;simp only[h17] at er;simp only[h17,er,Int.reduceBEq,Int.reduceEq,Int.reduceLE,cond_true,cond_false,Bool.or_self,Bool.or_false,Bool.or_true,Bool.true_or,or_self,true_or,or_true,or_false,false_or,and_false,and_true,if_true,if_false,Option.isSome_some];have k1:=s17 h17;have hw:Go.IntKind.wrap .i64 ((t.aQ.length:Int)-1)=(t.aQ.length:Int)-1:=wrap_i64 (by omega) (by omega)
  rw[hw]
  by_cases hn:0<=v.Num /\ v.Num<(t.Kids.length:Int)
  ·have hin:inB v.Num t.Kids.length=true:=by unfold inB;rw[decide_eq_true hn.1,decide_eq_true hn.2];rfl
   rw[if_pos hn,decide_eq_true hn.1,decide_eq_true (show v.Num<=(t.aQ.length:Int)-1 by omega),aft (t.Kids.getD v.Num.toNat ae.zero) hl (adn _ (by omega)),hin]
   simp
  ·have:(decide ((0:Int)<=v.Num)&&decide (v.Num<=(t.aQ.length:Int)-1))=false:=by
    rw[Bool.and_eq_false_iff]
    by_cases h0:0<=v.Num
    ·right;exact decide_eq_false (by omega)
    ·left;exact decide_eq_false h0
   rw[if_neg hn,this];rfl
 simp only[not_or] at h15;have hkT:kT v.Num v.Kids.length t=some []:=by
  unfold kT;rw[if_neg h12,if_neg (by omega),if_neg h13,if_neg (by omega)]
 rw[hkT];simp only[Um,kb h2,kb Z5,kb h13,kb h10,kb htx,kb h12,kb h15.1,kb h15.2,kb h17,cond_false,Bool.or_self];obtain ⟨b,er⟩:=VG t.Kind;rw[er];simp only[Option.getD_some,Option.isSome_some,Bool.true_and,Bool.true_or,Bool.and_true,cond_true];rw[ai3 _ hlab];unfold Fv;rw[if_neg (by omega),if_neg h10]
 unfold VE Zu
 by_cases h18:t.Kind=18
 ·simp only[h18,Int.reduceBEq,Int.reduceEq,Int.reduceLE,cond_true,cond_false,or_self,true_or,or_true,or_false,false_or,and_false,and_true,if_true,if_false]
  cases (decide ((0:Int)<=v.Num)&&decide (v.Num<=Go.IntKind.wrap .i64 ((t.aQ.length:Int)-1)))<;>rfl
 by_cases h19:t.Kind=19
 ·simp only[h19,Int.reduceBEq,Int.reduceEq,Int.reduceLE,cond_true,cond_false,or_self,true_or,or_true,or_false,false_or,and_false,and_true,if_true,if_false]
  cases (decide ((0:Int)<=v.Num)&&decide (v.Num<=Go.IntKind.wrap .i64 (Go.V.Za .i64 (1:Int) (t.aQ.length:Int)-1)))<;>rfl
 by_cases h20:t.Kind=20 \/ t.Kind=21 \/ t.Kind=22 \/ t.Kind=23
 ·rcases h20 with h |h |h |h
  all_goals
   simp only[h,Int.reduceBEq,Int.reduceEq,Int.reduceLE,cond_true,cond_false,or_self,true_or,or_true,or_false,false_or,and_false,and_true,if_true,if_false]
   cases (decide ((0:Int)<=v.Num)&&decide (v.Num<=(2147483647:Int)))<;>rfl
 simp only[not_or] at h20;simp only[kb h18,kb h19,kb h20.1,kb h20.2.1,kb h20.2.2.1,kb h20.2.2.2,cond_false]
 by_cases h39:3<=t.Kind /\ t.Kind<=9
 ·rw[if_pos h39]
  cases (decide ((VD t.Kind).1<=v.Num)&&decide (v.Num<=(VD t.Kind).2))<;>rfl
 ·rw[if_neg h39,afp h39,if_neg (by omega),if_neg h19,if_neg (by omega)]
  cases (decide ((0:Int)<=v.Num)&&decide (v.Num<=(0:Int)))<;>rfl
end
theorem afu : ∀(m:Nat) (v:af) (t:ae),v.sz<m->v.sz<=1048576->t.sz<=1048576->jD t=true->M.qY m v t=some (kK v t)
 |0,v,t,h,_,_,_=>absurd h (Nat.not_lt_zero _)
 |m+1,v,t,h,hv,ht,hs=>by
  have ahP:∀x∈t.Kids,jD x=true:=by
   rw[Fp,Bool.and_eq_true,BZ,List.all_eq_true] at hs;exact hs.2
  have hrec:∀x∈v.Kids,∀y∈t.Kids,M.qY m x y=some (kK x y):=fun x hx y hy=>by
   have h1:=af.sQ hx;have h2:=ae.sQ hy;exact afu m x y (by omega) (by omega) (by omega) (ahP y hy)
  show M.nM (M.qY m) v t=_
  rw[aaW]
  by_cases hk:v.Kind=t.Kind
  ·by_cases h11:t.Kind=11
   ·have hh:headB v.Kind v.Num v.Text t=(MB v.Text&&(v.Num==0)):=by
     unfold headB Fv VE;simp only[kt hk,h11,kt (hk.trans h11),Int.reduceBEq,Int.reduceEq,Int.reduceLE,or_self,or_false,false_or,and_false,and_true,if_true,if_false,ahN,Bool.or_true,Bool.and_true,Bool.true_and];rw[Bool.and_comm]
    have hkT:kT v.Num v.Kids.length t=some []:=by
     unfold kT;rw[if_neg (by omega),if_neg (by omega),if_neg (by omega),if_neg (by omega)]
    rw[hh,hkT];unfold M.nM;simp only[ae.aU,af.aU,nR,kt hk,h11,kt (hk.trans h11),Um,ahI _ (af.adl hv),Int.reduceBEq,Bool.not_true,Bool.false_and,Bool.or_self,cond_true,cond_false,Option.isSome_some,Option.getD_some,Bool.and_self]
   ·by_cases hte:v.Text=[]
    ·rw[ahO v t hv ht hs hrec hk h11 hte]
     have:headB v.Kind v.Num v.Text t=Fv v.Num t:=by unfold headB;rw[kt hk,hte,ach];simp
     rw[this];try rfl
    ·have e:(v.Text==[])=false:=by
      cases h:v.Text with
      |nil=>exact absurd h hte
      |cons a r=>rfl
     have:headB v.Kind v.Num v.Text t=false:=by unfold headB;rw[e,kb h11];simp
     rw[this];unfold M.nM;rw[nR,nR,kt hk,kb h11,e];rfl
  ·have:headB v.Kind v.Num v.Text t=false:=by unfold headB;rw[kb hk];rfl
   rw[this];unfold M.nM;rw[nR,kb hk];rfl
end M
namespace M
open Go.V (inB CO aG cZ)
def afv (k:Int):Bool:=decide ((20:Int)<=k)&&decide (k<=23)
def Zv (t:ae):Bool:=(tOk t&& !tJ t)&& !Gn afv t
theorem afw (k:Int):([(20:Int),21,22,23].any fun x=>k==x)=afv k:=by
 unfold afv
 by_cases h:20<=k /\ k<=23
 ·have:k=20 \/ k=21 \/ k=22 \/ k=23:=by omega
  rcases this with rfl |rfl |rfl |rfl<;>rfl
 ·simp only[List.any_cons,List.any_nil,kb (show k≠20 by omega),kb (show k≠21 by omega),kb (show k≠22 by omega),kb (show k≠23 by omega),Bool.or_self]
  symm;rw[Bool.and_eq_false_iff]
  by_cases h0:(20:Int)<=k
  ·right;exact decide_eq_false (by omega)
  ·left;exact decide_eq_false h0
theorem ahQ (t:ae) (h:t.sz<=1048576):M.Aq t=some (Zv t):=by
 unfold M.Aq Zv;have e:M.sS t 20 23=some (Gn afv t):=aff 20 23 aG t (wR h) h;simp only[ae.aU,aiS t h,e,Option.getD_some,Option.isSome_some,Bool.true_or,Bool.and_true,cond_true,nR,tJ]
theorem ahR (t:ae) (h:t.sz<=1048576):M.rY t=some (Zv t):=by
 unfold M.rY Zv;have e:M.qA t [20,21,22,23]=some (Gn afv t):=by
  have:=afg [20,21,22,23] (by simp) aG t (wR h) h
  rw[Qy afw] at this;exact this
 simp only[ae.aU,afl t h,e,Option.getD_some,Option.isSome_some,Bool.true_or,Bool.and_true,cond_true,tJ]
def aed (s:ah):Bool:=s.Buffer.all fun v=>kK v s.cu
def stB (s:ah):Bool:=
 (((Zv s.cu&&((decide ((1:Int)<=s.Room)&&decide (s.Room<=(6:Int)))&& !(s.fB&& !(s.Room==1))))&&(decide ((s.Buffer.length:Int)<=s.Room)&&aed s))&&
   ((!(decide (s.L9<(0:Int)))&&(decide (s.L9<=s.Put)&&decide (s.Put<=(if s.fB then 1 else 1000000:Int))))&&
     !((s.Gone&&decide ((0:Int)<(s.Buffer.length:Int)))||(!s.Gone&& !(Go.IntKind.wrap .i64 (s.Put-s.L9)==(s.Buffer.length:Int))))))&&
 (((!s.fB|| !s.Shut)||(s.Put==1))||s.Gone)
theorem ah.tY {s:ah} {N:Nat} (h:s.sz<=N):s.cu.sz<=N:=by rw[ah.jP] at h;omega
theorem ah.D8 {s:ah} {N:Nat} (h:s.sz<=N):jv af.sz s.Buffer<=N:=by rw[ah.jP] at h;omega
theorem ah.agP {s:ah} {N:Nat} (h:s.sz<=N):s.Buffer.length<=N:=Nat.le_trans (dV _ _) (ah.D8 h)
theorem VH {t:ae} (h:tOk t=true):jD t=true:=by
 unfold tOk at h;rw[Bool.and_eq_true] at h;exact h.2
theorem ado {t:ae} (h:Zv t=true):tOk t=true:=by
 unfold Zv at h;simp only[Bool.and_eq_true] at h;exact h.1.1
theorem ahS (v:af) (t:ae) (hv:v.sz<=1048576) (ht:t.sz<=1048576) (ho:tOk t=true):M.Qh v t=some (kK v t):=by
 unfold M.Qh;have e:M.J8 v t=some (kK v t):=afu aG v t (wR hv) hv ht (VH ho);simp only[ae.aU,af.aU,afj t ht,ho,e,Option.getD_some,Option.isSome_some,Bool.true_or,Bool.and_self,cond_true,Bool.true_and]
theorem ahT (v:af) (t:ae) (hv:v.sz<=1048576) (ht:t.sz<=1048576) (ho:tOk t=true):M.Y6 v t=some (kK v t):=
 afs aG v t (wR hv) hv ht (VH ho)
theorem aee (l:List af) (t:ae) (most:Int) (hl:jv af.sz l<=1048576) (ht:t.sz<=1048576) (ho:tOk t=true):
 M.Ar l t most=some (decide ((l.length:Int)<=most)&&l.all fun v=>kK v t):=by
 have hlen:l.length<=1048576:=Nat.le_trans (dV _ _) hl;have e:=VB (p:=fun v=>kK v t) (F:=fun f i=>M.jH l f i t) (e:=()) (b:=false) l (by omega) (fun f k hk=>by
  show M.jH l (f+1) (k:Int) t=_
  rw[M.jH];simp only[ae.aU,af.aU,getD_lt hk,ahS l[k] t (aaP hl (List.getElem_mem hk)) ht ho,Int.toNat_natCast,dS,Int.ofNat_lt,hk,decide_true,cond_true,Bool.true_or,Bool.true_and,Bool.and_true,gW hk (by omega:l.length<2^62),Option.getD_some,Option.isSome_some]
  cases kK l[k] t<;>rfl) (fun f=>by
  show M.jH l (f+1) _ t=_
  rw[M.jH];simp)
 have e':M.jH l aG 0 t=_:=e;unfold M.Ar;rw[ae.aU,e']
 by_cases h:(l.length:Int)<=most
 ·rw[decide_eq_true h,decide_eq_false (show ¬most<(l.length:Int) by omega)]
  cases l.all fun v=>kK v t<;>rfl
 ·rw[decide_eq_false h,decide_eq_true (show most<(l.length:Int) by omega)];rfl
theorem Zw (s:ah) (h:s.sz<=1048576) (ho:tOk s.cu=true):M.dP s.Buffer s=some (!aed s):=by
 have hlen:=ah.agP h;have c:∀v∈s.Buffer,M.qF v s=some (!kK v s.cu):=fun v hv=>by
  unfold M.qF;rw[af.aU,ae.aU,ahT v s.cu (aaP (ah.D8 h) hv) (ah.tY h) ho];rfl
 have e:=contains_of (p:=fun v=> !kK v s.cu) (F:=M.dA s.Buffer s (s.Buffer.length:Int)) s.Buffer (by omega) (fun f k hk=>by
  rw[M.dA];simp only[af.aU,getD_lt hk,c _ (List.getElem_mem hk),Int.toNat_natCast,dS,Int.ofNat_lt,hk,decide_true,cond_true,Bool.true_or,Bool.true_and,Bool.and_true,gW hk (by omega:s.Buffer.length<2^62),Option.getD_some,Option.isSome_some]) (fun f=>by
  rw[M.dA];simp)
 have e2:M.fF s.Buffer s=_:=e;unfold M.dP;rw[e2];simp only[Option.getD_some,Option.isSome_some,Bool.and_true,cond_true];rw[index_ge,aed,List.not_all_eq_any_not]
theorem aaD (s:ah) (h:s.sz<=1048576):M.uA s=some (stB s):=by
 unfold M.uA stB;have ht:=ahQ s.cu (ah.tY h);simp only[ae.aU,ht,Option.getD_some,Option.isSome_some,Bool.and_true,nR]
 cases hT:Zv s.cu
 ·simp
 ·rw[aee s.Buffer s.cu s.Room (ah.D8 h) (ah.tY h) (ado hT)]
  simp only[Option.getD_some,Option.isSome_some,Bool.true_or,Bool.and_self,cond_true,Bool.not_true,Bool.false_or,Bool.true_and];have em:(decide (s.Put<=(if s.fB then 1 else 1000000:Int)))=(decide (s.Put<=(1000000:Int))&& !(s.fB&&decide ((1:Int)<s.Put))):=by
   cases s.fB
   ·simp
   ·simp only[if_true,Bool.true_and]
    by_cases h1:s.Put<=1
    ·rw[decide_eq_true h1,decide_eq_true (show s.Put<=1000000 by omega),decide_eq_false (show ¬(1:Int)<s.Put by omega)];rfl
    ·rw[decide_eq_false h1,decide_eq_true (show (1:Int)<s.Put by omega)];simp
  rw[em]
  generalize (decide ((1:Int)<=s.Room)&&decide (s.Room<=(6:Int)))=b1
  generalize (s.Room==1)=b2
  generalize decide ((s.Buffer.length:Int)<=s.Room)=b3
  have:(s.Buffer.all fun v=>kK v s.cu)=aed s:=rfl
  rw[this]
  generalize aed s=b4
  generalize decide (s.L9<(0:Int))=b5
  generalize decide (s.L9<=s.Put)=b6
  generalize decide (s.Put<=(1000000:Int))=b7
  generalize decide ((1:Int)<s.Put)=b8
  generalize decide ((0:Int)<(s.Buffer.length:Int))=b9
  generalize (Go.IntKind.wrap .i64 (s.Put-s.L9)==(s.Buffer.length:Int))=b10
  generalize (s.Put==1)=b11
  cases s.fB<;>cases s.Gone<;>cases s.Shut<;>cases b1<;>cases b2<;>cases b3<;>cases b4<;>cases b5<;>cases b6<;>cases b7<;>cases b8<;>cases b9<;>cases b10<;>rfl
theorem aaE (s:ah) (h:s.sz<=1048576):M.uD s=some (stB s):=by
 unfold M.uD stB;have ht:=ahR s.cu (ah.tY h);simp only[ae.aU,ah.aU,ht,Option.getD_some,Option.isSome_some,Bool.and_true,nR]
 cases hT:Zv s.cu
 ·simp
 ·have em:M.EU s=some (if s.fB then 1 else 1000000:Int):=by unfold M.EU;cases s.fB<;>rfl
  have e3:decide (s.Room<(s.Buffer.length:Int))= !decide ((s.Buffer.length:Int)<=s.Room):=by
   by_cases h1:(s.Buffer.length:Int)<=s.Room
   ·rw[decide_eq_true h1,decide_eq_false (show ¬s.Room<(s.Buffer.length:Int) by omega)];rfl
   ·rw[decide_eq_false h1,decide_eq_true (show s.Room<(s.Buffer.length:Int) by omega)];rfl
  rw[Zw s h (ado hT),em,e3];simp only[Option.getD_some,Option.isSome_some,Bool.true_or,Bool.and_self,cond_true,Bool.not_true,Bool.false_or,Bool.true_and]
  generalize (decide ((1:Int)<=s.Room)&&decide (s.Room<=(6:Int)))=b1
  generalize (s.Room==1)=b2
  generalize decide ((s.Buffer.length:Int)<=s.Room)=b3
  generalize aed s=b4
  generalize decide (s.L9<(0:Int))=b5
  generalize (decide (s.L9<=s.Put)&&decide (s.Put<=(if s.fB then 1 else 1000000:Int)))=b6
  generalize decide ((0:Int)<(s.Buffer.length:Int))=b9
  generalize (Go.IntKind.wrap .i64 (s.Put-s.L9)==(s.Buffer.length:Int))=b10
  generalize (s.Put==1)=b11
  cases s.fB<;>cases s.Gone<;>cases s.Shut<;>cases b1<;>cases b2<;>cases b3<;>cases b4<;>cases b5<;>cases b6<;>cases b9<;>cases b10<;>rfl
end M
