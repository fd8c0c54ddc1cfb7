/-
  A TEXT'S FIRST CODE POINT, as the reference reckons it, beside the decoder of the language: in plain words.
-/
import Derived.Test.YtjlkjnhhpmoenaaGreatDoorXQTP
import Derived.Lib.MapLaws
set_option linter.unusedVariables false
set_option linter.unusedSimpArgs false
namespace M
open Go Go.V Go.Lib
theorem u8w (n:Nat) (h:n<256):IntKind.wrap .u8 (n:Int)=(n:Int):=by
 have:∀m:Fin 256,IntKind.wrap .u8 ((m.val:Nat):Int)=((m.val:Nat):Int):=by decide+kernel
 exact this ⟨n,h⟩
theorem abU (n:Nat) (h:n<2^62):IntKind.wrap .i64 (n:Int)=(n:Int):=wrap_i64 (by omega) (by omega)
theorem ahT (n:Nat) (h:n<2^62):yB .and .i64 (n:Int) 63=((n%64:Nat):Int):=by
 have e:(BitVec.ofInt 64 (n:Int)&&& BitVec.ofInt 64 (63:Int)).toNat=n%64:=by
  rw[BitVec.toNat_and];have h1:(BitVec.ofInt 64 (n:Int)).toNat=n:=by rw[BitVec.toNat_ofInt];omega
  have h2:(BitVec.ofInt 64 (63:Int)).toNat=63:=by decide
  rw[h1,h2];exact Nat.and_two_pow_sub_one_eq_mod n 6
 show IntKind.wrap .i64 (((BitVec.ofInt 64 (n:Int)&&& BitVec.ofInt 64 (63:Int)).toNat:Nat):Int)=_
 rw[e,abU _ (by omega)]
theorem akr (x:UInt8):yB .and .u8 ((x.toNat:Nat):Int) 63=((x.toNat%64:Nat):Int):=by
 have:∀m:Fin 256,yB .and .u8 ((m.val:Nat):Int) 63=((m.val%64:Nat):Int):=by decide+kernel
 exact this ⟨x.toNat,x.toNat_lt⟩
theorem alJ (n r:Nat) (hr:r<64) (h:n<2^40):yB .or .i64 ((n*64:Nat):Int) (r:Int)=((n*64+r:Nat):Int):=by
 have e:(BitVec.ofInt 64 ((n*64:Nat):Int)|||BitVec.ofInt 64 (r:Int)).toNat=n*64+r:=by
  rw[BitVec.toNat_or];have h1:(BitVec.ofInt 64 ((n*64:Nat):Int)).toNat=n*64:=by rw[BitVec.toNat_ofInt];omega
  have h2:(BitVec.ofInt 64 (r:Int)).toNat=r:=by rw[BitVec.toNat_ofInt];omega
  rw[h1,h2];have:=Nat.two_pow_add_eq_or_of_lt (b:=r) (i:=6) (by simpa using hr) n
  rw[show (2:Nat)^6=64 by rfl] at this
  rw[Nat.mul_comm n 64,<-this]
 show IntKind.wrap .i64 (((BitVec.ofInt 64 ((n*64:Nat):Int)|||BitVec.ofInt 64 (r:Int)).toNat:Nat):Int)=_
 rw[e,abU _ (by omega)]
theorem amE (n:Nat) (h:n<2^40):abD .i64 (n:Int) 6=((n*64:Nat):Int):=by
 have:abD .i64 (n:Int) 6=IntKind.wrap .i64 ((n:Int)*64):=rfl;rw[this,show (n:Int)*64=((n*64:Nat):Int) by omega,abU _ (by omega)]
theorem amF (n:Nat):Rz .i64 (n:Int) 6=((n/64:Nat):Int):=by
 have:Rz .i64 (n:Int) 6=(n:Int).fdiv 64:=rfl;rw[this,Int.fdiv_eq_ediv_of_nonneg _ (by omega)];omega
theorem alK (n:Nat):Rz .i64 (n:Int) 12=((n/4096:Nat):Int):=by
 have:Rz .i64 (n:Int) 12=(n:Int).fdiv 4096:=rfl;rw[this,Int.fdiv_eq_ediv_of_nonneg _ (by omega)];omega
theorem alL (n:Nat):Rz .i64 (n:Int) 18=((n/262144:Nat):Int):=by
 have:Rz .i64 (n:Int) 18=(n:Int).fdiv 262144:=rfl;rw[this,Int.fdiv_eq_ediv_of_nonneg _ (by omega)];omega
theorem byt (k:Int) (m:Nat) (h:k=(m:Int)) (hm:m<256):IntKind.wrap .u8 (IntKind.wrap .i64 k)=(m:Int):=by
 subst h;rw[abU m (by omega),u8w m hm]
theorem OZ (m:Nat) (h:m<256):I8 (m:Int)=true:=by unfold I8;simp;omega
theorem afF (m:Nat):CS (m:Int)=UInt8.ofNat m:=rfl
def chB (n:Nat):List UInt8:=
 if n<128 then [UInt8.ofNat n]
 else if n<2048 then [UInt8.ofNat (192+n/64),UInt8.ofNat (128+n%64)]
 else if n<65536 then [UInt8.ofNat (224+n/4096),UInt8.ofNat (128+n/64%64),UInt8.ofNat (128+n%64)]
 else [UInt8.ofNat (240+n/262144),UInt8.ofNat (128+n/4096%64),UInt8.ofNat (128+n/64%64),UInt8.ofNat (128+n%64)]
theorem aks (n:Nat) (h:n<=1114111):M.uC (n:Int)=some (chB n):=by
 have ha:=ahT n (by omega)
 have hb:=ahT (n/64) (by omega)
 have hc:=ahT (n/4096) (by omega)
 unfold M.uC chB;rw[amF,alK,alL,hb,hc,ha]
 by_cases h1:n<128
 ·rw[if_pos h1,u8w n (by omega),OZ n (by omega),afF]
  have:decide ((n:Int)<128)=true:=by simp;omega
  rw[this];rfl
 ·rw[if_neg h1]
  have d1:decide ((n:Int)<128)=false:=by simp;omega
  rw[d1];have b0:=byt (128+((n%64:Nat):Int)) (128+n%64) (by omega) (by omega)
  rw[b0]
  by_cases h2:n<2048
  ·have d2:decide ((n:Int)<2048)=true:=by simp;omega
   have b1:=byt (192+((n/64:Nat):Int)) (192+n/64) (by omega) (by omega)
   rw[if_pos h2,d2,b1];simp only[cond_false,cond_true,OZ _ (show 192+n/64<256 by omega),OZ _ (show 128+n%64<256 by omega),afF,Bool.and_self,List.map_id']
  ·rw[if_neg h2]
   have d2:decide ((n:Int)<2048)=false:=by simp;omega
   have b2:=byt (128+((n/64%64:Nat):Int)) (128+n/64%64) (by omega) (by omega)
   rw[d2,b2]
   by_cases h3:n<65536
   ·have d3:decide ((n:Int)<65536)=true:=by simp;omega
    have b1:=byt (224+((n/4096:Nat):Int)) (224+n/4096) (by omega) (by omega)
    rw[if_pos h3,d3,b1];simp only[cond_false,cond_true,OZ _ (show 224+n/4096<256 by omega),OZ _ (show 128+n/64%64<256 by omega),OZ _ (show 128+n%64<256 by omega),afF,Bool.and_self,List.map_id']
   ·have d3:decide ((n:Int)<65536)=false:=by simp;omega
    have b1:=byt (240+((n/262144:Nat):Int)) (240+n/262144) (by omega) (by omega)
    have b3:=byt (128+((n/4096%64:Nat):Int)) (128+n/4096%64) (by omega) (by omega)
    rw[if_neg h3,d3,b1,b3];simp only[cond_false,cond_true,OZ _ (show 240+n/262144<256 by omega),OZ _ (show 128+n/4096%64<256 by omega),OZ _ (show 128+n/64%64<256 by omega),OZ _ (show 128+n%64<256 by omega),afF,Bool.and_self,List.map_id']
def WC (n:Nat):List UInt8->Nat
 | []=>n
 |x::r=>WC (n*64+x.toNat%64) r
theorem Yf (s:List UInt8) (many:Nat) (hm:many<=s.length) (hs:s.length<=1048576):∀(d f n i:Nat),i+d=many->d<=3->(n+1)*64^d<=2^24->
 M.lS s (many:Int) (f+d+1) (n:Int) (i:Int)=some (s,(many:Int),((WC n ((s.take many).drop i):Nat):Int))
 |0,f,n,i,hi,_,hn=>by
  have d:decide ((i:Int)<(many:Int))=false:=by simp;omega
  have e:(s.take many).drop i=[]:=List.drop_eq_nil_of_le (by rw[List.length_take];omega)
  rw[e];simp only[M.lS,d,cond_false,WC]
 |d+1,f,n,i,hi,hd,hn=>by
  have d1:decide ((i:Int)<(many:Int))=true:=by simp;omega
  have hin:inB (i:Int) s.length=true:=by rw[dK];simp;omega
  have hil:i<(s.take many).length:=by rw[List.length_take];omega
  have hg:s.getD i 0=(s.take many)[i]:=by rw[getD_lt (by omega),List.getElem_take]
  have hp:64^(d+1)=64*64^d:=by rw[Nat.pow_succ,Nat.mul_comm]
  have hn2:n<2^24:=by
   have:(n+1)*1<=(n+1)*64^(d+1):=Nat.mul_le_mul_left _ (Nat.pos_of_ne_zero (by simp))
   omega
  have hb:((s.getD i 0).toNat%64)<64:=Nat.mod_lt _ (by omega)
  have hstep:(n*64+(s.getD i 0).toNat%64+1)*64^d<=2^24:=by
   have:(n*64+(s.getD i 0).toNat%64+1)*64^d<=((n+1)*64)*64^d:=Nat.mul_le_mul_right _ (by omega)
   rw[hp,<-Nat.mul_assoc] at hn;omega
  have ih:=Yf s many hm hs d f (n*64+(s.getD i 0).toNat%64) (i+1) (by omega) (by omega) hstep
  rw[jS hil,WC];rw[show f+(d+1)+1=(f+d+1)+1 by omega,M.lS]
  rw[d1,Int.toNat_natCast,hin];simp only[cond_true,Bool.and_true];rw[amE n (by omega),akr,abU ((s.getD i 0).toNat%64) (by omega),alJ n _ hb (by omega),fZ (show i<many by omega) (by omega)]
  rw[ih,hg]
end M
namespace M
open Go Go.V Go.Lib
def ug (b:Nat):Nat:=if 240<=b then 4 else if 224<=b then 3 else if 192<=b then 2 else 1
def n0B (b:Nat):Nat:=if 240<=b then b-240 else if 224<=b then b-224 else if 192<=b then b-192 else b
def RS (n:Nat):Bool:=decide (n<=55295)||(decide (57344<=n)&&decide (n<=1114111))
def ptB (s:List UInt8):Nat×Nat:=
 if s.length<ug (s.getD 0 0).toNat then (0,0)
 else if RS (WC (n0B (s.getD 0 0).toNat) ((s.take (ug (s.getD 0 0).toNat)).drop 1))&&(chB (WC (n0B (s.getD 0 0).toNat) ((s.take (ug (s.getD 0 0).toNat)).drop 1))==s.take (ug (s.getD 0 0).toNat)) then
  (WC (n0B (s.getD 0 0).toNat) ((s.take (ug (s.getD 0 0).toNat)).drop 1),ug (s.getD 0 0).toNat)
 else (0,0)
theorem akt (n:Nat):M.lu (n:Int)=some (RS n):=by
 unfold M.lu RS;have h1:decide ((0:Int)<=(n:Int))=true:=by simp
 have h2:decide ((n:Int)<=55295)=decide (n<=55295):=by congr 1;exact propext ⟨fun h=>by omega,fun h=>by omega⟩
 have h3:decide ((57344:Int)<=(n:Int))=decide (57344<=n):=by congr 1;exact propext ⟨fun h=>by omega,fun h=>by omega⟩
 have h4:decide ((n:Int)<=1114111)=decide (n<=1114111):=by congr 1;exact propext ⟨fun h=>by omega,fun h=>by omega⟩
 rw[h1,h2,h3,h4,Bool.true_and]
theorem ajq {n:Nat} (h:RS n=true):n<=1114111:=by
 unfold RS at h;simp only[Bool.or_eq_true,Bool.and_eq_true,decide_eq_true_eq] at h;omega
theorem Jc (s:List UInt8) (m n:Nat) (hm:m<=s.length) (q9:Bool) (h9:q9=true):
 (bif ((!(Option.getD (M.lu (n:Int)) Inhabited.default))||(!((Option.getD (M.uC (n:Int)) Inhabited.default)==(List.drop (Int.toNat (0:Int)) (List.take (Int.toNat (m:Int)) s))))) then
   (bif (((Go.V.xH (0:Int) (m:Int) (List.length s))||(!((!(Option.getD (M.lu (n:Int)) Inhabited.default))==false)))&&(((Option.isSome (M.uC (n:Int)))||(!((!(Option.getD (M.lu (n:Int)) Inhabited.default))==false)))&&((Option.isSome (M.lu (n:Int)))&&q9))) then some ((0:Int),(0:Int)) else none)
 else
  (bif (((Go.V.xH (0:Int) (m:Int) (List.length s))||(!((!(Option.getD (M.lu (n:Int)) Inhabited.default))==false)))&&(((Option.isSome (M.uC (n:Int)))||(!((!(Option.getD (M.lu (n:Int)) Inhabited.default))==false)))&&((Option.isSome (M.lu (n:Int)))&&q9))) then some ((n:Int),(m:Int)) else none))=
 some (if RS n&&(chB n==s.take m) then (((n:Nat):Int),((m:Nat):Int)) else (0,0)):=by
 subst h9;have hsl:xH (0:Int) (m:Int) s.length=true:=by unfold xH;simp;omega
 rw[akt,hsl,Int.toNat_natCast];simp only[Option.getD_some,Option.isSome_some,Bool.true_or,Bool.and_true,Bool.true_and]
 cases hc:RS n
 ·simp
 ·rw[aks n (ajq hc)]
  simp only[Option.getD_some,Option.isSome_some,Bool.not_true,Bool.false_or,Int.toNat_zero,List.drop_zero,Bool.true_or,Bool.and_self,cond_true,Bool.true_and]
  cases hb:(chB n==s.take m)<;>simp
theorem ajr (s:List UInt8) (hne:s≠[]) (hs:s.length<=1048576):M.zt s=some (((ptB s).1:Int),((ptB s).2:Int)):=by
 have hl:0<s.length:=List.length_pos_iff.2 hne;have e0:(s==[])=false:=by cases s with
  |nil=>exact absurd rfl hne
  |cons a r=>rfl
 have hin:inB (0:Int) s.length=true:=by have:=dK 0 s.length;simpa [hl] using this
 have hb:(s.getD 0 0).toNat<256:=UInt8.toNat_lt _;obtain ⟨f,hf⟩:∃f,aG=f+3+1:=⟨aG-4,by have:=yD (n:=100) (by omega);omega⟩
 have key:∀(m n0:Nat),ug (s.getD 0 0).toNat=m->n0B (s.getD 0 0).toNat=n0->1<=m->m<=4->(n0+1)*64^(m-1)<=2^24->¬s.length<m->M.lS s (m:Int) aG (n0:Int) 1=some (s,(m:Int),((WC n0 ((s.take m).drop 1):Nat):Int)):=fun m n0 h1 h2 h3 h4 h5 h6=>by
  have:=Yf s m (by omega) hs (m-1) (f+4-m) n0 1 (by omega) (by omega) h5
  rw[hf,show f+3+1=(f+4-m)+(m-1)+1 by omega]
  exact this
 unfold M.zt;rw[e0,Int.toNat_zero];have hw:IntKind.wrap .i64 ((s.getD 0 0).toNat:Int)=((s.getD 0 0).toNat:Int):=abU _ (by omega)
 unfold ptB
 by_cases LZ:240<=(s.getD 0 0).toNat
 ·have ahU:decide ((240:Int)<=((s.getD 0 0).toNat:Int))=true:=decide_eq_true (by omega)
  have hm:ug (s.getD 0 0).toNat=4:=by unfold ug;rw[if_pos LZ]
  have hn:n0B (s.getD 0 0).toNat=(s.getD 0 0).toNat-240:=by unfold n0B;rw[if_pos LZ]
  have hw2:IntKind.wrap .i64 (((s.getD 0 0).toNat:Int)-240)=(((s.getD 0 0).toNat-240:Nat):Int):=by rw[show ((s.getD 0 0).toNat:Int)-240=(((s.getD 0 0).toNat-240:Nat):Int) by omega];exact abU _ (by omega)
  rw[hm,hn];simp only[ahU,cond_false,cond_true,hw,hw2,hin,Bool.true_or,Bool.and_true,Bool.or_true,Bool.true_and,Bool.not_true,Bool.or_false]
  by_cases hsl:s.length<4
  ·have d:decide ((s.length:Int)<4)=true:=by simp;omega
   rw[if_pos hsl,d];rfl
  ·have d:decide ((s.length:Int)<4)=false:=by simp;omega
   have:=key 4 _ hm hn (by omega) (by omega) (by omega) hsl
   rw[if_neg hsl,d];simp only[cond_false];rw[show (4:Int)=((4:Nat):Int) from rfl,this]
   refine (Jc s 4 _ (by omega) _ (by rfl)).trans ?_
   split<;>rfl
 ·have ahU:decide ((240:Int)<=((s.getD 0 0).toNat:Int))=false:=decide_eq_false (by omega)
  by_cases Ub:224<=(s.getD 0 0).toNat
  ·have ajs:decide ((224:Int)<=((s.getD 0 0).toNat:Int))=true:=decide_eq_true (by omega)
   have hm:ug (s.getD 0 0).toNat=3:=by unfold ug;rw[if_neg LZ,if_pos Ub]
   have hn:n0B (s.getD 0 0).toNat=(s.getD 0 0).toNat-224:=by unfold n0B;rw[if_neg LZ,if_pos Ub]
   have hw2:IntKind.wrap .i64 (((s.getD 0 0).toNat:Int)-224)=(((s.getD 0 0).toNat-224:Nat):Int):=by rw[show ((s.getD 0 0).toNat:Int)-224=(((s.getD 0 0).toNat-224:Nat):Int) by omega];exact abU _ (by omega)
   rw[hm,hn];simp only[ahU,ajs,cond_false,cond_true,hw,hw2,hin,Bool.true_or,Bool.and_true,Bool.or_true,Bool.true_and,Bool.not_true,Bool.not_false,Bool.or_false]
   by_cases hsl:s.length<3
   ·have d:decide ((s.length:Int)<3)=true:=by simp;omega
    rw[if_pos hsl,d];rfl
   ·have d:decide ((s.length:Int)<3)=false:=by simp;omega
    have:=key 3 _ hm hn (by omega) (by omega) (by omega) hsl
    rw[if_neg hsl,d];simp only[cond_false];rw[show (3:Int)=((3:Nat):Int) from rfl,this]
    refine (Jc s 3 _ (by omega) _ (by rfl)).trans ?_
    split<;>rfl
  ·have ajs:decide ((224:Int)<=((s.getD 0 0).toNat:Int))=false:=decide_eq_false (by omega)
   by_cases abV:192<=(s.getD 0 0).toNat
   ·have aku:decide ((192:Int)<=((s.getD 0 0).toNat:Int))=true:=decide_eq_true (by omega)
    have hm:ug (s.getD 0 0).toNat=2:=by unfold ug;rw[if_neg LZ,if_neg Ub,if_pos abV]
    have hn:n0B (s.getD 0 0).toNat=(s.getD 0 0).toNat-192:=by unfold n0B;rw[if_neg LZ,if_neg Ub,if_pos abV]
    have hw2:IntKind.wrap .i64 (((s.getD 0 0).toNat:Int)-192)=(((s.getD 0 0).toNat-192:Nat):Int):=by rw[show ((s.getD 0 0).toNat:Int)-192=(((s.getD 0 0).toNat-192:Nat):Int) by omega];exact abU _ (by omega)
    rw[hm,hn];simp only[ahU,ajs,aku,cond_false,cond_true,hw,hw2,hin,Bool.true_or,Bool.and_true,Bool.or_true,Bool.true_and,Bool.not_true,Bool.not_false,Bool.or_false]
    by_cases hsl:s.length<2
    ·have d:decide ((s.length:Int)<2)=true:=by simp;omega
     rw[if_pos hsl,d];rfl
    ·have d:decide ((s.length:Int)<2)=false:=by simp;omega
     have:=key 2 _ hm hn (by omega) (by omega) (by omega) hsl
     rw[if_neg hsl,d];simp only[cond_false];rw[show (2:Int)=((2:Nat):Int) from rfl,this]
     refine (Jc s 2 _ (by omega) _ (by rfl)).trans ?_
     split<;>rfl
   ·have aku:decide ((192:Int)<=((s.getD 0 0).toNat:Int))=false:=decide_eq_false (by omega)
    have hm:ug (s.getD 0 0).toNat=1:=by unfold ug;rw[if_neg LZ,if_neg Ub,if_neg abV]
    have hn:n0B (s.getD 0 0).toNat=(s.getD 0 0).toNat:=by unfold n0B;rw[if_neg LZ,if_neg Ub,if_neg abV]
    rw[hm,hn];simp only[ahU,ajs,aku,cond_false,cond_true,hw,hin,Bool.true_or,Bool.and_true,Bool.or_true,Bool.true_and,Bool.not_true,Bool.not_false,Bool.or_false];have hsl:¬s.length<1:=by omega
    have d:decide ((s.length:Int)<1)=false:=by simp;omega
    have:=key 1 _ hm hn (by omega) (by omega) (by omega) hsl
    rw[if_neg hsl,d];simp only[cond_false];rw[show (1:Int)=((1:Nat):Int) from rfl] at this ⊢
    rw[this];refine (Jc s 1 _ (by omega) _ (by rfl)).trans ?_
    split<;>rfl
end M
namespace M
open Go Go.V Go.Lib
def chN (n:Nat):List Nat:=
 if n<128 then [n]
 else if n<2048 then [192+n/64,128+n%64]
 else if n<65536 then [224+n/4096,128+n/64%64,128+n%64]
 else [240+n/262144,128+n/4096%64,128+n/64%64,128+n%64]
theorem ajt (n:Nat):chB n=(chN n).map UInt8.ofNat:=by
 unfold chB chN
 repeat' split
 all_goals rfl
theorem akv (n:Nat) (h:n<=1114111):∀x∈chN n,x<256:=by
 unfold chN
 repeat' split
 all_goals (intro x hx;simp only[List.mem_cons,List.not_mem_nil,or_false] at hx;omega)
theorem adk : ∀(l:List Nat) (s:List UInt8),(∀x∈l,x<256)->(l.map UInt8.ofNat=s↔l=s.map UInt8.toNat)
 | [],[],_=>by simp
 | [],y::s,_=>by simp
 |x::l,[],_=>by simp
 |x::l,y::s,h=>by
  have ih:=adk l s fun z hz=>h z (List.mem_cons_of_mem _ hz)
  have hx:=h x (List.mem_cons_self ..);simp only[List.map_cons,List.cons.injEq,ih];refine and_congr_left fun _=>⟨fun e=> ?_,fun e=> ?_⟩
  ·rw[<-e];simp;omega
  ·rw[e];simp
theorem afH (n:Nat) (h:n<=1114111) (s:List UInt8):(chB n==s)=true↔chN n=s.map UInt8.toNat:=by
 rw[beq_iff_eq,ajt];exact adk _ _ (akv n h)
theorem alM (n a:Nat):chN n=[a]↔n<128 /\ n=a:=by
 unfold chN
 repeat' split
 all_goals (simp only[List.cons.injEq,and_true,reduceCtorEq,and_false,false_iff,not_and];omega)
theorem alN (n a b:Nat):chN n=[a,b]↔128<=n /\ n<2048 /\ 192+n/64=a /\ 128+n%64=b:=by
 unfold chN
 repeat' split
 all_goals (simp only[List.cons.injEq,and_true,reduceCtorEq,and_false,false_iff,not_and];omega)
theorem alO (n a b c:Nat):chN n=[a,b,c]↔2048<=n /\ n<65536 /\ 224+n/4096=a /\ 128+n/64%64=b /\ 128+n%64=c:=by
 unfold chN
 repeat' split
 all_goals (simp only[List.cons.injEq,and_true,reduceCtorEq,and_false,false_iff,not_and];omega)
theorem alP (n a b c d:Nat):chN n=[a,b,c,d]↔65536<=n /\ 240+n/262144=a /\ 128+n/4096%64=b /\ 128+n/64%64=c /\ 128+n%64=d:=by
 unfold chN
 repeat' split
 all_goals (simp only[List.cons.injEq,and_true,reduceCtorEq,and_false,false_iff,not_and];omega)
theorem ahV (n:Nat):RS n=true↔n<=55295 \/ (57344<=n /\ n<=1114111):=by unfold RS;simp
theorem FX (n:Nat) (s:List UInt8):(RS n&&(chB n==s))=true↔(n<=55295 \/ (57344<=n /\ n<=1114111)) /\ chN n=s.map UInt8.toNat:=by
 rw[Bool.and_eq_true,ahV];constructor
 ·rintro ⟨h1,h2⟩;exact ⟨h1,(afH n (by omega) s).1 h2⟩
 ·rintro ⟨h1,h2⟩;exact ⟨h1,(afH n (by omega) s).2 h2⟩
theorem akw (s:List UInt8) (hne:s≠[]):(ptB s).2=if (decodeL s).1=65533 /\ (decodeL s).2=1 then 0 else (decodeL s).2:=by
 have hl:0<s.length:=List.length_pos_iff.2 hne;have k0:=(s.getD 0 0).toNat_lt;have k1:=(s.getD 1 0).toNat_lt;have k2:=(s.getD 2 0).toNat_lt;have k3:=(s.getD 3 0).toNat_lt;have shp:=decodeN_shape s.length (s.getD 0 0).toNat (s.getD 1 0).toNat (s.getD 2 0).toNat (s.getD 3 0).toNat;rw[decodeL_N]
 generalize hD:decodeN s.length (s.getD 0 0).toNat (s.getD 1 0).toNat (s.getD 2 0).toNat (s.getD 3 0).toNat=D at shp ⊢
 have hD':=hD;unfold decodeN at hD;unfold ptB
 by_cases LZ:240<=(s.getD 0 0).toNat
 ·have hm:ug (s.getD 0 0).toNat=4:=by unfold ug;rw[if_pos LZ]
  have hn:n0B (s.getD 0 0).toNat=(s.getD 0 0).toNat-240:=by unfold n0B;rw[if_pos LZ]
  rw[hm,hn]
  by_cases hsl:s.length<4
  ·rw[if_pos hsl]
   rcases shp with ⟨c,e⟩ |⟨c1,c2,c3,cv,e⟩ |⟨c1,c2,c3,c4,cv,cs,e⟩ |⟨c1,c2,c3,c4,c5,cv,cw,e⟩ |e
   all_goals first |(exfalso;omega) |(rw[e];rfl)
  ·rw[if_neg hsl,takeD s (by omega)]
   simp only[List.drop_succ_cons,List.drop_zero,WC]
   generalize hN:(((s.getD 0 0).toNat-240)*64+(s.getD 1 0).toNat%64)*64+(s.getD 2 0).toNat%64=N1
   by_cases rJ:(RS (N1*64+(s.getD 3 0).toNat%64)&&(chB (N1*64+(s.getD 3 0).toNat%64)==[s.getD 0 0,s.getD 1 0,s.getD 2 0,s.getD 3 0]))=true
   ·rw[if_pos rJ]
    rw[FX] at rJ;simp only[List.map_cons,List.map_nil,alP] at rJ;obtain ⟨q1,q2,q3,q4,q5,q6⟩:=rJ;rw[if_neg (by omega),if_neg (by omega),if_neg (by omega),if_pos ⟨by omega,⟨by omega,by omega⟩,⟨by omega,by omega⟩,by omega,by omega⟩,if_pos ⟨by omega,by omega⟩] at hD
    rw[<-hD,if_neg (by simp)]
   ·rw[if_neg rJ]
    rw[FX] at rJ;simp only[List.map_cons,List.map_nil,alP] at rJ
    rcases shp with ⟨c,e⟩ |⟨c1,c2,c3,cv,e⟩ |⟨c1,c2,c3,c4,cv,cs,e⟩ |⟨c1,c2,c3,c4,c5,cv,cw,e⟩ |e
    ·exfalso;omega
    ·exfalso;omega
    ·exfalso;omega
    ·exfalso;apply rJ
     have:(262144:Nat)<=262144:=Nat.le_refl _;rw[if_neg (by omega),if_neg (by omega),if_neg (by omega),if_pos ⟨by omega,⟨by omega,by omega⟩,⟨by omega,by omega⟩,by omega,by omega⟩] at hD
     split at hD
     ·rename_i hv
      exact ⟨by omega,by omega,by omega,by omega,by omega,by omega⟩
     ·rw[<-hD] at e;simp at e
    ·rw[e];rfl
 ·by_cases Ub:224<=(s.getD 0 0).toNat
  ·have hm:ug (s.getD 0 0).toNat=3:=by unfold ug;rw[if_neg LZ,if_pos Ub]
   have hn:n0B (s.getD 0 0).toNat=(s.getD 0 0).toNat-224:=by unfold n0B;rw[if_neg LZ,if_pos Ub]
   rw[hm,hn]
   by_cases hsl:s.length<3
   ·rw[if_pos hsl]
    rcases shp with ⟨c,e⟩ |⟨c1,c2,c3,cv,e⟩ |⟨c1,c2,c3,c4,cv,cs,e⟩ |⟨c1,c2,c3,c4,c5,cv,cw,e⟩ |e
    all_goals first |(exfalso;omega) |(rw[e];rfl)
   ·rw[if_neg hsl,takeC s (by omega)]
    simp only[List.drop_succ_cons,List.drop_zero,WC]
    generalize hN:(((s.getD 0 0).toNat-224)*64+(s.getD 1 0).toNat%64)*64+(s.getD 2 0).toNat%64=N
    by_cases rJ:(RS N&&(chB N==[s.getD 0 0,s.getD 1 0,s.getD 2 0]))=true
    ·rw[if_pos rJ]
     rw[FX] at rJ;simp only[List.map_cons,List.map_nil,alO] at rJ;obtain ⟨q1,q2,q3,q4,q5,q6⟩:=rJ;rw[if_neg (by omega),if_neg (by omega),if_pos ⟨by omega,⟨by omega,by omega⟩,by omega,by omega⟩,if_pos ⟨by omega,by omega⟩] at hD
     rw[<-hD,if_neg (by simp)]
    ·rw[if_neg rJ]
     rw[FX] at rJ;simp only[List.map_cons,List.map_nil,alO] at rJ
     rcases shp with ⟨c,e⟩ |⟨c1,c2,c3,cv,e⟩ |⟨c1,c2,c3,c4,cv,cs,e⟩ |⟨c1,c2,c3,c4,c5,cv,cw,e⟩ |e
     ·exfalso;omega
     ·exfalso;omega
     ·exfalso;apply rJ
      exact ⟨by omega,by omega,by omega,by omega,by omega,by omega⟩
     ·exfalso;omega
     ·rw[e];rfl
  ·by_cases abV:192<=(s.getD 0 0).toNat
   ·have hm:ug (s.getD 0 0).toNat=2:=by unfold ug;rw[if_neg LZ,if_neg Ub,if_pos abV]
    have hn:n0B (s.getD 0 0).toNat=(s.getD 0 0).toNat-192:=by unfold n0B;rw[if_neg LZ,if_neg Ub,if_pos abV]
    rw[hm,hn]
    by_cases hsl:s.length<2
    ·rw[if_pos hsl]
     rcases shp with ⟨c,e⟩ |⟨c1,c2,c3,cv,e⟩ |⟨c1,c2,c3,c4,cv,cs,e⟩ |⟨c1,c2,c3,c4,c5,cv,cw,e⟩ |e
     all_goals first |(exfalso;omega) |(rw[e];rfl)
    ·rw[if_neg hsl,takeB s (by omega)]
     simp only[List.drop_succ_cons,List.drop_zero,WC]
     generalize hN:((s.getD 0 0).toNat-192)*64+(s.getD 1 0).toNat%64=N
     by_cases rJ:(RS N&&(chB N==[s.getD 0 0,s.getD 1 0]))=true
     ·rw[if_pos rJ]
      rw[FX] at rJ;simp only[List.map_cons,List.map_nil,alN] at rJ;obtain ⟨q1,q2,q3,q4,q5⟩:=rJ;rw[if_neg (by omega),if_pos ⟨by omega,by omega,by omega⟩,if_pos (by omega)] at hD
      rw[<-hD,if_neg (by simp)]
     ·rw[if_neg rJ]
      rw[FX] at rJ;simp only[List.map_cons,List.map_nil,alN] at rJ
      rcases shp with ⟨c,e⟩ |⟨c1,c2,c3,cv,e⟩ |⟨c1,c2,c3,c4,cv,cs,e⟩ |⟨c1,c2,c3,c4,c5,cv,cw,e⟩ |e
      ·exfalso;omega
      ·exfalso;apply rJ
       exact ⟨by omega,by omega,by omega,by omega,by omega⟩
      ·exfalso;omega
      ·exfalso;omega
      ·rw[e];rfl
   ·have hm:ug (s.getD 0 0).toNat=1:=by unfold ug;rw[if_neg LZ,if_neg Ub,if_neg abV]
    have hn:n0B (s.getD 0 0).toNat=(s.getD 0 0).toNat:=by unfold n0B;rw[if_neg LZ,if_neg Ub,if_neg abV]
    rw[hm,hn];rw[if_neg (show ¬s.length<1 by omega),takeA s hl]
    simp only[List.drop_succ_cons,List.drop_zero,WC]
    by_cases rJ:(RS (s.getD 0 0).toNat&&(chB (s.getD 0 0).toNat==[s.getD 0 0]))=true
    ·rw[if_pos rJ]
     rw[FX] at rJ;simp only[List.map_cons,List.map_nil,alM] at rJ;rw[if_pos (by omega)] at hD
     rw[<-hD,if_neg (by simp only;omega)]
    ·rw[if_neg rJ]
     rw[FX] at rJ;simp only[List.map_cons,List.map_nil,alM] at rJ
     rcases shp with ⟨c,e⟩ |⟨c1,c2,c3,cv,e⟩ |⟨c1,c2,c3,c4,cv,cs,e⟩ |⟨c1,c2,c3,c4,c5,cv,cw,e⟩ |e
     ·exfalso;simp only[and_true] at rJ;omega
     ·exfalso;omega
     ·exfalso;omega
     ·exfalso;omega
     ·rw[e];rfl
theorem alQ (s:List UInt8) (hne:s≠[]):(ptB s).2<=s.length:=by
 unfold ptB;split
 ·exact Nat.zero_le _
 ·split
  ·rename_i h1 h2;exact Nat.le_of_not_lt h1
  ·exact Nat.zero_le _
theorem Vd : ∀(m f:Nat) (s:List UInt8) (out:List Int),s.length<=m->s.length<=1048576->out.length+s.length<=1048576->
 ∃r,M.mX (f+m+1) s out=some r /\ (match r with | .inl a=>a.1=false /\ validGoD m s=false | .inr _=>validGoD m s=true)
 |0,f,s,out,hm,hs,ho=>by
  have e:s=[]:=List.eq_nil_of_length_eq_zero (by omega)
  subst e;exact ⟨.inr out,rfl,rfl⟩
 |m+1,f,s,out,hm,hs,ho=>by
  rw[show f+(m+1)+1=(f+m+1)+1 by omega,M.mX]
  by_cases hne:s=[]
  ·subst hne
   exact ⟨.inr out,rfl,rfl⟩
  ·have hl:0<s.length:=List.length_pos_iff.2 hne
   have d:decide ((0:Int)<(s.length:Int))=true:=decide_eq_true (by omega)
   rw[d,ajr s hne hs];simp only[cond_true,Option.getD_some,Option.isSome_some,Bool.and_true,List.length_cons,List.length_nil,Nat.zero_add];have hp:=akw s hne;have hle:=alQ s hne;have hv:validGoD (m+1) s=if (decodeL s).1=65533 /\ (decodeL s).2=1 then false else validGoD m (s.drop (decodeL s).2):=by
    rw[validGoD,if_neg hne]
   by_cases hb:(decodeL s).1=65533 /\ (decodeL s).2=1
   ·rw[if_pos hb] at hp hv
    rw[hp];exact ⟨.inl (false,[]),rfl,rfl,hv⟩
   ·rw[if_neg hb] at hp hv
    have hw:=decodeL_width s;rw[<-hp] at hv hw;have d0:(((ptB s).2:Int)==0)=false:=by rw[beq_eq_false_iff_ne];omega
    have hsl:xH ((ptB s).2:Int) (s.length:Int) s.length=true:=by unfold xH;simp;omega
    have hlen:decide (out.length+1<=1073741824)=true:=decide_eq_true (by omega)
    rw[d0,hsl,hlen];simp only[cond_false,cond_true,Bool.and_self,Int.toNat_natCast,List.take_length];have hdl:(s.drop (ptB s).2).length=s.length-(ptB s).2:=List.length_drop;obtain ⟨r,h1,h2⟩:=Vd m f (s.drop (ptB s).2) (out++[((ptB s).1:Int)]) (by omega) (by omega) (by rw[List.length_append];simp;omega)
    refine ⟨r,h1, ?_⟩;rw[hv];exact h2
def O0 (s:List UInt8):Bool:=decide (s.length<=24)&&validD s
theorem akx (s:List UInt8) (hs:s.length<=1048576):M.Ht s=some (O0 s):=by
 unfold M.Ht O0
 by_cases h:s.length<=24
 ·have d:decide ((24:Int)<(s.length:Int))=false:=decide_eq_false (by omega)
  rw[d,decide_eq_true h];obtain ⟨f,hf⟩:∃f,aG=f+s.length+1:=⟨aG-(s.length+1),by have:=yD hs;omega⟩
  obtain ⟨r,h1,h2⟩:=Vd s.length f s [] (Nat.le_refl _) hs (by simp;omega)
  have e:∀r,M.mX (f+s.length+1) s []=some r->M.xm s=(match r with | .inl a=>some (a.2,a.1) | .inr b=>some (b,true)):=fun r h=>by
   unfold M.xm;rw[hf,h];cases r<;>rfl
  have e:=e r h1
  cases r with
  |inl a=>
   simp only at h2 e;rw[e];simp only[cond_false,Option.isSome_some,Bool.and_true,cond_true,Option.getD_some,Bool.true_and,h2.1];exact congrArg some h2.2.symm
  |inr b=>
   simp only at h2 e;rw[e];simp only[cond_false,Option.isSome_some,Bool.and_true,cond_true,Option.getD_some,Bool.true_and];exact congrArg some h2.symm
 ·have d:decide ((24:Int)<(s.length:Int))=true:=decide_eq_true (by omega)
  rw[d,decide_eq_false h];rfl
theorem aky (s:List UInt8) (hs:s.length<=1048576):M.Hz s=some (O0 s):=by
 have e:M.eG s=some (validD s):=by
  unfold M.eG;rw[decide_eq_true (show s.length<=9223372036854775807 by omega)];rfl
 have d:decide ((s.length:Int)<=24)=decide (s.length<=24):=by congr 1;exact propext ⟨fun h=>by omega,fun h=>by omega⟩
 unfold M.Hz O0;rw[e,d];rfl
end M
namespace M
open Go.V (inB xH aG bZ)
theorem af.afI {a:af} {N:Nat} (h:a.sz<=N):a.Text.length<=N:=by rw[af.jR] at h;omega
theorem af.WO {a:af} {N:Nat} (h:a.sz<=N):iD af.sz a.Kids<=N:=by rw[af.jR] at h;omega
theorem af.lC {a:af} {N:Nat} (h:a.sz<=N):a.Kids.length<=N:=Nat.le_trans (eF _ _) (af.WO h)
theorem af.uY {a x:af} (h:x∈a.Kids):x.sz<a.sz:=by
 rw[af.jR a];have:=sN af.sz _ _ h;omega
def Yg (k:Int):Int×Int:=
 if k=3 then (0,255) else if k=4 then (-128,127) else if k=5 then (0,65535) else if k=6 then (-32768,32767) else if k=7 then (0,4294967295) else if k=8 then (-2147483648,2147483647)
 else if k=9 then (-9223372036854775808,9223372036854775807) else (0,0)
def aj1 (n:Int):Bool:=(decide ((0:Int)<=n)&&decide (n<=(55295:Int)))||(decide ((57344:Int)<=n)&&decide (n<=(1114111:Int)))
def abW (t:ae):Int:=Go.IntKind.wrap .i64 (Go.V.abD .i64 (1:Int) (t.aJ.length:Int)-1)
def Yh (t:ae):Int:=
 if t.Kind=17 \/ t.Kind=18 then Go.IntKind.wrap .i64 ((t.aJ.length:Int)-1) else if t.Kind=19 then abW t
 else if t.Kind=20 \/ t.Kind=21 \/ t.Kind=22 \/ t.Kind=23 then 2147483647 else 0
def Iu (n:Int) (t:ae):Bool:=
 if t.Kind=2 \/ t.Kind=13 \/ t.Kind=14 then decide ((0:Int)<=n)&&decide (n<=(1:Int))
 else if 3<=t.Kind /\ t.Kind<=9 then decide ((Yg t.Kind).1<=n)&&decide (n<=(Yg t.Kind).2)
 else if t.Kind=10 then aj1 n
 else decide ((0:Int)<=n)&&decide (n<=Yh t)
def RU (t:ae):List ae:=if vN t then [] else [t]
def kT (n:Int) (len:Nat) (t:ae):Option (List ae):=
 if t.Kind=12 then some (List.replicate (min len 8) (t.Kids.getD 0 ae.zero))
 else if t.Kind=15 \/ t.Kind=16 then some t.Kids
 else if t.Kind=13 then (if n=0 then some [] else if n=1 then some (RU (t.Kids.getD 0 ae.zero)) else none)
 else if t.Kind=14 \/ t.Kind=17 then (if 0<=n /\ n<(t.Kids.length:Int) then some (RU (t.Kids.getD n.toNat ae.zero)) else none)
 else some []
def headB (k n:Int) (x:List UInt8) (t:ae):Bool:=(((k==t.Kind)&&Iu n t)&&(x==[]||t.Kind==11))&&O0 x
mutual
def kQ : af->ae->Bool
 | .mk k n x kids,t=>headB k n x t&&(match kT n kids.length t with
   |some ts=>decide (ts.length=kids.length)&&wP kids ts
   |none=>false)
def wP : List af->List ae->Bool
 | [],_=>true
 |v::r,ts=>kQ v (ts.headD ae.zero)&&wP r ts.tail
end
theorem X3 (v:af) (t:ae):kQ v t=(headB v.Kind v.Num v.Text t&&(match kT v.Num v.Kids.length t with
 |some ts=>decide (ts.length=v.Kids.length)&&wP v.Kids ts
 |none=>false)):=by cases v;rfl
theorem Jd : ∀(a:List af) (b:List ae),b.length=a.length->wP a b=(List.range a.length).all fun k=>kQ (a.getD k af.zero) (b.getD k ae.zero)
 | [],_,_=>rfl
 |v::r,[],h=>by simp at h
 |v::r,t::ts,h=>by
  rw[wP,List.headD_cons,List.tail_cons,Jd r ts (by simpa using h),List.length_cons,List.range_succ_eq_map,List.all_cons,List.all_map]
  rfl
theorem Ve (t:ae):∀(a:List af) (n:Nat),n=a.length->wP a (List.replicate n t)=a.all fun v=>kQ v t
 | [],_,_=>rfl
 |v::r,n,h=>by
  subst h;rw[List.length_cons,List.replicate_succ,wP,List.headD_cons,List.tail_cons,Ve t r r.length rfl,List.all_cons]
theorem kb {a b:Int} (h:a≠b):(a==b)=false:=by rw[beq_eq_false_iff_ne];exact h
theorem kt {a b:Int} (h:a=b):(a==b)=true:=by rw[h];exact beq_self_eq_true b
theorem Yi (k:Int):∃b,M.zA k=some ((Yg k).1,(Yg k).2,b):=by
 unfold M.zA Yg
 by_cases h3:k=3
 ·subst h3;exact ⟨true,rfl⟩
 by_cases h4:k=4
 ·subst h4;exact ⟨true,rfl⟩
 by_cases h5:k=5
 ·subst h5;exact ⟨true,rfl⟩
 by_cases h6:k=6
 ·subst h6;exact ⟨true,rfl⟩
 by_cases h7:k=7
 ·subst h7;exact ⟨true,rfl⟩
 by_cases h8:k=8
 ·subst h8;exact ⟨true,rfl⟩
 by_cases h9:k=9
 ·subst h9;exact ⟨true,rfl⟩
 exact ⟨false,by simp[h3,h4,h5,h6,h7,h8,h9,kb h3,kb h4,kb h5,kb h6,kb h7,kb h8,kb h9]⟩
theorem Yj (k:Int):∃b,M.DY k=some ((Yg k).1,(Yg k).2,b):=Yi k
theorem ahW {k:Int} (h:¬(3<=k /\ k<=9)):Yg k=(0,0):=by
 unfold Yg;rw[if_neg (by omega),if_neg (by omega),if_neg (by omega),if_neg (by omega),if_neg (by omega),if_neg (by omega),if_neg (by omega)]
theorem aju (v:af) (t:ae):M.Nj v t=some (Iu v.Num t):=by
 unfold M.Nj Iu
 by_cases h1:t.Kind=2 \/ t.Kind=13 \/ t.Kind=14
 ·rw[if_pos h1]
  rcases h1 with h |h |h<;>simp[h]
 ·rw[if_neg h1]
  simp only[not_or] at h1;obtain ⟨a2,a13,a14⟩:=h1;simp only[kb a2,kb a13,kb a14,cond_false]
  by_cases h2:3<=t.Kind /\ t.Kind<=9
  ·rw[if_pos h2]
   obtain ⟨b,e⟩:=Yi t.Kind;have:(bif t.Kind==3 then t.Kind==3 else bif t.Kind==4 then t.Kind==4 else bif t.Kind==5 then t.Kind==5 else bif t.Kind==6 then t.Kind==6 else bif t.Kind==7 then t.Kind==7 else bif t.Kind==8 then t.Kind==8 else t.Kind==9)=true:=by
    have:t.Kind=3 \/ t.Kind=4 \/ t.Kind=5 \/ t.Kind=6 \/ t.Kind=7 \/ t.Kind=8 \/ t.Kind=9:=by omega
    rcases this with h |h |h |h |h |h |h<;>simp[h]
   rw[this,e];rfl
  ·rw[if_neg h2]
   have:(bif t.Kind==3 then t.Kind==3 else bif t.Kind==4 then t.Kind==4 else bif t.Kind==5 then t.Kind==5 else bif t.Kind==6 then t.Kind==6 else bif t.Kind==7 then t.Kind==7 else bif t.Kind==8 then t.Kind==8 else t.Kind==9)=false:=by
    simp only[kb (show t.Kind≠3 by omega),kb (show t.Kind≠4 by omega),kb (show t.Kind≠5 by omega),kb (show t.Kind≠6 by omega),kb (show t.Kind≠7 by omega),kb (show t.Kind≠8 by omega),kb (show t.Kind≠9 by omega),cond_false]
   rw[this];simp only[cond_false]
   by_cases h3:t.Kind=10
   ·rw[if_pos h3,kt h3];rfl
   ·rw[if_neg h3,kb h3]
    simp only[cond_false];unfold Yh abW
    by_cases h4:t.Kind=17
    ·simp[h4]
    by_cases h5:t.Kind=18
    ·simp[h5]
    by_cases h6:t.Kind=19
    ·simp[h6]
    by_cases h7:t.Kind=20
    ·simp[h7]
    by_cases h8:t.Kind=21
    ·simp[h8]
    by_cases h9:t.Kind=22
    ·simp[h9]
    by_cases h10:t.Kind=23
    ·simp[h10]
    simp[h4,h5,h6,h7,h8,h9,h10,kb h4,kb h5,kb h6,kb h7,kb h8,kb h9,kb h10]
theorem Je {t:ae} (h:jY t=true):(t.Kind=12->t.Kids.length=1) /\ (t.Kind=13->t.Kids.length=1 /\ vN (t.Kids.getD 0 ae.zero)=false) /\ (t.Kind=14->t.Kids.length=2) /\ (t.Kind=17->t.Kids.length=t.aJ.length):=by
 rw[Dq] at h;simp only[Bool.and_eq_true] at h;have hk:=h.1;unfold Ja at hk;simp only[Bool.and_eq_true] at hk;have hk:=hk.2;unfold ac0 at hk;refine ⟨fun e=> ?_,fun e=> ?_,fun e=> ?_,fun e=> ?_⟩
 ·rw[if_pos (.inl e)] at hk;simp at hk;exact hk.1
 ·rw[if_pos (.inr e)] at hk;simp only[Bool.and_eq_true,beq_iff_eq,Bool.not_eq_true'] at hk
  refine ⟨hk.1, ?_⟩;have hl:0<t.Kids.length:=by omega
  rw[getD_lt hl];have:=List.any_eq_false.1 hk.2 _ (List.getElem_mem hl);simpa using this
 ·rw[if_neg (by omega),if_pos e] at hk;simp at hk;exact hk
 ·rw[if_neg (by omega),if_neg (by omega),if_neg (by omega),if_neg (by omega),if_pos e] at hk;simp at hk;exact hk
theorem ahX (t:ae) (n:Int) (hl:t.Kids.length<=1048576) (h:t.Kind≠13):M.tH t n=some (if 0<=n /\ n<(t.Kids.length:Int) then (t.Kids.getD n.toNat ae.zero,true) else (.mk 0 [] [] [],false)):=by
 unfold M.tH;rw[kb h,wrap_i64 (show (-9223372036854775808:Int)<=(t.Kids.length:Int)-1 by omega) (by omega)]
 simp only[cond_false]
 by_cases hn:0<=n /\ n<(t.Kids.length:Int)
 ·rw[if_pos hn,decide_eq_true hn.1,decide_eq_true (show n<=(t.Kids.length:Int)-1 by omega)]
  have hin:inB n t.Kids.length=true:=by unfold inB;rw[decide_eq_true hn.1,decide_eq_true hn.2];rfl
  rw[hin,ae.aT];rfl
 ·rw[if_neg hn]
  have:(decide ((0:Int)<=n)&&decide (n<=(t.Kids.length:Int)-1))=false:=by
   rw[Bool.and_eq_false_iff]
   by_cases h0:0<=n
   ·right;exact decide_eq_false (by omega)
   ·left;exact decide_eq_false h0
  rw[this];rfl
theorem ajv (t:ae) (n:Int) (h:t.Kind=13) (hk:t.Kids.length=1) (hn:n=0 \/ n=1):M.tH t n=some (if n=0 then (.mk 1 [] [] [],true) else (t.Kids.getD 0 ae.zero,true)):=by
 unfold M.tH;rw[kt h,hk]
 rcases hn with rfl |rfl
 ·rfl
 ·have:Go.IntKind.wrap .i64 ((1:Int)-1)=0:=by decide
  have h2:Go.IntKind.wrap .i64 (((1:Nat):Int)-1)=0:=by decide
  rw[this,h2,ae.aT];rfl
theorem aeI (v:af) (t:ae) (hv:v.sz<=1048576) (ht:t.sz<=1048576) (hs:jY t=true) (hn:Iu v.Num t=true):
 ∃l,M.zB v t=some (l,(kT v.Num v.Kids.length t).isSome) /\ ∀ts,kT v.Num v.Kids.length t=some ts->l=ts:=by
 obtain ⟨s12,s13,s14,s17⟩:=Je hs;have hl:=af.lC hv;have hl2:=ae.lC ht;unfold M.zB kT
 by_cases h12:t.Kind=12
 ·rw[if_pos h12,kt h12]
  have hk:=s12 h12;have e:M.eQ t.Kids (bif decide ((8:Int)<(v.Kids.length:Int)) then 8 else (v.Kids.length:Int))=some (List.replicate (min v.Kids.length 8) (t.Kids.getD 0 ae.zero)):=by
   have e1:(bif decide ((8:Int)<(v.Kids.length:Int)) then (8:Int) else (v.Kids.length:Int))=((min v.Kids.length 8:Nat):Int):=by
    by_cases h:(8:Int)<(v.Kids.length:Int)
    ·rw[decide_eq_true h,cond_true];omega
    ·rw[decide_eq_false h,cond_false];omega
   rw[e1];unfold M.eQ;rw[decide_eq_true hk,decide_eq_true (show (0:Int)<=((min v.Kids.length 8:Nat):Int) by omega),decide_eq_true (show ((min v.Kids.length 8:Nat):Int)<=8 by omega),Int.toNat_natCast]
   rfl
  rw[e];exact ⟨_,rfl,fun ts h=>Option.some.inj h⟩
 ·rw[if_neg h12,kb h12]
  simp only[cond_false]
  by_cases h15:t.Kind=15 \/ t.Kind=16
  ·rw[if_pos h15]
   have:(bif t.Kind==15 then t.Kind==15 else t.Kind==16)=true:=by rcases h15 with h |h<;>simp[h]
   rw[this];exact ⟨_,rfl,fun ts h=>Option.some.inj h⟩
  ·rw[if_neg h15]
   simp only[not_or] at h15;simp only[kb h15.1,kb h15.2,cond_false]
   by_cases h13:t.Kind=13
   ·rw[if_pos h13]
    simp only[kt h13,cond_true];obtain ⟨k1,k2⟩:=s13 h13;have alR:v.Num=0 \/ v.Num=1:=by
     unfold Iu at hn;rw[if_pos (.inr (.inl h13))] at hn;simp only[Bool.and_eq_true,decide_eq_true_eq] at hn;omega
    rw[ae.aT,ajv t v.Num h13 k1 alR]
    rcases alR with e |e
    ·rw[e];exact ⟨[],rfl,fun ts h=>Option.some.inj h⟩
    ·rw[e]
     have hku:((t.Kids.getD 0 ae.zero).Kind==1)=false:=k2;have ho:RU (t.Kids.getD 0 ae.zero)=[t.Kids.getD 0 ae.zero]:=by unfold RU;rw[k2];rfl
     rw[if_neg (by decide),if_neg (by decide),if_pos rfl,ho]
     simp only[Option.getD_some,hku,cond_false,Option.isSome_some,Bool.and_self,cond_true,ae.aT];exact ⟨_,rfl,fun ts h=>Option.some.inj h⟩
   ·rw[if_neg h13]
    by_cases h14:t.Kind=14 \/ t.Kind=17
    ·rw[if_pos h14]
     have:(bif t.Kind==13 then t.Kind==13 else bif t.Kind==14 then t.Kind==14 else t.Kind==17)=true:=by rcases h14 with h |h<;>simp[h]
     rw[this,ae.aT,ahX t v.Num hl2 h13]
     by_cases hb:0<=v.Num /\ v.Num<(t.Kids.length:Int)
     ·rw[if_pos hb,if_pos hb]
      unfold RU vN
      cases hu:((t.Kids.getD v.Num.toNat ae.zero).Kind==1)
      ·simp only[Option.getD_some,hu,cond_false,cond_true,Option.isSome_some,Bool.and_self,ae.aT]
       exact ⟨_,rfl,fun ts h=>Option.some.inj h⟩
      ·simp only[Option.getD_some,hu,cond_false,cond_true,Option.isSome_some,Bool.and_self,ae.aT]
       exact ⟨_,rfl,fun ts h=>Option.some.inj h⟩
     ·rw[if_neg hb,if_neg hb]
      exact ⟨_,rfl,fun ts h=>by cases h⟩
    ·rw[if_neg h14]
     simp only[not_or] at h14;simp only[kb h13,kb h14.1,kb h14.2,cond_false];exact ⟨_,rfl,fun ts h=>Option.some.inj h⟩
theorem ahY {n:Int} {len:Nat} {t:ae} (hs:jY t=true) {ts:List ae} (h:kT n len t=some ts):∀x∈ts,jY x=true:=by
 have hkids:∀x∈t.Kids,jY x=true:=by
  rw[Dq,Bool.and_eq_true,EG,List.all_eq_true] at hs;exact hs.2
 obtain ⟨s12,s13,s14,s17⟩:=Je hs;have hone:∀k,k<t.Kids.length->∀x∈RU (t.Kids.getD k ae.zero),jY x=true:=fun k hk x hx=>by
  unfold RU at hx;split at hx
  ·cases hx
  ·rw[List.mem_singleton] at hx;subst hx;rw[getD_lt hk];exact hkids _ (List.getElem_mem hk)
 unfold kT at h;split at h
 ·rename_i h12
  simp only[Option.some.injEq] at h;subst h;intro x hx;rw[(List.mem_replicate.1 hx).2,getD_lt (by rw[s12 h12];omega)]
  exact hkids _ (List.getElem_mem _)
 ·split at h
  ·simp only[Option.some.injEq] at h;subst h;exact hkids
  ·split at h
   ·rename_i h13
    split at h
    ·simp only[Option.some.injEq] at h;subst h;intro x hx;cases hx
    ·split at h
     ·simp only[Option.some.injEq] at h;subst h;exact hone 0 (by rw[(s13 h13).1];omega)
     ·cases h
   ·split at h
    ·split at h
     ·rename_i hb
      simp only[Option.some.injEq] at h;subst h;exact hone _ (by omega)
     ·cases h
    ·simp only[Option.some.injEq] at h;subst h;intro x hx;cases hx
theorem alS {n:Int} {len:Nat} {t:ae} (hs:jY t=true) (ht:t.sz<=1048576) {ts:List ae} (h:kT n len t=some ts):∀x∈ts,x.sz<=1048576:=by
 obtain ⟨s12,s13,s14,s17⟩:=Je hs;have hkids:∀x∈t.Kids,x.sz<=1048576:=fun x hx=>by have:=ae.uY hx;omega
 have hone:∀k,k<t.Kids.length->∀x∈RU (t.Kids.getD k ae.zero),x.sz<=1048576:=fun k hk x hx=>by
  unfold RU at hx;split at hx
  ·cases hx
  ·rw[List.mem_singleton] at hx;subst hx;rw[getD_lt hk];exact hkids _ (List.getElem_mem hk)
 unfold kT at h;split at h
 ·rename_i h12
  simp only[Option.some.injEq] at h;subst h;intro x hx;rw[(List.mem_replicate.1 hx).2,getD_lt (by rw[s12 h12];omega)]
  exact hkids _ (List.getElem_mem _)
 ·split at h
  ·simp only[Option.some.injEq] at h;subst h;exact hkids
  ·split at h
   ·rename_i h13
    split at h
    ·simp only[Option.some.injEq] at h;subst h;intro x hx;cases hx
    ·split at h
     ·simp only[Option.some.injEq] at h;subst h;exact hone 0 (by rw[(s13 h13).1];omega)
     ·cases h
   ·split at h
    ·split at h
     ·rename_i hb
      simp only[Option.some.injEq] at h;subst h;exact hone _ (by omega)
     ·cases h
    ·simp only[Option.some.injEq] at h;subst h;intro x hx;cases hx
theorem ahZ : ∀(m:Nat) (v:af) (t:ae),v.sz<m->v.sz<=1048576->t.sz<=1048576->jY t=true->M.vC m v t=some (kQ v t)
 |0,v,t,h,_,_,_=>absurd h (Nat.not_lt_zero _)
 |m+1,v,t,h,hv,ht,hs=>by
  have hl:=af.lC hv
  show M.Lt (M.vC m) v t=_
  unfold M.Lt;rw[af.aT,ae.aT,aju,aky _ (af.afI hv),X3];simp only[Option.getD_some,Option.isSome_some,Bool.true_or,Bool.and_true,cond_true,oU];have hhead:headB v.Kind v.Num v.Text t= !(((!(v.Kind==t.Kind))||(!Iu v.Num t)||((!(v.Text==[]))&&(!(t.Kind==11))))||(!O0 v.Text)):=by
   unfold headB
   cases (v.Kind==t.Kind)<;>cases Iu v.Num t<;>cases (v.Text==[])<;>cases (t.Kind==11)<;>cases O0 v.Text<;>rfl
  cases hb:(((!(v.Kind==t.Kind))||(!Iu v.Num t)||((!(v.Text==[]))&&(!(t.Kind==11))))||(!O0 v.Text))
  ·rw[hhead,hb]
   have hn:Iu v.Num t=true:=by
    simp only[Bool.or_eq_false_iff,Bool.not_eq_false'] at hb;exact hb.1.1.2
   obtain ⟨l,e1,e2⟩:=aeI v t hv ht hs hn;rw[e1];simp only[cond_false,Option.getD_some,Option.isSome_some,Bool.not_false,Bool.true_and]
   cases hk:kT v.Num v.Kids.length t with
   |none=>rfl
   |some ts=>
    have:=e2 ts hk;subst this;simp only[Option.isSome_some,Bool.not_true,Bool.false_or]
    by_cases hlen:l.length=v.Kids.length
    ·have:((l.length:Int)==(v.Kids.length:Int))=true:=by rw[beq_iff_eq];omega
     rw[this,decide_eq_true hlen];have hloop:=Ir (p:=fun k=>kQ (v.Kids.getD k af.zero) (l.getD k ae.zero)) (F:=fun f i=>M.rU (M.vC m) l v.Kids (v.Kids.length:Int) f i) (e:=()) (b:=false) v.Kids.length (by omega) (fun f k hk2=>by
      show M.rU (M.vC m) l v.Kids (v.Kids.length:Int) (f+1) (k:Int)=_
      rw[M.rU];have hx:=af.uY (List.getElem_mem hk2);have hkl:k<l.length:=by omega
      have hx2:=alS hs ht hk l[k] (List.getElem_mem hkl);have hx3:=ahY hs hk l[k] (List.getElem_mem hkl);simp only[ae.aT,af.aT,getD_lt hk2,getD_lt hkl,ahZ m v.Kids[k] l[k] (by omega) (by omega) hx2 hx3,Int.toNat_natCast,dK,Int.ofNat_lt,hk2,hkl,decide_true,cond_true,Bool.true_or,Bool.true_and,Bool.and_true,fZ hk2 (by omega:v.Kids.length<2^62),Option.getD_some,Option.isSome_some]
      cases kQ v.Kids[k] l[k]<;>rfl) (fun f=>by
      show M.rU (M.vC m) l v.Kids (v.Kids.length:Int) (f+1) _=_
      rw[M.rU];simp)
     have akz:M.rU (M.vC m) l v.Kids (v.Kids.length:Int) aG 0=_:=hloop;rw[akz,Jd _ _ hlen]
     cases (List.range v.Kids.length).all fun k=>kQ (v.Kids.getD k af.zero) (l.getD k ae.zero)<;>rfl
    ·have:((l.length:Int)==(v.Kids.length:Int))=false:=by rw[beq_eq_false_iff_ne];omega
     rw[this,decide_eq_false hlen];rfl
  ·rw[hhead,hb];rfl
end M
namespace M
open Go.V (inB xH aG bZ)
theorem aeJ : O0 []=true:=rfl
section
variable {rec :af->ae->Option Bool} {kids:List af}
theorem afJ (most:Int) (t:ae) (hl:kids.length<=1048576) (hr:∀x∈kids,rec x t=some (kQ x t)):
 M.wG rec kids most t=some (decide ((kids.length:Int)<=most)&&kids.all fun v=>kQ v t):=by
 have e:=Ye (p:=fun v=>kQ v t) (F:=fun f i=>M.jg rec kids f i t) (e:=()) (b:=false) kids (by omega) (fun f k hk=>by
  show M.jg rec kids (f+1) (k:Int) t=_
  rw[M.jg];simp only[ae.aT,af.aT,getD_lt hk,hr _ (List.getElem_mem hk),Int.toNat_natCast,dK,Int.ofNat_lt,hk,decide_true,cond_true,Bool.true_or,Bool.true_and,Bool.and_true,fZ hk (by omega:kids.length<2^62),Option.getD_some,Option.isSome_some]
  cases kQ kids[k] t<;>rfl) (fun f=>by
  show M.jg rec kids (f+1) _ t=_
  rw[M.jg];simp)
 have e':M.jg rec kids aG 0 t=_:=e;unfold M.wG;rw[ae.aT,e']
 by_cases h:(kids.length:Int)<=most
 ·rw[decide_eq_true h,decide_eq_false (show ¬most<(kids.length:Int) by omega)]
  cases kids.all fun v=>kQ v t<;>rfl
 ·rw[decide_eq_false h,decide_eq_true (show most<(kids.length:Int) by omega)];rfl
theorem akA (ts:List ae) (hl:kids.length<=1048576) (hr:∀k,k<kids.length->k<ts.length->rec (kids.getD k af.zero) (ts.getD k ae.zero)=some (kQ (kids.getD k af.zero) (ts.getD k ae.zero))):
 M.Hu rec kids ts=some (decide (ts.length=kids.length)&&wP kids ts):=by
 unfold M.Hu
 by_cases hlen:ts.length=kids.length
 ·have e:=Ir (p:=fun k=>kQ (kids.getD k af.zero) (ts.getD k ae.zero)) (F:=fun f i=>M.lT rec kids ts f i) (e:=()) (b:=false) kids.length (by omega) (fun f k hk=>by
   show M.lT rec kids ts (f+1) (k:Int)=_
   rw[M.lT];have hk2:k<ts.length:=by omega
   simp only[ae.aT,af.aT,Int.toNat_natCast,hr k hk hk2,dK,Int.ofNat_lt,hk,hk2,decide_true,cond_true,Bool.true_or,Bool.true_and,Bool.and_true,fZ hk (by omega:kids.length<2^62),Option.getD_some,Option.isSome_some]
   cases kQ (kids.getD k af.zero) (ts.getD k ae.zero)<;>rfl) (fun f=>by
   show M.lT rec kids ts (f+1) _=_
   rw[M.lT];simp)
  have e':M.lT rec kids ts aG 0=_:=e;have hne:((kids.length:Int) !=(ts.length:Int))=false:=by rw[oU,hlen];simp
  rw[hne,e',decide_eq_true hlen,Jd _ _ hlen]
  cases (List.range kids.length).all fun k=>kQ (kids.getD k af.zero) (ts.getD k ae.zero)<;>rfl
 ·have hne:((kids.length:Int) !=(ts.length:Int))=true:=by rw[oU,kb (show (kids.length:Int)≠(ts.length:Int) by omega)];rfl
  rw[hne,decide_eq_false hlen];rfl
theorem ah0 (t:ae) (hl:kids.length<=1048576) (hr:∀x∈kids,rec x t=some (kQ x t)):
 M.zq rec kids t=some (decide ((RU t).length=kids.length)&&wP kids (RU t)):=by
 unfold M.zq RU vN
 cases hu:(t.Kind==1)
 ·simp only[cond_false,Bool.false_eq_true,if_false,ae.aT,af.aT,Int.toNat_zero]
  match kids,hr with
  | [],_=>
    have h1:((([]:List af).length:Int)==1)=false:=rfl;rw[h1];simp[wP]
  | [x],hr=>
    have:=hr x (List.mem_singleton.2 rfl);simp only[List.getD_cons_zero,this];simp[inB,wP]
  |x::y::r,_=>
   have h1:(((x::y::r).length:Int)==1)=false:=kb (by simp only[List.length_cons];omega)
   have h2:decide ([t].length=(x::y::r).length)=false:=decide_eq_false (by simp)
   rw[h1,h2];simp
 ·simp only[cond_true,if_true]
  match kids with
  | []=>rfl
  |x::r=>
   have h1:(((x::r).length:Int)==0)=false:=kb (by simp only[List.length_cons];omega)
   have h2:decide (([]:List ae).length=(x::r).length)=false:=decide_eq_false (by simp)
   rw[h1,h2];rfl
end
theorem len0 (l:List af):((l.length:Int)==0)=decide (([]:List ae).length=l.length):=by
 cases l with
 |nil=>rfl
 |cons a r=>rw[kb (by simp only[List.length_cons];omega),decide_eq_false (by simp)]
theorem akB (l:List af):(decide (([]:List ae).length=l.length)&&wP l [])=decide (([]:List ae).length=l.length):=by
 cases l with
 |nil=>rfl
 |cons a r=>rw[decide_eq_false (by simp)];rfl
theorem alT (n:Nat) (h:n<=1048576):Go.IntKind.wrap .u64 (n:Int)=(n:Int):=Go.IntWalk.u64_in _ (by omega)
theorem WQ (l:List af):(decide (([]:List ae).length=l.length)&&wP l [])=((l.length:Int)==0):=by rw[akB,len0]
theorem akC (n:Int):(decide ((0:Int)<=n)&&decide (n<=(0:Int)))=(n==0):=by
 by_cases h:n=0
 ·rw[h];rfl
 ·rw[kb h,Bool.and_eq_false_iff]
  by_cases h0:(0:Int)<=n
  ·right;exact decide_eq_false (by omega)
  ·left;exact decide_eq_false h0
section
variable {rec :af->ae->Option Bool}
theorem akD (v:af) (t:ae) (hv:v.sz<=1048576) (ht:t.sz<=1048576) (hs:jY t=true)
 (hrec:∀x∈v.Kids,∀y∈t.Kids,rec x y=some (kQ x y)) (hk:v.Kind=t.Kind) (htx:t.Kind≠11) (hte:v.Text=[]):
 M.oO rec v t=some (Iu v.Num t&&(match kT v.Num v.Kids.length t with
 |some ts=>decide (ts.length=v.Kids.length)&&wP v.Kids ts
 |none=>false)):=by
 have hl:=af.lC hv;have hl2:=ae.lC ht;have hlab:=ae.XZ ht;obtain ⟨s12,s13,s14,s17⟩:=Je hs;have afK:∀k,k<t.Kids.length->∀x∈v.Kids,rec x (t.Kids.getD k ae.zero)=some (kQ x (t.Kids.getD k ae.zero)):=fun k hk x hx=>by
  rw[getD_lt hk];exact hrec x hx _ (List.getElem_mem hk)
 unfold M.oO;simp only[ae.aT,af.aT,oU,kt hk,hte,beq_self_eq_true,Bool.not_true,Bool.and_false,Bool.or_self,cond_false]
 by_cases h2:t.Kind=2
 ·unfold Iu kT
  simp only[h2,Int.reduceBEq,Int.reduceEq,cond_true,cond_false,Bool.or_self,or_self,true_or,or_true,or_false,false_or,if_true,if_false,WQ]
  cases (decide ((0:Int)<=v.Num)&&decide (v.Num<=(1:Int)))<;>rfl
 by_cases h14:t.Kind=14
 ·unfold Iu kT
  simp only[h14,Int.reduceBEq,Int.reduceEq,cond_true,cond_false,Bool.or_self,Bool.or_false,Bool.or_true,Bool.true_or,or_self,true_or,or_true,or_false,false_or,if_true,if_false]
  by_cases hn:(decide ((0:Int)<=v.Num)&&decide (v.Num<=(1:Int)))=true
  ·rw[hn]
   simp only[Bool.and_eq_true,decide_eq_true_eq] at hn;have hk2:=s14 h14;have hin:inB v.Num t.Kids.length=true:=by unfold inB;rw[decide_eq_true hn.1,decide_eq_true (by omega)];rfl
   rw[ah0 (t.Kids.getD v.Num.toNat ae.zero) hl (afK _ (by omega)),hin,if_pos (show 0<=v.Num /\ v.Num<(t.Kids.length:Int) by omega)]
   simp
  ·simp only[Bool.not_eq_true] at hn
   rw[hn];rfl
 by_cases h13:t.Kind=13
 ·unfold Iu kT
  simp only[h13,Int.reduceBEq,Int.reduceEq,cond_true,cond_false,Bool.or_self,Bool.or_false,Bool.or_true,Bool.true_or,or_self,true_or,or_true,or_false,false_or,if_true,if_false];obtain ⟨k1,k2⟩:=s13 h13;have hin:inB (0:Int) t.Kids.length=true:=by rw[k1];rfl
  have ho:RU (t.Kids.getD 0 ae.zero)=[t.Kids.getD 0 ae.zero]:=by unfold RU;rw[k2];rfl
  rw[Int.toNat_zero,afJ 1 (t.Kids.getD 0 ae.zero) hl (afK 0 (by omega)),hin,ho]
  simp only[Option.isSome_some,Bool.true_or,Bool.and_self,cond_true,Option.getD_some]
  congr 1
  match hkk:v.Kids with
  | []=>
    by_cases hn:v.Num=0
    ·rw[hn];rfl
    ·rw[kb (show v.Num≠((([]:List af).length:Nat):Int) by simpa using hn)]
     rw[if_neg hn]
     by_cases h1:v.Num=1
     ·rw[if_pos h1];simp
     ·rw[if_neg h1];simp
  | [x]=>
    by_cases hn:v.Num=1
    ·rw[hn];simp[wP]
    ·rw[kb (show v.Num≠((([x]:List af).length:Nat):Int) by simpa using hn)]
     by_cases h1:v.Num=0
     ·rw[if_pos h1];simp
     ·rw[if_neg h1,if_neg hn];simp
  |x::y::r=>
   have e1:decide ((((x::y::r).length:Nat):Int)<=1)=false:=decide_eq_false (by simp only[List.length_cons];omega)
   rw[e1]
   by_cases h0:v.Num=0
   ·rw[if_pos h0];simp
   ·rw[if_neg h0]
    by_cases h1:v.Num=1
    ·rw[if_pos h1];simp
    ·rw[if_neg h1];simp
 by_cases h10:t.Kind=10
 ·unfold Iu kT
  have hc:M.lu v.Num=some (aj1 v.Num):=rfl;simp only[h10,hc,Int.reduceBEq,Int.reduceEq,Int.reduceLE,cond_true,cond_false,Bool.or_self,or_self,true_or,or_true,or_false,false_or,and_false,and_true,if_true,if_false,WQ,Option.getD_some]
 by_cases h12:t.Kind=12
 ·unfold Iu kT Yh
  simp only[h12,Int.reduceBEq,Int.reduceEq,Int.reduceLE,cond_true,cond_false,Bool.or_self,Bool.or_false,Bool.or_true,Bool.true_or,or_self,true_or,or_true,or_false,false_or,and_false,and_true,if_true,if_false,akC];have k1:=s12 h12;have hin:inB (0:Int) t.Kids.length=true:=by rw[k1];rfl
  rw[Int.toNat_zero,afJ 8 (t.Kids.getD 0 ae.zero) hl (afK 0 (by omega)),hin]
  simp only[Option.isSome_some,Bool.true_or,Bool.and_self,cond_true,Option.getD_some,List.length_replicate]
  by_cases h8:v.Kids.length<=8
  ·rw[decide_eq_true (show (v.Kids.length:Int)<=8 by omega),decide_eq_true (show min v.Kids.length 8=v.Kids.length by omega),Ve _ _ _ (show min v.Kids.length 8=v.Kids.length by omega)]
  ·rw[decide_eq_false (show ¬(v.Kids.length:Int)<=8 by omega),decide_eq_false (show ¬min v.Kids.length 8=v.Kids.length by omega)];rfl
 by_cases h15:t.Kind=15 \/ t.Kind=16
 ·have e:=akA (rec:=rec) (kids:=v.Kids) t.Kids hl (fun k h1 h2=>by rw[getD_lt h1,getD_lt h2];exact hrec _ (List.getElem_mem h1) _ (List.getElem_mem h2))
  unfold Iu kT Yh
  rcases h15 with h |h
  all_goals
   simp only[h,e,Int.reduceBEq,Int.reduceEq,Int.reduceLE,cond_true,cond_false,Bool.or_self,Bool.or_false,Bool.or_true,Bool.true_or,or_self,true_or,or_true,or_false,false_or,and_false,and_true,if_true,if_false,akC,Option.isSome_some,Bool.and_self,Option.getD_some]
 by_cases h17:t.Kind=17
 ·unfold Iu kT Yh
  obtain ⟨b,er⟩:=Yj t.Kind;simp only[h17] at er;simp only[h17,er,Int.reduceBEq,Int.reduceEq,Int.reduceLE,cond_true,cond_false,Bool.or_self,Bool.or_false,Bool.or_true,Bool.true_or,or_self,true_or,or_true,or_false,false_or,and_false,and_true,if_true,if_false,Option.isSome_some];have k1:=s17 h17;have hw:Go.IntKind.wrap .i64 ((t.aJ.length:Int)-1)=(t.aJ.length:Int)-1:=wrap_i64 (by omega) (by omega)
  rw[hw]
  by_cases hn:0<=v.Num /\ v.Num<(t.Kids.length:Int)
  ·have hin:inB v.Num t.Kids.length=true:=by unfold inB;rw[decide_eq_true hn.1,decide_eq_true hn.2];rfl
   rw[if_pos hn,decide_eq_true hn.1,decide_eq_true (show v.Num<=(t.aJ.length:Int)-1 by omega),ah0 (t.Kids.getD v.Num.toNat ae.zero) hl (afK _ (by omega)),hin]
   simp
  ·have:(decide ((0:Int)<=v.Num)&&decide (v.Num<=(t.aJ.length:Int)-1))=false:=by
    rw[Bool.and_eq_false_iff]
    by_cases h0:0<=v.Num
    ·right;exact decide_eq_false (by omega)
    ·left;exact decide_eq_false h0
   rw[if_neg hn,this];rfl
 simp only[not_or] at h15;have hkT:kT v.Num v.Kids.length t=some []:=by
  unfold kT;rw[if_neg h12,if_neg (by omega),if_neg h13,if_neg (by omega)]
 rw[hkT];simp only[WQ,kb h2,kb h14,kb h13,kb h10,kb htx,kb h12,kb h15.1,kb h15.2,kb h17,cond_false,Bool.or_self];obtain ⟨b,er⟩:=Yj t.Kind;rw[er];simp only[Option.getD_some,Option.isSome_some,Bool.true_and,Bool.true_or,Bool.and_true,cond_true];rw[alT _ hlab];unfold Iu;rw[if_neg (by omega),if_neg h10]
 unfold Yh abW
 by_cases h18:t.Kind=18
 ·simp only[h18,Int.reduceBEq,Int.reduceEq,Int.reduceLE,cond_true,cond_false,or_self,true_or,or_true,or_false,false_or,and_false,and_true,if_true,if_false]
  cases (decide ((0:Int)<=v.Num)&&decide (v.Num<=Go.IntKind.wrap .i64 ((t.aJ.length:Int)-1)))<;>rfl
 by_cases h19:t.Kind=19
 ·simp only[h19,Int.reduceBEq,Int.reduceEq,Int.reduceLE,cond_true,cond_false,or_self,true_or,or_true,or_false,false_or,and_false,and_true,if_true,if_false]
  cases (decide ((0:Int)<=v.Num)&&decide (v.Num<=Go.IntKind.wrap .i64 (Go.V.abD .i64 (1:Int) (t.aJ.length:Int)-1)))<;>rfl
 by_cases h20:t.Kind=20 \/ t.Kind=21 \/ t.Kind=22 \/ t.Kind=23
 ·rcases h20 with h |h |h |h
  all_goals
   simp only[h,Int.reduceBEq,Int.reduceEq,Int.reduceLE,cond_true,cond_false,or_self,true_or,or_true,or_false,false_or,and_false,and_true,if_true,if_false]
   cases (decide ((0:Int)<=v.Num)&&decide (v.Num<=(2147483647:Int)))<;>rfl
 simp only[not_or] at h20;simp only[kb h18,kb h19,kb h20.1,kb h20.2.1,kb h20.2.2.1,kb h20.2.2.2,cond_false]
 by_cases h39:3<=t.Kind /\ t.Kind<=9
 ·rw[if_pos h39]
  cases (decide ((Yg t.Kind).1<=v.Num)&&decide (v.Num<=(Yg t.Kind).2))<;>rfl
 ·rw[if_neg h39,ahW h39,if_neg (by omega),if_neg h19,if_neg (by omega)]
  cases (decide ((0:Int)<=v.Num)&&decide (v.Num<=(0:Int)))<;>rfl
end
theorem ah1 : ∀(m:Nat) (v:af) (t:ae),v.sz<m->v.sz<=1048576->t.sz<=1048576->jY t=true->M.tu m v t=some (kQ v t)
 |0,v,t,h,_,_,_=>absurd h (Nat.not_lt_zero _)
 |m+1,v,t,h,hv,ht,hs=>by
  have akE:∀x∈t.Kids,jY x=true:=by
   rw[Dq,Bool.and_eq_true,EG,List.all_eq_true] at hs;exact hs.2
  have hrec:∀x∈v.Kids,∀y∈t.Kids,M.tu m x y=some (kQ x y):=fun x hx y hy=>by
   have h1:=af.uY hx;have h2:=ae.uY hy;exact ah1 m x y (by omega) (by omega) (by omega) (akE y hy)
  show M.oO (M.tu m) v t=_
  rw[X3]
  by_cases hk:v.Kind=t.Kind
  ·by_cases h11:t.Kind=11
   ·have hh:headB v.Kind v.Num v.Text t=(O0 v.Text&&(v.Num==0)):=by
     unfold headB Iu Yh;simp only[kt hk,h11,kt (hk.trans h11),Int.reduceBEq,Int.reduceEq,Int.reduceLE,or_self,or_false,false_or,and_false,and_true,if_true,if_false,akC,Bool.or_true,Bool.and_true,Bool.true_and];rw[Bool.and_comm]
    have hkT:kT v.Num v.Kids.length t=some []:=by
     unfold kT;rw[if_neg (by omega),if_neg (by omega),if_neg (by omega),if_neg (by omega)]
    rw[hh,hkT];unfold M.oO;simp only[ae.aT,af.aT,oU,kt hk,h11,kt (hk.trans h11),WQ,akx _ (af.afI hv),Int.reduceBEq,Bool.not_true,Bool.false_and,Bool.or_self,cond_true,cond_false,Option.isSome_some,Option.getD_some,Bool.and_self]
   ·by_cases hte:v.Text=[]
    ·rw[akD v t hv ht hs hrec hk h11 hte]
     have:headB v.Kind v.Num v.Text t=Iu v.Num t:=by unfold headB;rw[kt hk,hte,aeJ];simp
     rw[this];try rfl
    ·have e:(v.Text==[])=false:=by
      cases h:v.Text with
      |nil=>exact absurd h hte
      |cons a r=>rfl
     have:headB v.Kind v.Num v.Text t=false:=by unfold headB;rw[e,kb h11];simp
     rw[this];unfold M.oO;rw[oU,oU,kt hk,kb h11,e];rfl
  ·have:headB v.Kind v.Num v.Text t=false:=by unfold headB;rw[kb hk];rfl
   rw[this];unfold M.oO;rw[oU,kb hk];rfl
end M
namespace M
open Go.V (inB xH aG bZ)
def ah2 (k:Int):Bool:=decide ((20:Int)<=k)&&decide (k<=23)
def aag (t:ae):Bool:=(tOk t&& !vN t)&& !Jb ah2 t
theorem ah3 (k:Int):([(20:Int),21,22,23].any fun x=>k==x)=ah2 k:=by
 unfold ah2
 by_cases h:20<=k /\ k<=23
 ·have:k=20 \/ k=21 \/ k=22 \/ k=23:=by omega
  rcases this with rfl |rfl |rfl |rfl<;>rfl
 ·simp only[List.any_cons,List.any_nil,kb (show k≠20 by omega),kb (show k≠21 by omega),kb (show k≠22 by omega),kb (show k≠23 by omega),Bool.or_self]
  symm;rw[Bool.and_eq_false_iff]
  by_cases h0:(20:Int)<=k
  ·right;exact decide_eq_false (by omega)
  ·left;exact decide_eq_false h0
theorem akF (t:ae) (h:t.sz<=1048576):M.Dh t=some (aag t):=by
 unfold M.Dh aag;have e:M.ve t 20 23=some (Jb ah2 t):=ahM 20 23 aG t (yD h) h;simp only[ae.aT,alI t h,e,Option.getD_some,Option.isSome_some,Bool.true_or,Bool.and_true,cond_true,oU,vN]
theorem akG (t:ae) (h:t.sz<=1048576):M.uD t=some (aag t):=by
 unfold M.uD aag;have e:M.rP t [20,21,22,23]=some (Jb ah2 t):=by
  have:=ahN [20,21,22,23] (by simp) aG t (yD h) h
  rw[Ua ah3] at this;exact this
 simp only[ae.aT,ahS t h,e,Option.getD_some,Option.isSome_some,Bool.true_or,Bool.and_true,cond_true,vN]
def acX (s:ah):Bool:=s.Buffer.all fun v=>kQ v s.aQ
def stB (s:ah):Bool:=
 (((aag s.aQ&&((decide ((1:Int)<=s.Room)&&decide (s.Room<=(6:Int)))&& !(s.dn&& !(s.Room==1))))&&(decide ((s.Buffer.length:Int)<=s.Room)&&acX s))&&
   ((!(decide (s.BG<(0:Int)))&&(decide (s.BG<=s.Put)&&decide (s.Put<=(if s.dn then 1 else 1000000:Int))))&&
     !((s.Gone&&decide ((0:Int)<(s.Buffer.length:Int)))||(!s.Gone&& !(Go.IntKind.wrap .i64 (s.Put-s.BG)==(s.Buffer.length:Int))))))&&
 (((!s.dn|| !s.Shut)||(s.Put==1))||s.Gone)
theorem ah.vX {s:ah} {N:Nat} (h:s.sz<=N):s.aQ.sz<=N:=by rw[ah.jR] at h;omega
theorem ah.EF {s:ah} {N:Nat} (h:s.sz<=N):iD af.sz s.Buffer<=N:=by rw[ah.jR] at h;omega
theorem ah.ajw {s:ah} {N:Nat} (h:s.sz<=N):s.Buffer.length<=N:=Nat.le_trans (eF _ _) (ah.EF h)
theorem Yk {t:ae} (h:tOk t=true):jY t=true:=by
 unfold tOk at h;rw[Bool.and_eq_true] at h;exact h.2
theorem abN {t:ae} (h:aag t=true):tOk t=true:=by
 unfold aag at h;simp only[Bool.and_eq_true] at h;exact h.1.1
theorem akH (v:af) (t:ae) (hv:v.sz<=1048576) (ht:t.sz<=1048576) (ho:tOk t=true):M.Tz v t=some (kQ v t):=by
 unfold M.Tz;have e:M.Nh v t=some (kQ v t):=ah1 aG v t (yD hv) hv ht (Yk ho);simp only[ae.aT,af.aT,ahQ t ht,ho,e,Option.getD_some,Option.isSome_some,Bool.true_or,Bool.and_self,cond_true,Bool.true_and]
theorem akI (v:af) (t:ae) (hv:v.sz<=1048576) (ht:t.sz<=1048576) (ho:tOk t=true):M.abu v t=some (kQ v t):=
 ahZ aG v t (yD hv) hv ht (Yk ho)
theorem agJ (l:List af) (t:ae) (most:Int) (hl:iD af.sz l<=1048576) (ht:t.sz<=1048576) (ho:tOk t=true):
 M.Di l t most=some (decide ((l.length:Int)<=most)&&l.all fun v=>kQ v t):=by
 have hlen:l.length<=1048576:=Nat.le_trans (eF _ _) hl;have e:=Ye (p:=fun v=>kQ v t) (F:=fun f i=>M.kC l f i t) (e:=()) (b:=false) l (by omega) (fun f k hk=>by
  show M.kC l (f+1) (k:Int) t=_
  rw[M.kC];simp only[ae.aT,af.aT,getD_lt hk,akH l[k] t (adb hl (List.getElem_mem hk)) ht ho,Int.toNat_natCast,dK,Int.ofNat_lt,hk,decide_true,cond_true,Bool.true_or,Bool.true_and,Bool.and_true,fZ hk (by omega:l.length<2^62),Option.getD_some,Option.isSome_some]
  cases kQ l[k] t<;>rfl) (fun f=>by
  show M.kC l (f+1) _ t=_
  rw[M.kC];simp)
 have e':M.kC l aG 0 t=_:=e;unfold M.Di;rw[ae.aT,e']
 by_cases h:(l.length:Int)<=most
 ·rw[decide_eq_true h,decide_eq_false (show ¬most<(l.length:Int) by omega)]
  cases l.all fun v=>kQ v t<;>rfl
 ·rw[decide_eq_false h,decide_eq_true (show most<(l.length:Int) by omega)];rfl
theorem abX (s:ah) (h:s.sz<=1048576) (ho:tOk s.aQ=true):M.ed s.Buffer s=some (!acX s):=by
 have hlen:=ah.ajw h;have c:∀v∈s.Buffer,M.rV v s=some (!kQ v s.aQ):=fun v hv=>by
  unfold M.rV;rw[af.aT,ae.aT,akI v s.aQ (adb (ah.EF h) hv) (ah.vX h) ho];rfl
 have e:=contains_of (p:=fun v=> !kQ v s.aQ) (F:=M.dG s.Buffer s (s.Buffer.length:Int)) s.Buffer (by omega) (fun f k hk=>by
  rw[M.dG];simp only[af.aT,getD_lt hk,c _ (List.getElem_mem hk),Int.toNat_natCast,dK,Int.ofNat_lt,hk,decide_true,cond_true,Bool.true_or,Bool.true_and,Bool.and_true,fZ hk (by omega:s.Buffer.length<2^62),Option.getD_some,Option.isSome_some]) (fun f=>by
  rw[M.dG];simp)
 have e2:M.fV s.Buffer s=_:=e;unfold M.ed;rw[e2];simp only[Option.getD_some,Option.isSome_some,Bool.and_true,cond_true];rw[index_ge,acX,List.not_all_eq_any_not]
theorem ahz (s:ah) (h:s.sz<=1048576):M.zu s=some (stB s):=by
 unfold M.zu stB;have ht:=akF s.aQ (ah.vX h);simp only[ae.aT,ht,Option.getD_some,Option.isSome_some,Bool.and_true,oU]
 cases hT:aag s.aQ
 ·simp
 ·rw[agJ s.Buffer s.aQ s.Room (ah.EF h) (ah.vX h) (abN hT)]
  simp only[Option.getD_some,Option.isSome_some,Bool.true_or,Bool.and_self,cond_true,Bool.not_true,Bool.false_or,Bool.true_and];have em:(decide (s.Put<=(if s.dn then 1 else 1000000:Int)))=(decide (s.Put<=(1000000:Int))&& !(s.dn&&decide ((1:Int)<s.Put))):=by
   cases s.dn
   ·simp
   ·simp only[if_true,Bool.true_and]
    by_cases h1:s.Put<=1
    ·rw[decide_eq_true h1,decide_eq_true (show s.Put<=1000000 by omega),decide_eq_false (show ¬(1:Int)<s.Put by omega)];rfl
    ·rw[decide_eq_false h1,decide_eq_true (show (1:Int)<s.Put by omega)];simp
  rw[em]
  generalize (decide ((1:Int)<=s.Room)&&decide (s.Room<=(6:Int)))=b1
  generalize (s.Room==1)=b2
  generalize decide ((s.Buffer.length:Int)<=s.Room)=b3
  have:(s.Buffer.all fun v=>kQ v s.aQ)=acX s:=rfl
  rw[this]
  generalize acX s=b4
  generalize decide (s.BG<(0:Int))=b5
  generalize decide (s.BG<=s.Put)=b6
  generalize decide (s.Put<=(1000000:Int))=b7
  generalize decide ((1:Int)<s.Put)=b8
  generalize decide ((0:Int)<(s.Buffer.length:Int))=b9
  generalize (Go.IntKind.wrap .i64 (s.Put-s.BG)==(s.Buffer.length:Int))=b10
  generalize (s.Put==1)=b11
  cases s.dn<;>cases s.Gone<;>cases s.Shut<;>cases b1<;>cases b2<;>cases b3<;>cases b4<;>cases b5<;>cases b6<;>cases b7<;>cases b8<;>cases b9<;>cases b10<;>rfl
theorem ahA (s:ah) (h:s.sz<=1048576):M.zC s=some (stB s):=by
 unfold M.zC stB;have ht:=akG s.aQ (ah.vX h);simp only[ae.aT,ah.aT,ht,Option.getD_some,Option.isSome_some,Bool.and_true,oU]
 cases hT:aag s.aQ
 ·simp
 ·have em:M.vG s=some (if s.dn then 1 else 1000000:Int):=by unfold M.vG;cases s.dn<;>rfl
  have e3:decide (s.Room<(s.Buffer.length:Int))= !decide ((s.Buffer.length:Int)<=s.Room):=by
   by_cases h1:(s.Buffer.length:Int)<=s.Room
   ·rw[decide_eq_true h1,decide_eq_false (show ¬s.Room<(s.Buffer.length:Int) by omega)];rfl
   ·rw[decide_eq_false h1,decide_eq_true (show s.Room<(s.Buffer.length:Int) by omega)];rfl
  rw[abX s h (abN hT),em,e3];simp only[Option.getD_some,Option.isSome_some,Bool.true_or,Bool.and_self,cond_true,Bool.not_true,Bool.false_or,Bool.true_and]
  generalize (decide ((1:Int)<=s.Room)&&decide (s.Room<=(6:Int)))=b1
  generalize (s.Room==1)=b2
  generalize decide ((s.Buffer.length:Int)<=s.Room)=b3
  generalize acX s=b4
  generalize decide (s.BG<(0:Int))=b5
  generalize (decide (s.BG<=s.Put)&&decide (s.Put<=(if s.dn then 1 else 1000000:Int)))=b6
  generalize decide ((0:Int)<(s.Buffer.length:Int))=b9
  generalize (Go.IntKind.wrap .i64 (s.Put-s.BG)==(s.Buffer.length:Int))=b10
  generalize (s.Put==1)=b11
  cases s.dn<;>cases s.Gone<;>cases s.Shut<;>cases b1<;>cases b2<;>cases b3<;>cases b4<;>cases b5<;>cases b6<;>cases b9<;>cases b10<;>rfl
end M
