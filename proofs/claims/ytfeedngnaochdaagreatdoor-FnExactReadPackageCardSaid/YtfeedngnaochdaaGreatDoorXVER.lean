/-
  VERSIONS in plain Lean: decimals of at most three digits; the scan; parts between dots.
-/
import Derived.Lib.ParseIntB
import Derived.Lib.ItoaNum
import Derived.Lib.Split
import Derived.Lib.SplitLaws
import Derived.Lib.IndexBytes
set_option linter.unusedVariables false
namespace dE
open Go.Lib
def dec(n:Nat):List UInt8:=
 if n<10 then[UInt8.ofNat (48+n)]else if n<100 then[UInt8.ofNat (48+n/10),UInt8.ofNat (48+n%10)]
 else[UInt8.ofNat (48+n/100),UInt8.ofNat (48+n/10%10),UInt8.ofNat (48+n%10)]
theorem VA{n:Nat}(h:n<1000):decDigits n=dec n:=by
 unfold dec;by_cases h1:n<10
 ·rw[if_pos h1,decDigits,dif_pos h1]
 ·rw[if_neg h1,decDigits,dif_neg h1];by_cases h2:n<100
  ·rw[if_pos h2,decDigits,dif_pos (by omega)];rfl
  ·rw[if_neg h2,decDigits,dif_neg (by omega),decDigits,dif_pos (by omega),show n/10/10=n/100 by omega];rfl
theorem u8{k:Nat}(h:k<256):(UInt8.ofNat k).toNat=k:=by
 rw[UInt8.toNat_ofNat'];omega
def jr(p:Nat):List UInt8->Option Nat
 |[]=>some p
 |c::r=>if 48<=c.toNat/\c.toNat<=57 then jr (10*p+(c.toNat-48)) r else none
theorem wG{n:Nat}(h:n<1000):jr 0 (dec n)=some n:=by
 unfold dec;by_cases h1:n<10
 ·rw[if_pos h1];simp only[jr,u8 (show 48+n<256 by omega)];rw[if_pos (by omega)];congr 1;omega
 ·rw[if_neg h1];by_cases h2:n<100
  ·rw[if_pos h2];simp only[jr,u8 (show 48+n/10<256 by omega),u8 (show 48+n%10<256 by omega)];rw[if_pos (by omega),if_pos (by omega)];congr 1;omega
  ·rw[if_neg h2];simp only[jr,u8 (show 48+n/100<256 by omega),u8 (show 48+n/10%10<256 by omega),u8 (show 48+n%10<256 by omega)];rw[if_pos (by omega),if_pos (by omega),if_pos (by omega)];congr 1;omega
theorem Iz{n:Nat}(h:n<1000):∀c∈dec n,48<=c.toNat/\c.toNat<=57:=by
 have e:=wG h;have key:∀(l:List UInt8)(p:Nat)(q:Nat),jr p l=some q->∀c∈l,48<=c.toNat/\c.toNat<=57:=by
  intro l
  induction l with
  |nil=>intro p q _ c hc;cases hc
  |cons x r ih=>
   intro p q hq c hc;unfold jr at hq;by_cases hx:48<=x.toNat/\x.toNat<=57
   ·rw[if_pos hx]at hq;rcases List.mem_cons.1 hc with rfl|hc
    ·exact hx
    ·exact ih _ _ hq c hc
   ·rw[if_neg hx]at hq;cases hq
 exact key _ _ _ e
theorem VB{n:Nat}:dec n≠[]:=by
 unfold dec;split
 ·simp
 ·split<;>simp
theorem mZ{n:Nat}:(dec n).length<=3:=by
 unfold dec;split
 ·simp
 ·split<;>simp
theorem IA:∀(l:List UInt8)(p q:Nat),jr p l=some q->q<1000->p*10^l.length<=q->parseUintM (2^64-1) p l=.ok q
 |[],p,q,h,_,_=>by
   simp only[jr,Option.some.injEq]at h;subst h;rfl
 |c::r,p,q,h,hq,hp=>by
  unfold jr at h;by_cases hc:48<=c.toNat/\c.toNat<=57
  ·rw[if_pos hc]at h;have hmono:∀(l:List UInt8)(p q:Nat),jr p l=some q->p*10^l.length<=q:=by
    intro l
    induction l with
    |nil=>intro p q h;simp only[jr,Option.some.injEq]at h;simp[h]
    |cons x r ih=>
     intro p q h;unfold jr at h;by_cases hx:48<=x.toNat/\x.toNat<=57
     ·rw[if_pos hx]at h;have:=ih _ _ h;rw[List.length_cons,Nat.pow_succ];refine Nat.le_trans ?_ this;rw[Nat.mul_comm (10^r.length) 10,<-Nat.mul_assoc];exact Nat.mul_le_mul_right _ (by omega)
     ·rw[if_neg hx]at h;cases h
   have h2:=hmono r _ q h;have hle:10*p+(c.toNat-48)<=q:=Nat.le_trans (Nat.le_mul_of_pos_right _ (Nat.pow_pos (by decide))) h2;unfold parseUintM;rw[if_pos hc,if_neg (by omega),if_neg (by omega),Nat.mul_comm p 10];exact IA r _ q h hq h2
  ·rw[if_neg hc]at h;cases h
theorem VC{n:Nat}(h:n<1000):parseIntB 64 (dec n)=.ok (n:Int):=by
 have e:=IA (dec n) 0 n (wG h) h (by simp);have hd:=Iz h;cases hl:dec n with
 |nil=>exact absurd hl VB
 |cons c r=>
  have hc:=hd c (by rw[hl];exact List.mem_cons_self ..);rw[hl]at e;unfold parseIntB parseUintB;simp only;rw[if_neg (show ¬(c.toNat=43\/c.toNat=45) by omega),if_neg (by simp),e];simp only;rw[if_neg (by omega),if_neg (by omega),if_neg (by omega)]
theorem canon{s:List UInt8}{v:Int}(hv:0<=v/\v<=999):(parseIntB 64 s=.ok v/\itoa v=s)↔s=dec v.toNat:=by
 obtain⟨n,rfl⟩:=Int.eq_ofNat_of_zero_le hv.1;have hn:n<1000:=by omega
 have hi:itoa (n:Int)=dec n:=by unfold itoa;rw[if_neg (by omega),Int.toNat_natCast,VA hn]
 rw[Int.toNat_natCast,hi];exact⟨fun h=>h.2.symm,fun h=>⟨by rw[h];exact VC hn,h.symm⟩⟩
def ei:List UInt8->List (List UInt8)
 |[]=>[[]]
 |c::r=>if c=46 then[]::ei r else match ei r with
  |x::l=>(c::x)::l
  |[]=>[[c]]
theorem IB(s:List UInt8):ei s≠[]:=by
 cases s with
 |nil=>simp[ei]
 |cons c r=>
  unfold ei;split
  ·simp
  ·split<;>simp
theorem zD:∀(x r:List UInt8),(∀c∈x,c≠46)->ei (x++46::r)=x::ei r
 |[],r,_=>by rw[List.nil_append,ei,if_pos rfl]
 |c::x,r,h=>by
  rw[List.cons_append,ei,if_neg (h c (List.mem_cons_self ..)),zD x r fun d hd=>h d (List.mem_cons_of_mem _ hd)]
theorem Dp:∀(x:List UInt8),(∀c∈x,c≠46)->ei x=[x]
 |[],_=>rfl
 |c::x,h=>by
  rw[ei,if_neg (h c (List.mem_cons_self ..)),Dp x fun d hd=>h d (List.mem_cons_of_mem _ hd)]
def wH:List (List UInt8)->List UInt8
 |[]=>[]
 |[x]=>x
 |x::y::l=>x++46::wH (y::l)
theorem IC:∀s:List UInt8,wH (ei s)=s
 |[]=>rfl
 |c::r=>by
  have ih:=IC r;unfold ei;by_cases h:c=46
  ·rw[if_pos h];cases hs:ei r with
   |nil=>exact absurd hs (IB r)
   |cons y l=>rw[hs]at ih;simp only[wH,List.nil_append];rw[ih,h]
  ·rw[if_neg h];cases hs:ei r with
   |nil=>exact absurd hs (IB r)
   |cons y l=>
    rw[hs]at ih;cases l with
    |nil=>simp only[wH]at ih⊢;rw[ih]
    |cons z l=>simp only[wH,List.cons_append]at ih⊢;rw[ih]
def jO(n:Nat):List UInt8:=dec (n/1000000)++46::(dec (n/1000%1000)++46::dec (n%1000))
theorem Dq{n:Nat}(h:n<1000):∀c∈dec n,c≠46:=fun c hc e=>by
 have:=Iz h c hc;rw[e]at this;exact absurd this (by decide)
theorem VD{n:Nat}(h:n<1000000000):ei (jO n)=[dec (n/1000000),dec (n/1000%1000),dec (n%1000)]:=by
 unfold jO;rw[zD _ _ (Dq (by omega)),zD _ _ (Dq (by omega)),Dp _ (Dq (by omega))]
theorem VE{s:List UInt8}{a b c:Nat}(ha:a<1000)(hb:b<1000)(hc:c<1000)(h:ei s=[dec a,dec b,dec c]):s=jO ((a*1000+b)*1000+c):=by
 have:=IC s;rw[h]at this;rw[<-this];unfold jO;rw[show((a*1000+b)*1000+c)/1000000=a by omega,show((a*1000+b)*1000+c)/1000%1000=b by omega,show((a*1000+b)*1000+c)%1000=c by omega];rfl
def scan:Nat×Nat×Nat->List UInt8->Option (Nat×Nat×Nat)
 |st,[]=>some st
 |st,c::r=>if c=46 then scan ((st.1+st.2.1)*1000,0,st.2.2+1) r
  else if 48<=c.toNat/\c.toNat<=57 then scan (st.1,10*st.2.1+(c.toNat-48),st.2.2) r else none
theorem zE:∀(x r:List UInt8)(m p d q:Nat),jr p x=some q->scan (m,p,d) (x++r)=scan (m,q,d) r
 |[],r,m,p,d,q,h=>by simp only[jr,Option.some.injEq]at h;subst h;rfl
 |c::x,r,m,p,d,q,h=>by
  unfold jr at h;by_cases hc:48<=c.toNat/\c.toNat<=57
  ·rw[if_pos hc]at h;have hne:c≠46:=fun e=>by rw[e]at hc;exact absurd hc (by decide)
   rw[List.cons_append,scan,if_neg hne,if_pos hc];exact zE x r m _ d q h
  ·rw[if_neg hc]at h;cases h
theorem VF{n:Nat}(h:n<1000000000):scan (0,0,0) (jO n)=some ((n/1000000*1000+n/1000%1000)*1000,n%1000,2):=by
 unfold jO;rw[zE _ _ _ _ _ _ (wG (show n/1000000<1000 by omega)),scan,if_pos rfl,zE _ _ _ _ _ _ (wG (show n/1000%1000<1000 by omega)),scan,if_pos rfl];have:=zE (dec (n%1000)) [] ((n/1000000*1000+n/1000%1000)*1000) 0 2 _ (wG (show n%1000<1000 by omega));rw[List.append_nil]at this;simp only[Nat.zero_add];rw[this];rfl
theorem ID(n:Nat):(n/1000000*1000+n/1000%1000)*1000+n%1000=n:=by omega
theorem IE(n:Nat):(jO n).length<=11:=by
 unfold jO;have a:=mZ (n:=n/1000000);have b:=mZ (n:=n/1000%1000);have c:=mZ (n:=n%1000);simp only[List.length_append,List.length_cons];omega
end dE
namespace dE
open Go.Lib
theorem IF:∀s:List UInt8,(∀c∈s,c≠46)\/∃x r,s=x++46::r/\∀c∈x,c≠46
 |[]=>.inl fun c hc=>by cases hc
 |c::s=>by
  by_cases h:c=46
  ·exact .inr ⟨[],s,by rw[h];rfl,fun c hc=>by cases hc⟩
  ·rcases IF s with h2|⟨x,r,rfl,h2⟩
   ·exact .inl fun d hd=>by
     rcases List.mem_cons.1 hd with rfl|hd
     ·exact h
     ·exact h2 d hd
   ·exact .inr ⟨c::x,r,rfl,fun d hd=>by
     rcases List.mem_cons.1 hd with rfl|hd
     ·exact h
     ·exact h2 d hd⟩
theorem IG:∀(x r:List UInt8),(∀c∈x,c≠46)->indexByte (x++46::r) 46=(x.length:Int)
 |[],r,_=>by unfold indexByte;rfl
 |c::x,r,h=>by
  have h1:(c==46)=false:=by rw[beq_eq_false_iff_ne];exact h c (List.mem_cons_self ..)
  have ih:=IG x r fun d hd=>h d (List.mem_cons_of_mem _ hd)
  rw[List.cons_append];unfold indexByte;rw[h1,ih];have:(((x.length:Nat):Int)== -1)=false:=by rw[beq_eq_false_iff_ne];omega
  rw[this,List.length_cons];simp
theorem IH:∀(n:Nat)(s:List UInt8),s.length<=n->splitK [46] 0 (s.count 46) s=ei s
 |n,s,hn=>by
  rcases IF s with h|⟨x,r,rfl,h⟩
  ·rw[List.count_eq_zero.2 fun hm=>h 46 hm rfl,Dp s h];rfl
  ·have hc:(x++46::r).count 46=r.count 46+1:=by
    rw[List.count_append,List.count_eq_zero.2 fun hm=>h 46 hm rfl,List.count_cons_self];omega
   have hi:index (x++46::r) [46]=(x.length:Int):=by rw[index_one,IG x r h]
   rw[hc,zD x r h];unfold splitK;have hne:(index (x++46::r) [46]== -1)=false:=by rw[hi,beq_eq_false_iff_ne];omega
   rw[hne,hi];simp only[Bool.false_eq_true,if_false,Int.toNat_natCast,Nat.add_zero,List.length_cons,List.length_nil,Nat.zero_add];have e1:(x++46::r).take x.length=x:=by rw[List.take_append_of_le_length (Nat.le_refl _),List.take_length]
   have e2:(x++46::r).drop (x.length+1)=r:=by rw[<-List.drop_drop,List.drop_left];rfl
   rw[e1,e2];cases n with
   |zero=>rw[List.length_append,List.length_cons]at hn;omega
   |succ n=>rw[IH n r (by rw[List.length_append,List.length_cons]at hn;omega)]
theorem VG(s:List UInt8):split s [46]=ei s:=by
 unfold split;rw[count_one];exact IH s.length s (Nat.le_refl _)
theorem VH(s sep:ByteArray)(h:sep.data.toList=[46]):(splitB sep 0 (countB s sep) s).map (·.data.toList)=ei s.data.toList:=by
 rw[splitB_data,h]
 show splitK [46] 0 (count s.data.toList sep.data.toList) s.data.toList=_
 rw[h];exact VG _
end dE
namespace dE
open Go.Lib
def m5(s:List UInt8):Option Nat:=match parseIntB 64 s with
 |.ok v=>if itoa v=s/\(0<=v/\v<=999)then some v.toNat else none
 |_=>none
theorem ux(s:List UInt8)(n:Nat):m5 s=some n↔n<1000/\s=dec n:=by
 constructor
 ·intro h;unfold m5 at h;split at h
  ·rename_i v hv;split at h
   ·rename_i hc;injection h with h;subst h;exact⟨by omega,(canon hc.2).1 ⟨hv,hc.1⟩⟩
   ·cases h
  ·cases h
 ·rintro ⟨hn,rfl⟩
  have hv:0<=(n:Int)/\(n:Int)<=999:=by omega
  have:=(canon (s:=dec n) hv).2 (by rw[Int.toNat_natCast]);unfold m5;rw[this.1];simp only;rw[if_pos ⟨this.2,hv⟩,Int.toNat_natCast]
def rf(s:List UInt8):Option Nat:=match ei s with
 |[a,b,c]=>match m5 a,m5 b,m5 c with
   |some x,some y,some z=>some ((x*1000+y)*1000+z)
   |_,_,_=>none
 |_=>none
def rh(s:List UInt8):Option Nat:=match scan (0,0,0) (s.take 12)with
 |some (n,p,d)=>if d=2/\p<=999/\n+p<1000000000/\jO (n+p)=s then some (n+p)else none
 |none=>none
theorem Ds(s:List UInt8)(n:Nat):rf s=some n↔n<1000000000/\s=jO n:=by
 constructor
 ·intro h;unfold rf at h;split at h
  ·rename_i a b c hs;split at h
   ·rename_i x y z hx hy hz;injection h with h;obtain⟨hx1,rfl⟩:=(ux _ _).1 hx;obtain⟨hy1,rfl⟩:=(ux _ _).1 hy;obtain⟨hz1,rfl⟩:=(ux _ _).1 hz;have:=VE hx1 hy1 hz1 hs;rw[h]at this;exact⟨by omega,this⟩
   ·cases h
  ·cases h
 ·rintro ⟨hn,rfl⟩
  unfold rf;rw[VD hn];simp only;rw[(ux _ _).2 ⟨show n/1000000<1000 by omega,rfl⟩,(ux _ _).2 ⟨show n/1000%1000<1000 by omega,rfl⟩,(ux _ _).2 ⟨show n%1000<1000 by omega,rfl⟩];simp only;rw[ID]
theorem II(s:List UInt8)(n:Nat):rh s=some n↔n<1000000000/\s=jO n:=by
 constructor
 ·intro h;unfold rh at h;split at h
  ·rename_i m p d hs;split at h
   ·rename_i hc;injection h with h;rw[<-h];exact⟨hc.2.2.1,hc.2.2.2.symm⟩
   ·cases h
  ·cases h
 ·rintro ⟨hn,rfl⟩
  unfold rh;have hl:=IE n;rw[List.take_of_length_le (by omega),VF hn];simp only;rw[ID,if_pos (by refine⟨?_,?_,?_,?_⟩<;>first|trivial|omega)]
theorem VI(s:List UInt8):rf s=rh s:=by
 cases h:rf s with
 |some n=>exact((II s n).2 ((Ds s n).1 h)).symm
 |none=>
  cases h2:rh s with
  |none=>rfl
  |some n=>rw[(Ds s n).2 ((II s n).1 h2)]at h;cases h
end dE
