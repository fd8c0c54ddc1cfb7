/-
  NUMBERS AND TEXTS AS BYTES: both sides write the same.
-/
import Derived.Test.YtnkkcmdomlkdmaaGreatDoorXETP
import Derived.Test.YtnkkcmdomlkdmaaGreatDoorXEFF
import Derived.Test.YtnkkcmdomlkdmaaGreatDoorXEC
set_option linter.unusedVariables false
set_option linter.unusedSimpArgs false
namespace M
open Go Go.V
theorem oh(n:Nat)(h:n<256):IntKind.wrap .u8 (n:Int)=(n:Int):=by
 have:∀m:Fin 256,IntKind.wrap .u8 ((m.val:Nat):Int)=((m.val:Nat):Int):=by decide+kernel
 exact this ⟨n,h⟩
theorem yq(n:Nat)(h:n<2^62):IntKind.wrap .i64 (n:Int)=(n:Int):=wrap_i64 (by omega) (by omega)
theorem TU(n k:Nat)(h:n<2^62)(hk:k<=16):fA .and .i64 (n:Int) ((2^k-1:Nat):Int)=((n%2^k:Nat):Int):=by
 have hp:2^k<=2^16:=Nat.pow_le_pow_right (by omega) hk;have hp0:0<2^k:=Nat.pow_pos (by omega);have e:(BitVec.ofInt 64 (n:Int)&&& BitVec.ofInt 64 ((2^k-1:Nat):Int)).toNat=n%2^k:=by
  rw[BitVec.toNat_and];have h1:(BitVec.ofInt 64 (n:Int)).toNat=n:=by rw[BitVec.toNat_ofInt];omega
  have h2:(BitVec.ofInt 64 ((2^k-1:Nat):Int)).toNat=2^k-1:=by rw[BitVec.toNat_ofInt];omega
  rw[h1,h2];exact Nat.and_two_pow_sub_one_eq_mod n k
 show IntKind.wrap .i64 (((BitVec.ofInt 64 (n:Int)&&& BitVec.ofInt 64 ((2^k-1:Nat):Int)).toNat:Nat):Int)=_
 rw[e];have hlt:n%2^k<2^k:=Nat.mod_lt _ hp0;exact yq _ (by omega)
theorem aog(n:Nat)(h:n<2^62):fA .and .i64 (n:Int) 127=((n%128:Nat):Int):=TU n 7 h (by omega)
theorem aoh(n:Nat)(h:n<2^62):fA .and .i64 (n:Int) 255=((n%256:Nat):Int):=TU n 8 h (by omega)
theorem aoi(n:Nat):mW .i64 (n:Int) 7=((n/128:Nat):Int):=by
 have:mW .i64 (n:Int) 7=(n:Int).fdiv 128:=rfl;rw[this,Int.fdiv_eq_ediv_of_nonneg _ (by omega)];omega
theorem oi(m:Nat)(h:m<256):iN (m:Int)=true:=by unfold iN;simp;omega
theorem oj(m:Nat):fH (m:Int)=UInt8.ofNat m:=rfl
theorem eZ{b n:Nat}(h:b<=n):decide (b<=n)=true:=du h
def mz:Nat->Nat->List UInt8
 |0,n=>[UInt8.ofNat n]
 |f+1,n=>if n<128 then[UInt8.ofNat n]else UInt8.ofNat (n%128+128)::mz f (n/128)
def bE(n:Nat):List UInt8:=mz 8 n
theorem TV:∀f n,(mz f n).length<=f+1/\1<=(mz f n).length
 |0,n=>by simp[mz]
 |f+1,n=>by
  unfold mz;split
  ·simp
  ·have:=TV f (n/128);simp only[aZ];omega
theorem df(n:Nat):(bE n).length<=9:=(TV 8 n).1
theorem TW:∀(f n g:Nat)(b:List UInt8),n<128^(f+1)->n<2^62->b.length+f<=1000->
 ∃(m:Nat)(pre:List UInt8),M.uW (g+f+1) (n:Int) b=some ((m:Int),b++pre)/\m<128/\pre++[UInt8.ofNat m]=mz f n/\pre.length<=f
 |f,n,g,b,h,TX,hb=>by
  by_cases hn:n<128
  ·have d:decide ((127:Int)<(n:Int))=false:=eD (by omega);refine⟨n,[],?_,hn,?_,cZ _⟩
   ·rw[M.uW,d];simp
   ·cases f with
    |zero=>rfl
    |succ f=>rw[mz,cz hn];rfl
  ·match f,h with
   |0,h=>simp at h;omega
   |f+1,h=>
    have d:decide ((127:Int)<(n:Int))=true:=du (by omega);have e1:IntKind.wrap .u8 (IntKind.wrap .i64 (Int.tmod (n:Int) 128+128))=((n%128+128:Nat):Int):=by
     have:Int.tmod (n:Int) 128+128=((n%128+128:Nat):Int):=by rw[Int.tmod_eq_emod_of_nonneg (by omega)];omega
     rw[this,yq _ (by omega),oh _ (by omega)]
    have e2:IntKind.wrap .i64 (Int.tdiv (n:Int) 128)=((n/128:Nat):Int):=by
     have:Int.tdiv (n:Int) 128=((n/128:Nat):Int):=by rw[Int.tdiv_eq_ediv_of_nonneg (by omega)];omega
     rw[this,yq _ (by omega)]
    have hlt:n/128<128^(f+1):=by
     rw[Nat.div_lt_iff_lt_mul (by omega)];rw[Nat.pow_succ]at h;exact h
    obtain⟨m,pre,i1,i2,i3,i4⟩:=TW f (n/128) g (b++[UInt8.ofNat (n%128+128)]) hlt (by omega) (by simp;omega);refine⟨m,UInt8.ofNat (n%128+128)::pre,?_,i2,?_,by simp;omega⟩
    ·rw[show g+(f+1)+1=(g+f+1)+1 by omega,M.uW,d];simp only[e1,e2,oi _ (show n%128+128<256 by omega),oj,aZ,bS,eZ (show b.length+(0+1)<=1073741824 by omega),aQ,az,cr,i1];simp
    ·rw[mz,aw hn,<-i3];rfl
theorem TY:∀(f n g:Nat)(b:List UInt8),n<128^(f+1)->n<2^62->b.length+f<=1000->
 ∃(m:Nat)(pre:List UInt8),M.uX (g+f+1) (n:Int) b=some ((m:Int),b++pre)/\m<128/\pre++[UInt8.ofNat m]=mz f n/\pre.length<=f
 |f,n,g,b,h,TX,hb=>by
  by_cases hn:n<128
  ·have d:decide ((127:Int)<(n:Int))=false:=eD (by omega);refine⟨n,[],?_,hn,?_,cZ _⟩
   ·rw[M.uX,d];simp
   ·cases f with
    |zero=>rfl
    |succ f=>rw[mz,cz hn];rfl
  ·match f,h with
   |0,h=>simp at h;omega
   |f+1,h=>
    have d:decide ((127:Int)<(n:Int))=true:=du (by omega);have e1:IntKind.wrap .u8 (IntKind.wrap .i64 (fA .and .i64 (n:Int) 127+128))=((n%128+128:Nat):Int):=by
     have:fA .and .i64 (n:Int) 127+128=((n%128+128:Nat):Int):=by rw[aog n TX];omega
     rw[this,yq _ (by omega),oh _ (by omega)]
    have hlt:n/128<128^(f+1):=by
     rw[Nat.div_lt_iff_lt_mul (by omega)];rw[Nat.pow_succ]at h;exact h
    obtain⟨m,pre,i1,i2,i3,i4⟩:=TY f (n/128) g (b++[UInt8.ofNat (n%128+128)]) hlt (by omega) (by simp;omega);refine⟨m,UInt8.ofNat (n%128+128)::pre,?_,i2,?_,by simp;omega⟩
    ·rw[show g+(f+1)+1=(g+f+1)+1 by omega,M.uX,d];simp only[e1,aoi,oi _ (show n%128+128<256 by omega),oj,aZ,bS,eZ (show b.length+(0+1)<=1073741824 by omega),aQ,az,cr,i1];simp
    ·rw[mz,aw hn,<-i3];rfl
theorem aHH(n:Nat)(h:n<=1099511627776):M.dN (n:Int)=some (bE n):=by
 obtain⟨g,hg⟩:∃g,af=g+8+1:=⟨af-9,by have:=bU;omega⟩;obtain⟨m,pre,h1,h2,h3,h4⟩:=TW 8 n g [] (by simp;omega) (by omega) (by simp);unfold M.dN;have d:decide ((n:Int)<0)=false:=eD (by omega);rw[d,hg,h1];simp only[ef,jb,oh m (by omega),oi m (by omega),oj,aZ,bS,eZ (show pre.length+(0+1)<=1073741824 by omega),bJ,cr,List.map_id',h3];rfl
theorem jY(n:Nat)(h:n<=1048576):M.dN (n:Int)=some (bE n):=aHH n (by omega)
theorem aHI(n:Nat)(h:n<=1099511627776):M.eG (n:Int)=some (bE n):=by
 obtain⟨g,hg⟩:∃g,af=g+8+1:=⟨af-9,by have:=bU;omega⟩;obtain⟨m,pre,h1,h2,h3,h4⟩:=TY 8 n g [] (by simp;omega) (by omega) (by simp);unfold M.eG;have d:decide ((n:Int)<0)=false:=eD (by omega);rw[d,hg,h1];simp only[ef,jb,oh m (by omega),oi m (by omega),oj,aZ,bS,eZ (show pre.length+(0+1)<=1073741824 by omega),bJ,cr,List.map_id',h3];rfl
theorem jZ(n:Nat)(h:n<=1048576):M.eG (n:Int)=some (bE n):=aHI n (by omega)
theorem A1(k:Nat)(h:k<256):M.jK (k:Int) 1=some [UInt8.ofNat k]:=by
 obtain⟨g,hg⟩:∃g,af=(g+1)+1:=⟨af-2,by have:=bU;omega⟩;have w:IntKind.wrap .i64 ((0:Int)+1)=1:=by decide
 have e1:∀(x:Int)(b:List UInt8),M.rY 1 (g+1) x 1 b=some b:=fun x b=>by rw[M.rY];simp
 have e2:M.rY 1 (g+1+1) (k:Int) 0 []=some [UInt8.ofNat k]:=by
  rw[M.rY];simp only[oh k h,oi k h,oj,w,e1];simp
 unfold M.jK;rw[hg,e2];simp
theorem NG(k:Nat)(h:k<256):M.j0 (k:Int) 1=some [UInt8.ofNat k]:=by
 obtain⟨g,hg⟩:∃g,af=(g+1)+1:=⟨af-2,by have:=bU;omega⟩;have w:IntKind.wrap .i64 ((0:Int)+1)=1:=by decide
 have e1:∀(x:Int)(b:List UInt8),M.rZ 1 (g+1) x 1 b=some b:=fun x b=>by rw[M.rZ];simp
 have e2:M.rZ 1 (g+1+1) (k:Int) 0 []=some [UInt8.ofNat k]:=by
  rw[M.rZ];simp only[aoh k (by omega),Nat.mod_eq_of_lt h,oh k h,oi k h,oj,w,e1];simp
 unfold M.j0;rw[hg,e2];simp
theorem cF{a b:List UInt8}(h:a.length+b.length<=1073741824):bM a b=true:=by
 unfold bM;exact du (by omega)
def pb(s:List UInt8):List UInt8:=bE s.length++s
theorem dE(s:List UInt8):(pb s).length<=9+s.length:=by
 have:=df s.length;unfold pb;rw[bq];omega
theorem aHJ(s:List UInt8)(h:s.length<=1000000000):M.ajE s=some (pb s):=by
 unfold M.ajE;have:=df s.length;rw[aHH _ (by omega)];simp only[aR,aT,aQ,cF (show(bE s.length).length+s.length<=1073741824 by omega),cr];rfl
theorem i7(s:List UInt8)(h:s.length<=1048576):M.ajE s=some (pb s):=aHJ s (by omega)
theorem aHK(s:List UInt8)(h:s.length<=1000000000):M.fi s=some (pb s):=by
 unfold M.fi;have:=df s.length;rw[aHI _ (by omega)];simp only[aR,aT,aQ,cF (show(bE s.length).length+s.length<=1073741824 by omega),cr];rfl
theorem ja(s:List UInt8)(h:s.length<=1048576):M.fi s=some (pb s):=aHK s (by omega)
end M
namespace M
open Go.V (inB cJ af bU bM)
mutual
def tB:aa->List UInt8
 |.mk k n l kids=>UInt8.ofNat k.toNat::(if k=20\/k=21 then pb n else if k=15 then bE kids.length++kB kids else(if 16<=k/\k<=19 then bE l.length++(l.map pb).flatten else[])++kB kids)
def kB:List aa->List UInt8
 |[]=>[]
 |x::r=>tB x++kB r
end
def lW(l:List (List UInt8)):List UInt8:=bE l.length++(l.map pb).flatten
theorem NH(t:aa):tB t=UInt8.ofNat t.Kind.toNat::(if t.Kind=20\/t.Kind=21 then pb t.Name else if t.Kind=15 then bE t.Kids.length++kB t.Kids else(if 16<=t.Kind/\t.Kind<=19 then lW t.cn else[])++kB t.Kids):=by
 cases t;rfl
theorem iO{α:Type}{f:α->List UInt8}{g:α->Nat}:∀(l:List α)(N:Nat),(∀x∈l,(f x).length<=N*(g x+1))->((l.map f).flatten).length<=N*aK g l
 |[],N,_=>by simp
 |x::r,N,h=>by
  have ih:=iO r N fun y hy=>h y (mX _ hy)
  have hx:=h x (om ..);have e:aK g (x::r)=(g x+1)+aK g r:=by simp only[aK]
  rw[fB,List.flatten_cons,bq,e,Nat.mul_add];omega
theorem oo:∀l,kB l=(l.map tB).flatten
 |[]=>rfl
 |x::r=>by rw[kB,fB,List.flatten_cons,oo r]
theorem uY(l:List (List UInt8)):(lW l).length<=9+10*aK List.length l:=by
 have h1:=df l.length;have h2:=iO (f:=pb) (g:=List.length) l 10 (fun x _=>by have:=dE x;omega);unfold lW;rw[bq];omega
theorem NI:∀(n:Nat)(t:aa),t.sz<n->(tB t).length<=20*(t.sz+1)
 |0,t,h=>absurd h (hC _)
 |n+1,t,h=>by
  have hk:=iO (f:=tB) (g:=aa.sz) t.Kids 20 (fun x hx=>NI n x (by have:=aa.il hx;omega));rw[<-oo]at hk;have hl:=uY t.cn;have hp:=dE t.Name;have hb:=df t.Kids.length;have hs:=aa.bI t;rw[NH,aZ];split
  ·omega
  ·split
   ·rw[bq];omega
   ·split
    ·rw[bq];omega
    ·rw[bq,bS];omega
theorem A2(l:List aa)(N:Nat)(h:aK aa.sz l<=N):(kB l).length<=20*N:=by
 have:=iO (f:=tB) (g:=aa.sz) l 20 (fun x _=>NI _ x (sj _));rw[<-oo]at this;have h2:20*aK aa.sz l<=20*N:=Nat.mul_le_mul_left _ h;omega
theorem lh{α:Type}{F:Nat->Int->List UInt8->Option (List UInt8)}{e:α->List UInt8}(l:List α)(N:Nat)(hn:l.length<=1048576)
 (step:∀f k b,∀hk:k<l.length,b.length+(e l[k]).length<=N->F (f+1) (k:Int) b=F f ((k+1:Nat):Int) (b++e l[k])) (stop:∀f b,F (f+1) (l.length:Int) b=some b)
 (a:List UInt8) (h0:a.length+((l.map e).flatten).length<=N):F af 0 a=some (a++(l.map e).flatten):=by
 have:=NJ (F:=F) (g:=fun b x=>b++e x) (h:=fun b=>b) l (by omega) (fun k b=>b.length+(((l.drop k).map e).flatten).length<=N) (fun f k b hk hI=>by
  rw[fa hk,fB,List.flatten_cons,bq]at hI;exact⟨step f k b hk (by omega),by rw[bq];omega⟩) (fun f b _=>stop f b) a (by simpa using h0)
 rw[this];congr 1;clear this step stop h0 hn
 induction l generalizing a with
 |nil=>simp
 |cons x r ih=>rw[List.foldl_cons,ih,fB,List.flatten_cons,ib]
theorem iP{s b:List UInt8}(h:b.length+s.length<=1073741824):M.eQ s b=some ((s.length:Int),b++s):=by
 unfold M.eQ;simp only[List.map_id',eZ h,aQ,cr]
theorem TZ(l:List (List UInt8))(h:aK List.length l<=1048576):M.u0 l=some (lW l):=by
 have hn:l.length<=1048576:=cq (bW _ _) h;have hb:=df l.length;have htot:=uY l;have GK:(bE l.length).length+((l.map pb).flatten).length<=1073741824:=by unfold lW at htot;rw[bq]at htot;omega
 have e:=lh (F:=fun f i b=>M.oq l (l.length:Int) f i b) (e:=pb) l 1073741824 hn (fun f k b hk hI=>by
  show M.oq l (l.length:Int) (f+1) (k:Int) b=_
  rw[M.oq];have hx:(l[k]).length<=1048576:=ot h (bA hk);simp only[getD_lt hk,bz,i7 _ hx,iP hI,bn,bH,hk,bj,cr,az,aQ,bo hk (by omega:l.length<2^62),aR,aT]) (fun f b=>by
  show M.oq l (l.length:Int) (f+1) _ b=_
  rw[M.oq];simp) (bE l.length) GK
 have e':M.oq l (l.length:Int) af 0 (bE l.length)=_:=e;unfold M.u0;rw[jY _ hn];simp only[aR,iP (b:=[]) (s:=bE l.length) (by simp;omega),jb,e'];have:M.ei (bE l.length++(l.map pb).flatten)=some (bE l.length++(l.map pb).flatten):=by
  unfold M.ei;rw[eZ (by rw[bq];exact GK)];rfl
 rw[this];rfl
theorem T0(l:List (List UInt8))(h:aK List.length l<=1048576):M.u4 l=some (lW l):=by
 have hn:l.length<=1048576:=cq (bW _ _) h;have hb:=df l.length;have htot:=uY l;have GK:(bE l.length).length+((l.map pb).flatten).length<=1073741824:=by unfold lW at htot;rw[bq]at htot;omega
 have e:=lh (F:=fun f i b=>M.ou l f i b) (e:=pb) l 1073741824 hn (fun f k b hk hI=>by
  show M.ou l (f+1) (k:Int) b=_
  rw[M.ou];have hx:(l[k]).length<=1048576:=ot h (bA hk);simp only[getD_lt hk,bz,ja _ hx,List.map_id',eZ hI,bn,bH,hk,bj,cr,az,aQ,bo hk (by omega:l.length<2^62),aR,aT]) (fun f b=>by
  show M.ou l (f+1) _ b=_
  rw[M.ou];simp) (bE l.length) GK
 have e':M.ou l af 0 (bE l.length)=_:=e;unfold M.u4;rw[jZ _ hn];simp only[aR,List.map_id',e',eZ (show(bE l.length).length<=1073741824 by omega),aT,bJ,cr];rfl
theorem T8{t:aa}(h:dF t=true):(1<=t.Kind/\t.Kind<=23)/\((16<=t.Kind/\t.Kind<=19)↔t.cn≠[])/\((t.Kind=20\/t.Kind=21)↔t.Name≠[]):=by
 rw[qC]at h;simp only[bD]at h;have hk:=h.1;unfold mY at hk;simp only[bD]at hk;obtain⟨⟨hl,hn⟩,hk⟩:=hk;refine⟨?_,?_,?_⟩
 ·unfold A3 at hk;split at hk
  ·omega
  ·split at hk
   ·omega
   ·split at hk
    ·omega
    ·split at hk
     ·omega
     ·split at hk
      ·omega
      ·split at hk
       ·omega
       ·simp only[bD,bw]at hk;omega
 ·unfold GL at hl;split at hl
  ·rename_i hb;simp only[bD,bw]at hb;refine⟨fun _ e=>?_,fun _=>hb⟩;rw[e]at hl;unfold ov at hl;simp at hl
  ·rename_i hb;simp only[bD,bw]at hb;have:t.cn=[]:=fD (by simpa using hl);exact⟨fun h=>absurd h hb,fun h=>absurd this h⟩
 ·unfold qD at hn;split at hn
  ·rename_i hb;simp only[gq,hU]at hb;refine⟨fun _ e=>?_,fun _=>hb⟩;rw[e]at hn;unfold dj at hn;simp at hn
  ·rename_i hb;simp only[gq,hU]at hb;have:t.Name=[]:=by simpa using hn
   exact⟨fun h=>absurd h hb,fun h=>absurd this h⟩
theorem kb{a b:Int}(h:a≠b):(a==b)=false:=by rw[d6];exact h
theorem kt{a b:Int}(h:a=b):(a==b)=true:=by rw[h];exact mA b
section
variable {rec :aa->Option (List UInt8)}{kids:List aa}
theorem T9(h:aK aa.sz kids<=1048576)(hr:∀x∈kids,rec x=some (tB x))(a:List UInt8)(ha:a.length<=100000000):M.ow rec kids (kids.length:Int) af a 0=some (a++kB kids):=by
 have hn:kids.length<=1048576:=cq (bW _ _) h;have hk:=A2 kids _ h;have e:=lh (F:=fun f i b=>M.ow rec kids (kids.length:Int) f b i) (e:=tB) kids 1073741824 hn (fun f k b hk hI=>by
  show M.ow rec kids (kids.length:Int) (f+1) b (k:Int)=_
  rw[M.ow];simp only[aa.aj,getD_lt hk,bz,hr _ (bA hk),cF hI,bn,bH,hk,bj,cr,az,aQ,bo hk (by omega:kids.length<2^62),aR,aT]) (fun f b=>by
  show M.ow rec kids (kids.length:Int) (f+1) b _=_
  rw[M.ow];simp) a (by rw[<-oo];omega)
 rw[oo];exact e
theorem NK{t:aa}(hkk:t.Kids=kids)(h:aK aa.sz kids<=1048576)(hr:∀x∈kids,rec x=some (tB x))(a:List UInt8)(ha:a.length<=100000000):M.ox rec af a 0 t=some (a++kB kids):=by
 have hn:kids.length<=1048576:=cq (bW _ _) h;have hk:=A2 kids _ h;have e:=lh (F:=fun f i b=>M.ox rec f b i t) (e:=tB) kids 1073741824 hn (fun f k b hk hI=>by
  show M.ox rec (f+1) b (k:Int) t=_
  rw[M.ox];simp only[aa.aj,hkk,getD_lt hk,bz,hr _ (bA hk),cF hI,bn,bH,hk,bj,cr,az,aQ,bo hk (by omega:kids.length<2^62),aR,aT]) (fun f b=>by
  show M.ox rec (f+1) b _ t=_
  rw[M.ox,hkk];simp) a (by rw[<-oo];omega)
 rw[oo];exact e
theorem aoj(h:aK aa.sz kids<=1048576)(hr:∀x∈kids,rec x=some (tB x)):M.A4 rec kids=some (bE kids.length++kB kids):=by
 have hn:kids.length<=1048576:=cq (bW _ _) h;have hk:=A2 kids _ h;have hb:=df kids.length;have e:=lh (F:=fun f i b=>M.oy rec kids (kids.length:Int) f i b) (e:=tB) kids 1073741824 hn (fun f k b hk hI=>by
  show M.oy rec kids (kids.length:Int) (f+1) (k:Int) b=_
  rw[M.oy];simp only[aa.aj,getD_lt hk,bz,hr _ (bA hk),iP hI,bn,bH,hk,bj,cr,az,aQ,bo hk (by omega:kids.length<2^62),aR,aT]) (fun f b=>by
  show M.oy rec kids (kids.length:Int) (f+1) _ b=_
  rw[M.oy];simp) (bE kids.length) (by rw[<-oo];omega)
 have e':M.oy rec kids (kids.length:Int) af 0 (bE kids.length)=_:=e;unfold M.A4;rw[jY _ hn];simp only[aR,iP (b:=[]) (s:=bE kids.length) (by simp;omega),jb,e'];have:M.ei (bE kids.length++(kids.map tB).flatten)=some (bE kids.length++(kids.map tB).flatten):=by
  unfold M.ei;rw[eZ (by rw[bq,<-oo];omega)];rfl
 rw[this,oo];rfl
end
theorem Ua:∀(m:Nat)(t:aa),t.sz<m->t.sz<=1048576->dF t=true->M.u6 m t=some (tB t)
 |0,t,h,_,_=>absurd h (hC _)
 |m+1,t,h,ht,hs=>by
  obtain⟨hkd,hlab,NL⟩:=T8 hs;have NM:∀x∈t.Kids,dF x=true:=by
   rw[qC,bD,u7,dr]at hs;exact hs.2
  have hr:∀x∈t.Kids,M.u6 m x=some (tB x):=fun x hx=>by
   have:=aa.il hx;exact Ua m x (by omega) (by omega) (NM x hx)
  have hK:=aa.sc ht;have hf:M.jK t.Kind 1=some [UInt8.ofNat t.Kind.toNat]:=by
   have:=A1 t.Kind.toNat (by omega)
   rwa [show((t.Kind.toNat:Nat):Int)=t.Kind by omega]at this
  show M.GM (M.u6 m) t=_
  unfold M.GM;rw[NH,hf,i7 _ (aa.qE ht),aoj hK hr,TZ _ (aa.vc ht)];have hp:=dE t.Name;have hnl:=aa.qE ht;have hkl:=A2 _ _ hK;have hll:=uY t.cn;have aok:=aa.vc ht;have hbl:=df t.Kids.length;by_cases h20:t.Kind=20\/t.Kind=21
  ·have:((t.Kind==20)||(t.Kind==21))=true:=by rcases h20 with h|h<;>simp[h]
   rw[this,cz h20];simp only[aR,aT,cr,aQ,cF (a:=[UInt8.ofNat t.Kind.toNat]) (b:=pb t.Name) (by simp;omega)];rfl
  ·rw[aw h20];simp only[not_or]at h20;rw[kb h20.1,kb h20.2];simp only[uA,ef];by_cases h15:t.Kind=15
   ·rw[cz h15,kt h15];simp only[aR,aT,cr,aQ,cF (a:=[UInt8.ofNat t.Kind.toNat]) (b:=bE t.Kids.length++kB t.Kids) (by simp;omega)];rfl
   ·rw[aw h15,kb h15];simp only[ef,aR,aT,aQ];by_cases hlk:16<=t.Kind/\t.Kind<=19
    ·have:(decide ((16:Int)<=t.Kind)&&decide (t.Kind<=19))=true:=by rw[du hlk.1,du hlk.2];rfl
     rw[this,cz hlk];simp only[cr];rw[T9 hK hr _ (by simp;omega)];simp only[cF (a:=[UInt8.ofNat t.Kind.toNat]) (b:=lW t.cn) (by simp;omega),cg,sf,bJ,cr];simp
    ·have:(decide ((16:Int)<=t.Kind)&&decide (t.Kind<=19))=false:=by
      rw[Bool.and_eq_false_iff];by_cases h0:(16:Int)<=t.Kind
      ·right;exact eD (by omega)
      ·left;exact eD h0
     rw[this,aw hlk];simp only[ef];rw[T9 hK hr _ (by simp)];simp
theorem Ub:∀(m:Nat)(t:aa),t.sz<m->t.sz<=1048576->dF t=true->M.vd m t=some (tB t)
 |0,t,h,_,_=>absurd h (hC _)
 |m+1,t,h,ht,hs=>by
  obtain⟨hkd,hlab,NL⟩:=T8 hs;have NM:∀x∈t.Kids,dF x=true:=by
   rw[qC,bD,u7,dr]at hs;exact hs.2
  have hr:∀x∈t.Kids,M.vd m x=some (tB x):=fun x hx=>by
   have:=aa.il hx;exact Ub m x (by omega) (by omega) (NM x hx)
  have hK:=aa.sc ht;have hf:M.j0 t.Kind 1=some [UInt8.ofNat t.Kind.toNat]:=by
   have:=NG t.Kind.toNat (by omega)
   rwa [show((t.Kind.toNat:Nat):Int)=t.Kind by omega]at this
  have hn:t.Kids.length<=1048576:=aa.kd ht
  show M.GN (M.vd m) t=_
  unfold M.GN;rw[NH,hf,ja _ (aa.qE ht),T0 _ (aa.vc ht),jZ _ hn,aa.aj];have hp:=dE t.Name;have hnl:=aa.qE ht;have hkl:=A2 _ _ hK;have hll:=uY t.cn;have aok:=aa.vc ht;have hbl:=df t.Kids.length;by_cases h20:t.Kind=20\/t.Kind=21
  ·have:(t.Name==[])=false:=by
    cases hh:t.Name with
    |nil=>exact absurd hh (NL.1 h20)
    |cons a r=>rfl
   rw[this,cz h20];simp only[rq,aR,aT,cr,aQ,cF (a:=[UInt8.ofNat t.Kind.toNat]) (b:=pb t.Name) (by simp;omega)];rfl
  ·rw[aw h20];have:t.Name=[]:=by
    by_cases hh:t.Name=[]
    ·exact hh
    ·exact absurd (NL.2 hh) h20
   rw[this];simp only[mA,eH,ef,aR,aT,aQ];by_cases hlk:16<=t.Kind/\t.Kind<=19
   ·have hne:=hlab.1 hlk;have hpos:0<t.cn.length:=List.length_pos_iff.2 hne;have d:decide ((0:Int)<(t.cn.length:Int))=true:=du (by omega);rw[d,aw (by omega),cz hlk];simp only[cr];rw[NK rfl hK hr _ (by simp;omega)];simp only[cF (a:=[UInt8.ofNat t.Kind.toNat]) (b:=lW t.cn) (by simp;omega),cg,sf,bJ,cr];simp
   ·have hnil:t.cn=[]:=by
     by_cases hh:t.cn=[]
     ·exact hh
     ·exact absurd (hlab.2 hh) hlk
    have d:decide ((0:Int)<(t.cn.length:Int))=false:=eD (by rw[hnil];simp);rw[d];simp only[ef];by_cases h15:t.Kind=15
    ·rw[cz h15,kt h15];simp only[cr];rw[NK rfl hK hr _ (by simp;omega)];simp only[cF (a:=[UInt8.ofNat t.Kind.toNat]) (b:=bE t.Kids.length) (by simp;omega),cg,sf,bJ,cr];simp
    ·rw[aw h15,aw hlk,kb h15];simp only[ef];rw[NK rfl hK hr _ (by simp)];simp
end M
namespace M
open Go.V (inB cJ af bU bM)
def jL(p:ar):List UInt8:=pb p.Name++tB p.aF
def ln(x:aA):List UInt8:=((pb x.Name++[if x.aF.Async then 1 else 0])++(bE x.aF.Params.length++(x.aF.Params.map jL).flatten))++tB x.aF.Result
def lX(f:ax):List UInt8:=(((pb f.cV++pb f.Name)++pb f.Version)++lW f.bK)++(bE f.Funcs.length++(f.Funcs.map ln).flatten)
theorem A5(t:aa):(tB t).length<=20*(t.sz+1):=NI _ t (sj _)
theorem NN(p:ar):(jL p).length<=30*(p.sz+1):=by
 have h1:=A5 p.aF;have h2:=dE p.Name;have h3:=ar.bI p;unfold jL;rw[bq];omega
theorem NP(x:aA):(ln x).length<=60*(x.sz+1):=by
 have h1:=A5 x.aF.Result;have h2:=dE x.Name;have h3:=aA.bI x;have h4:=aJ.bI x.aF;have h5:=df x.aF.Params.length;have h6:=iO (f:=jL) (g:=ar.sz) x.aF.Params 30 fun p _=>NN p
 unfold ln;simp only[bq,aZ,bS];omega
theorem Uc{f:aJ}(h:ip f=true):(∀p∈f.Params,dF p.aF=true)/\dF f.Result=true:=by
 unfold ip at h;simp only[bD,dr]at h;refine⟨fun p hp=>?_,Ud h.1.2⟩;have:=h.1.1.2.1 p hp;unfold lp at this;simp only[fj,lj,Bool.not_eq_false']at this;exact Ud this.1.2
where Ud {t:aa} (h:fZ t=true):dF t=true:=by unfold fZ at h;simp only[bD]at h;exact h.2
theorem Ue(t:aa)(h:t.sz<=1048576)(hs:dF t=true):M.yt t=some (tB t):=Ua af t (iQ h) h hs
theorem Uf(t:aa)(h:t.sz<=1048576)(hs:dF t=true):M.A6 t=some (tB t):=Ub af t (iQ h) h hs
theorem aol(x:aA)(h:x.sz<=1048576)(ho:ip x.aF=true):M.A7 x=some (ln x):=by
 have hle:=NP x;rw[aA.bI,aJ.bI]at h;obtain⟨hp,hr⟩:=Uc ho;have hl:x.aF.Params.length<=1048576:=cq (bW ar.sz x.aF.Params) (by omega);have hb:=df x.aF.Params.length;have hfl:=iO (f:=jL) (g:=ar.sz) x.aF.Params 30 fun p _=>NN p
 have hpa:∀k (hk:k<x.aF.Params.length),M.A8 x.aF.Params[k]=some (jL x.aF.Params[k]):=fun k hk=>by
  have hm:=aC ar.sz _ _ (bA hk);have hsz:=ar.bI x.aF.Params[k];have l1:=dE x.aF.Params[k].Name;have l2:=A5 x.aF.Params[k].aF;unfold M.A8 jL;rw[aa.aj,i7 _ (by omega),Ue _ (by omega) (hp _ (bA hk))];simp only[aR,aT,aQ,cF (a:=pb x.aF.Params[k].Name) (b:=tB x.aF.Params[k].aF) (by omega),cr]
 have e:=lh (F:=fun f i b=>M.oz x.aF.Params (x.aF.Params.length:Int) f i b) (e:=jL) x.aF.Params 1073741824 hl (fun f k b hk hI=>by
  show M.oz x.aF.Params (x.aF.Params.length:Int) (f+1) (k:Int) b=_
  rw[M.oz];simp only[ar.aj,getD_lt hk,hpa k hk,bz,iP hI,bn,bH,hk,bj,cr,az,aQ,bo hk (cu hl),aR,aT]) (fun f b=>by
  show M.oz x.aF.Params (x.aF.Params.length:Int) (f+1) _ b=_
  rw[M.oz];simp) (bE x.aF.Params.length) (by omega)
 have e':M.oz x.aF.Params (x.aF.Params.length:Int) af 0 (bE x.aF.Params.length)=_:=e;have hseq:M.A9 x.aF.Params=some (bE x.aF.Params.length++(x.aF.Params.map jL).flatten):=by
  unfold M.A9;rw[jY _ hl];simp only[aR,iP (b:=[]) (s:=bE x.aF.Params.length) (by simp;omega),jb,e'];have:M.ei (bE x.aF.Params.length++(x.aF.Params.map jL).flatten)=some (bE x.aF.Params.length++(x.aF.Params.map jL).flatten):=by
   unfold M.ei;rw[eZ (by rw[bq];omega)];rfl
  rw[this];rfl
 have hbit:M.jK (Option.getD (M.iD x.aF.Async) Inhabited.default) 1=some [if x.aF.Async then 1 else 0]:=by
  cases x.aF.Async
  ·exact A1 0 (by omega)
  ·exact A1 1 (by omega)
 have hbs:(M.iD x.aF.Async).isSome=true:=by cases x.aF.Async<;>rfl
 have l1:=dE x.Name;have l2:=A5 x.aF.Result;unfold M.A7;simp only[aa.aj,i7 x.Name (by omega),hbit,hbs,hseq,Ue x.aF.Result (by omega) hr,aR,aT,aQ];rw[cF (by simp only[bq,aZ,bS];omega),cF (by simp only[bq,aZ,bS];omega),cF (by simp only[bq,aZ,bS];omega)];rfl
theorem aom(x:aA)(h:x.sz<=1048576)(ho:ip x.aF=true):M.Ba x=some (ln x):=by
 rw[aA.bI,aJ.bI]at h;obtain⟨hp,hr⟩:=Uc ho;have hl:x.aF.Params.length<=1048576:=cq (bW ar.sz x.aF.Params) (by omega);have hb:=df x.aF.Params.length;have hfl:=iO (f:=jL) (g:=ar.sz) x.aF.Params 30 fun p _=>NN p
 have l1:=dE x.Name;have l2:=A5 x.aF.Result;have key:∀g k (b:List UInt8),k<=x.aF.Params.length->x.aF.Params.length-k<g->b.length+(((x.aF.Params.drop k).map jL).flatten).length<=1073741824->
  M.vf g b (k:Int) x=some (b++((x.aF.Params.drop k).map jL).flatten,x):=by
  intro g
  induction g with
  |zero=>intro k b h1 h2;omega
  |succ g ih=>
   intro k b h1 h2 h3;rw[M.vf];rcases cG k x.aF.Params.length with hk|hk
   ·have hm:=aC ar.sz _ _ (bA hk);have hsz:=ar.bI x.aF.Params[k];rw[fa hk,fB,List.flatten_cons,bq]at h3;have hpl:(jL x.aF.Params[k]).length=(pb x.aF.Params[k].Name).length+(tB x.aF.Params[k].aF).length:=by unfold jL;rw[bq]
    have c1:bM b (pb x.aF.Params[k].Name)=true:=cF (by omega);have c2:bM (b++pb x.aF.Params[k].Name) (tB x.aF.Params[k].aF)=true:=cF (by rw[bq];omega);simp only[aa.aj,aA.aj,getD_lt hk,ja x.aF.Params[k].Name (by omega),Uf x.aF.Params[k].aF (by omega) (hp _ (bA hk)),c1,c2,bz,bn,bH,hk,bj,cr,az,aQ,bo hk (cu hl),aR,aT];rw[ih (k+1) _ (by omega) (by omega) (by simp only[bq];omega),fa hk,fB,List.flatten_cons];unfold jL;simp[ib]
   ·have:k=x.aF.Params.length:=by omega
    subst this;rw[eB,aA.aj];simp
 have hbit:M.se x.aF.Async=some [if x.aF.Async then 1 else 0]:=by cases x.aF.Async<;>rfl
 have e:=key af 0 ((pb x.Name++[if x.aF.Async then 1 else 0])++bE x.aF.Params.length) (cZ _) (by have:=bU;omega) (by rw[gP];simp only[bq,aZ,bS];omega);rw[gP]at e;have e':M.vf af ((pb x.Name++[if x.aF.Async then 1 else 0])++bE x.aF.Params.length) 0 x=_:=e;unfold M.Ba;simp only[aa.aj,aA.aj,ja x.Name (by omega),hbit,jZ _ hl,e',Uf x.aF.Result (by omega) hr,aR,aT,aQ];rw[cF (by simp only[bq,aZ,bS];omega),cF (by simp only[bq,aZ,bS];omega),cF (by simp only[bq,aZ,bS];omega)];unfold ln;simp[ib]
theorem Ug{f:ax}(h:jM f=true):∀x∈f.Funcs,ip x.aF=true:=fun x hx=>by
 unfold jM at h;simp only[bD,dr]at h;have:=h.2.2.1 x hx;unfold mZ at this;simp only[bD]at this;exact this.1.2
theorem lens{f:ax}(h:f.sz<=1048576):f.cV.length<=1048576/\f.Name.length<=1048576/\f.Version.length<=1048576/\aK List.length f.bK<=1048576/\f.Funcs.length<=1048576/\(pb f.cV).length<=1048600/\(pb f.Name).length<=1048600/\(pb f.Version).length<=1048600/\(lW f.bK).length<=10485800/\(bE f.Funcs.length).length<=9/\((f.Funcs.map ln).flatten).length<=62914560:=by
 rw[ax.bI]at h;have h1:=dE f.cV;have h2:=dE f.Name;have h3:=dE f.Version;have h4:=uY f.bK;have h5:=df f.Funcs.length;have h6:=iO (f:=ln) (g:=aA.sz) f.Funcs 60 fun x _=>NP x
 have h7:=bW aA.sz f.Funcs;refine⟨by omega,by omega,by omega,by omega,by omega,by omega,by omega,by omega,by omega,by omega,by omega⟩
theorem aon(f:ax)(h:f.sz<=1048576)(ho:jM f=true):M.Bc f=some (lX f):=by
 obtain⟨g1,g2,g3,g4,g5,g6,g7,g8,g9,g10,g11⟩:=lens h;have hf:=Ug ho;have hsz:∀k (hk:k<f.Funcs.length),f.Funcs[k].sz<=1048576:=fun k hk=>by rw[ax.bI]at h;have:=aC aA.sz _ _ (bA hk);omega
 have e:=lh (F:=fun g i b=>M.oC f.Funcs (f.Funcs.length:Int) g i b) (e:=ln) f.Funcs 1073741824 g5 (fun g k b hk hI=>by
  show M.oC f.Funcs (f.Funcs.length:Int) (g+1) (k:Int) b=_
  rw[M.oC];simp only[aA.aj,getD_lt hk,aol _ (hsz k hk) (hf _ (bA hk)),bz,iP hI,bn,bH,hk,bj,cr,az,aQ,bo hk (cu g5),aR,aT]) (fun g b=>by
  show M.oC f.Funcs (f.Funcs.length:Int) (g+1) _ b=_
  rw[M.oC];simp) (bE f.Funcs.length) (by omega)
 have e':M.oC f.Funcs (f.Funcs.length:Int) af 0 (bE f.Funcs.length)=_:=e;have hseq:M.Bd f.Funcs=some (bE f.Funcs.length++(f.Funcs.map ln).flatten):=by
  unfold M.Bd;rw[jY _ g5];simp only[aR,iP (b:=[]) (s:=bE f.Funcs.length) (by simp;omega),jb,e'];have:M.ei (bE f.Funcs.length++(f.Funcs.map ln).flatten)=some (bE f.Funcs.length++(f.Funcs.map ln).flatten):=by
   unfold M.ei;rw[eZ (by rw[bq];omega)];rfl
  rw[this];rfl
 unfold M.Bc;simp only[i7 f.cV g1,i7 f.Name g2,i7 f.Version g3,TZ f.bK g4,hseq,aR,aT,aQ];rw[cF (by first|omega|(simp only[bq];omega)),cF (by first|omega|(simp only[bq];omega)),cF (by first|omega|(simp only[bq];omega)),cF (by first|omega|(simp only[bq];omega))];rfl
theorem aoo(f:ax)(h:f.sz<=1048576)(ho:jM f=true):M.Be f=some (lX f):=by
 obtain⟨g1,g2,g3,g4,g5,g6,g7,g8,g9,g10,g11⟩:=lens h;have hf:=Ug ho;have hsz:∀k (hk:k<f.Funcs.length),f.Funcs[k].sz<=1048576:=fun k hk=>by rw[ax.bI]at h;have:=aC aA.sz _ _ (bA hk);omega
 have e:=lh (F:=fun g i b=>M.oD f g i b) (e:=ln) f.Funcs 1073741824 g5 (fun g k b hk hI=>by
  show M.oD f (g+1) (k:Int) b=_
  rw[M.oD];simp only[aA.aj,getD_lt hk,aom _ (hsz k hk) (hf _ (bA hk)),List.map_id',eZ hI,bz,bn,bH,hk,bj,cr,az,aQ,bo hk (cu g5),aR,aT]) (fun g b=>by
  show M.oD f (g+1) _ b=_
  rw[M.oD];simp) (((((pb f.cV++pb f.Name)++pb f.Version)++lW f.bK))++bE f.Funcs.length) (by simp only[bq];omega)
 have e':M.oD f af 0 (((((pb f.cV++pb f.Name)++pb f.Version)++lW f.bK))++bE f.Funcs.length)=_:=e;unfold M.Be;simp only[ja f.cV g1,ja f.Name g2,ja f.Version g3,T0 f.bK g4,jZ _ g5,List.map_id',e',aR,aT,aQ];rw[cF (by first|omega|(simp only[bq];omega)),cF (by first|omega|(simp only[bq];omega)),cF (by first|omega|(simp only[bq];omega)),cF (by first|omega|(simp only[bq];omega)),eZ (by simp only[bq];omega)];unfold lX;simp[ib]
end M
namespace M
open Go Go.V
theorem GO(n:Int):fA .and .i64 n 127=n%128:=by
 have e:(BitVec.ofInt 64 n&&& BitVec.ofInt 64 127).toNat=(n%128).toNat:=by
  rw[BitVec.toNat_and];have h1:(BitVec.ofInt 64 n).toNat=(n%18446744073709551616).toNat:=by rw[BitVec.toNat_ofInt];rfl
  have h2:(BitVec.ofInt 64 (127:Int)).toNat=2^7-1:=by decide
  rw[h1,h2,Nat.and_two_pow_sub_one_eq_mod];omega
 show IntKind.wrap .i64 (((BitVec.ofInt 64 n&&& BitVec.ofInt 64 127).toNat:Nat):Int)=_
 rw[e,yq _ (by omega)];omega
theorem Uh(n:Int):mW .i64 n 7=n/128:=by
 have:mW .i64 n 7=n.fdiv 128:=rfl;rw[this,Int.fdiv_eq_ediv_of_nonneg _ (by omega)]
theorem aop(m:Nat)(h:m<128):fA .or .u8 (m:Int) 128=((m+128:Nat):Int):=by
 have:∀k:Fin 128,fA .or .u8 ((k.val:Nat):Int) 128=((k.val+128:Nat):Int):=by decide+kernel
 exact this ⟨m,h⟩
def kH:Nat->Int->List UInt8
 |0,n=>[UInt8.ofNat (n%128).toNat]
 |f+1,n=>if -64<=n/\n<=63 then[UInt8.ofNat (n%128).toNat]else UInt8.ofNat ((n%128).toNat+128)::kH f (n/128)
theorem GQ:∀f n,(kH f n).length<=f+1
 |0,n=>by simp[kH]
 |f+1,n=>by
  unfold kH;split
  ·simp
  ·have:=GQ f (n/128);simp only[aZ];omega
theorem GR(n:Int):∃k:Nat,n%128=(k:Int)/\k<128:=⟨(n%128).toNat,by omega,by omega⟩
theorem Ui:∀(f:Nat)(n:Int)(g:Nat)(b:List UInt8),-(64*(128:Int)^f)<=n->n<64*(128:Int)^f->b.length+f<=1000->
 ∃(m:Int)(pre:List UInt8),M.vg (g+f+1) n b=some (m,b++pre)/\pre++[UInt8.ofNat (m%128).toNat]=kH f n/\pre.length<=f
 |f,n,g,b,h1,h2,hb=>by
  by_cases hn: -64<=n/\n<=63
  ·refine⟨n,[],?_,?_,cZ _⟩
   ·rw[M.vg,du (show(-(64:Int))<=n by omega),du (show n<=63 by omega)];simp
   ·cases f with
    |zero=>rfl
    |succ f=>rw[kH,cz hn];rfl
  ·match f,h1,h2 with
   |0,h1,h2=>simp at h1 h2;omega
   |f+1,h1,h2=>
    have hd:(!(decide ((-(64:Int))<=n)&&decide (n<=(63:Int))))=true:=by
     cases hx:(decide ((-(64:Int))<=n)&&decide (n<=(63:Int)))
     ·rfl
     ·rw[bD,bw,bw]at hx;exact absurd hx hn
    obtain⟨k,hk,hk2⟩:=GR n;have e1:fA .or .u8 (IntKind.wrap .u8 (fA .and .i64 n 127)) 128=((k+128:Nat):Int):=by
     rw[GO,hk,oh k (by omega),aop k hk2]
    rw[Int.pow_succ]at h1 h2;obtain⟨m,pre,i1,i3,i4⟩:=Ui f (n/128) g (b++[UInt8.ofNat (k+128)]) (by omega) (by omega) (by simp;omega);refine⟨m,UInt8.ofNat (k+128)::pre,?_,?_,by simp;omega⟩
    ·rw[show g+(f+1)+1=(g+f+1)+1 by omega,M.vg,hd];simp only[e1,Uh,oi _ (show k+128<256 by omega),oj,aZ,bS,eZ (show b.length+(0+1)<=1073741824 by omega),aQ,az,cr,i1];simp
    ·rw[kH,aw hn,<-i3,hk];rfl
theorem Uj:∀(f:Nat)(n:Int)(g:Nat)(b:List UInt8),-(64*(128:Int)^f)<=n->n<64*(128:Int)^f->b.length+f<=1000->
 ∃(m:Int)(pre:List UInt8),M.vh (g+f+1) n b=some (m,b++pre)/\pre++[UInt8.ofNat (m%128).toNat]=kH f n/\pre.length<=f
 |f,n,g,b,h1,h2,hb=>by
  by_cases hn: -64<=n/\n<=63
  ·refine⟨n,[],?_,?_,cZ _⟩
   ·rw[M.vh,eD (show ¬n<(-(64:Int)) by omega),eD (show ¬(63:Int)<n by omega)];simp
   ·cases f with
    |zero=>rfl
    |succ f=>rw[kH,cz hn];rfl
  ·match f,h1,h2 with
   |0,h1,h2=>simp at h1 h2;omega
   |f+1,h1,h2=>
    have hd:(decide (n<(-(64:Int)))||decide ((63:Int)<n))=true:=by
     rw[gq,bw,bw];omega
    obtain⟨k,hk,hk2⟩:=GR n;have e1:IntKind.wrap .u8 (IntKind.wrap .i64 (fA .and .i64 n 127+128))=((k+128:Nat):Int):=by
     rw[GO,hk,show((k:Int)+128)=((k+128:Nat):Int) by omega,yq _ (by omega),oh _ (by omega)]
    rw[Int.pow_succ]at h1 h2;obtain⟨m,pre,i1,i3,i4⟩:=Uj f (n/128) g (b++[UInt8.ofNat (k+128)]) (by omega) (by omega) (by simp;omega);refine⟨m,UInt8.ofNat (k+128)::pre,?_,?_,by simp;omega⟩
    ·rw[show g+(f+1)+1=(g+f+1)+1 by omega,M.vh,hd];simp only[e1,Uh,oi _ (show k+128<256 by omega),oj,aZ,bS,eZ (show b.length+(0+1)<=1073741824 by omega),aQ,az,cr,i1];simp
    ·rw[kH,aw hn,<-i3,hk];rfl
theorem aoq(n:Int)(h1: -9223372036854775808<=n)(h2:n<=9223372036854775807):M.Bg n=some (kH 9 n):=by
 obtain⟨g,hg⟩:∃g,af=g+9+1:=⟨af-10,by have:=bU;omega⟩;obtain⟨m,pre,e1,e3,e4⟩:=Ui 9 n g [] (by omega) (by omega) (by simp);obtain⟨k,hk,hk2⟩:=GR m;unfold M.Bg;rw[hg,e1];rw[hk]at e3;simp only[jb,GO,hk,oh k (by omega),oi k (by omega),oj,aZ,bS,eZ (show pre.length+(0+1)<=1073741824 by omega),bJ,cr,List.map_id'];rw[<-e3];rfl
theorem aor(n:Int)(h1: -9223372036854775808<=n)(h2:n<=9223372036854775807):M.Bh n=some (kH 9 n):=by
 obtain⟨g,hg⟩:∃g,af=g+9+1:=⟨af-10,by have:=bU;omega⟩;obtain⟨m,pre,e1,e3,e4⟩:=Uj 9 n g [] (by omega) (by omega) (by simp);obtain⟨k,hk,hk2⟩:=GR m;unfold M.Bh;rw[hg,e1];rw[hk]at e3;simp only[jb,GO,hk,oh k (by omega),oi k (by omega),oj,aZ,bS,eZ (show pre.length+(0+1)<=1073741824 by omega),bJ,cr,List.map_id'];rw[<-e3];rfl
noncomputable def vi(op:Int):Bool:=((M.m3 op).getD default).2.2
noncomputable def ke(i:aE):List UInt8:=[UInt8.ofNat i.Op.toNat]++(bif i.Op==1 then kH 9 i.A else bif vi i.Op then bE i.A.toNat else[])
theorem NQ(i:aE):(ke i).length<=11:=by
 have h1:=GQ 9 i.A;have h2:=df i.A.toNat;unfold ke;cases (i.Op==1)<;>cases vi i.Op<;>simp<;>omega
theorem aos(op:Int):M.yu op=M.m3 op:=rfl
theorem aot:M.m3 1=some (-9223372036854775808,9223372036854775807,true):=rfl
theorem Uk{i:aE}(h:fM i=true):(1<=i.Op/\i.Op<=40)/\(i.Op=1-> -9223372036854775808<=i.A/\i.A<=9223372036854775807)/\(i.Op≠1->0<=i.A/\i.A<=4096):=by
 obtain⟨y,hy,hb⟩:=GU i.Op;have h0:=(Ul h).1;unfold fM M.oG at h;rw[hy]at h;simp only[aT,aR,bJ,cr,bD,bw]at h;refine⟨h0,fun h1=>?_,fun h1=>?_⟩
 ·rw[h1,aot]at hy;cases hy;exact h.2
 ·have:=hb h1;omega
theorem Um(op:Int):∃y,M.m3 op=some y/\y.2.2=vi op:=by
 obtain⟨y,hy,-⟩:=GU op;exact⟨y,hy,by unfold vi;rw[hy];rfl⟩
theorem aou{i:aE}(h:fM i=true):M.Bi i=some (ke i):=by
 obtain⟨⟨o1,o2⟩,hc,hn⟩:=Uk h;obtain⟨y,hy,hr⟩:=Um i.Op;have hf:M.jK i.Op 1=some [UInt8.ofNat i.Op.toNat]:=by
  have:=A1 i.Op.toNat (by omega)
  rwa [show((i.Op.toNat:Nat):Int)=i.Op by omega]at this
 have l1:=GQ 9 i.A;have l2:=df i.A.toNat;unfold M.Bi ke;cases h1:(i.Op==1)
 ·have hne:i.Op≠1:=by simpa using h1
  have hl:M.dN i.A=some (bE i.A.toNat):=by
   have:=jY i.A.toNat (by have:=hn hne;omega)
   rwa [show((i.A.toNat:Nat):Int)=i.A by have:=hn hne;omega]at this
  simp only[hf,hy,hl,hr,aR,aT,aQ,bJ,sf,kJ,rq,az,ef,cF (a:=[UInt8.ofNat i.Op.toNat]) (b:=bE i.A.toNat) (by simp;omega)];cases vi i.Op<;>simp
 ·have h1':i.Op=1:=by simpa using h1
  have hs:=aoq i.A (hc h1').1 (hc h1').2;simp only[hf,hy,hs,hr,aR,aT,aQ,bJ,sf,eH,kJ,az,cr,cF (a:=[UInt8.ofNat i.Op.toNat]) (b:=kH 9 i.A) (by simp;omega)]
theorem Un(i:aE):M.vj i=some (fM i):=by
 unfold M.vj;rw[(GV i).2];rfl
theorem aov{i:aE}(h:fM i=true):M.Bj i=some (ke i):=by
 obtain⟨⟨o1,o2⟩,hc,hn⟩:=Uk h;obtain⟨y,hy,hr⟩:=Um i.Op;have hf:M.j0 i.Op 1=some [UInt8.ofNat i.Op.toNat]:=by
  have:=NG i.Op.toNat (by omega)
  rwa [show((i.Op.toNat:Nat):Int)=i.Op by omega]at this
 have l1:=GQ 9 i.A;have l2:=df i.A.toNat;unfold M.Bj ke;simp only[Un,h,aos,hy,hr,hf,aR,aT,eH,ef];cases h1:(i.Op==1)
 ·have hne:i.Op≠1:=by simpa using h1
  have hl:M.eG i.A=some (bE i.A.toNat):=by
   have:=jZ i.A.toNat (by have:=hn hne;omega)
   rwa [show((i.A.toNat:Nat):Int)=i.A by have:=hn hne;omega]at this
  cases vi i.Op
  ·simp
  ·simp only[hl,eH,ef,cr,aR,aT,aQ,bJ,cF (a:=[UInt8.ofNat i.Op.toNat]) (b:=bE i.A.toNat) (by simp;omega)]
 ·have h1':i.Op=1:=by simpa using h1
  have hs:=aor i.A (hc h1').1 (hc h1').2;have hh:vi i.Op=true:=by rw[h1'];rfl
  simp only[hs,hh,eH,ef,cr,aR,aT,aQ,bJ,cF (a:=[UInt8.ofNat i.Op.toNat]) (b:=kH 9 i.A) (by simp;omega)]
noncomputable def oH(code:List aE):List UInt8:=bE code.length++(code.map ke).flatten
theorem vk{α:Type}(f:α->List UInt8)(N:Nat):∀l:List α,(∀x∈l,(f x).length<=N)->((l.map f).flatten).length<=N*l.length
 |[],_=>by simp
 |x::r,h=>by
  have h1:=h x (by simp);have h2:=vk f N r fun y hy=>h y (by simp[hy])
  rw[fB,List.flatten_cons,bq,aZ,Nat.mul_add];omega
theorem NR(code:List aE)(h:code.length<=120):(oH code).length<=1400:=by
 have h1:=df code.length;have h2:=vk ke 11 code fun x _=>NQ x
 unfold oH;rw[bq];omega
theorem aow(code:List aE)(h:code.length<=120)(hb:∀i∈code,fM i=true):M.Bl code=some (oH code):=by
 have hl:=df code.length;have hfl:=vk ke 11 code fun x _=>NQ x
 have e:=f5 (p:=fun i=> !fM i) (F:=M.vl code (code.length:Int)) (e:=()) (fun k=>k) code (by omega) (fun f k hk=>by
  rw[M.vl];have ec:M.Bm code[k]=some (!fM code[k]):=by unfold M.Bm;rw[(GV _).1];rfl
  simp only[getD_lt hk,ec,bz,bn,bH,hk,bj,cr,az,aQ,bo hk (by omega:code.length<2^62),aR,aT]) (fun f=>by
  rw[M.vl];simp)
 have hall:code.all fM=true:=dr.2 hb;have e2:M.Bn code=some (!code.all fM):=by
  unfold M.Bn M.GX;rw[e,iE,jN];cases code.findIdx? (fun i=> !fM i)<;>simp
 have e4:=lh (F:=fun f i b=>M.oI code (code.length:Int) f i b) (e:=ke) code 1073741824 (by omega) (fun f k b hk hI=>by
  show M.oI code (code.length:Int) (f+1) (k:Int) b=_
  rw[M.oI];simp only[getD_lt hk,bz,aou (hb _ (bA hk)),iP hI,bn,bH,hk,bj,cr,az,aQ,bo hk (by omega:code.length<2^62),aR,aT]) (fun f b=>by
  show M.oI code (code.length:Int) (f+1) _ b=_
  rw[M.oI];simp) (bE code.length) (by omega)
 have e4':M.oI code (code.length:Int) af 0 (bE code.length)=_:=e4;unfold M.Bl;rw[e2,hall,eD (show ¬(120:Int)<((code.length:Nat):Int) by omega),jY _ (by omega)];simp only[aR,iP (b:=[]) (s:=bE code.length) (by simp;omega),jb,e4',eH,uA,ef];have:M.ei (bE code.length++(code.map ke).flatten)=some (bE code.length++(code.map ke).flatten):=by
  unfold M.ei;rw[eZ (by rw[bq];omega)];rfl
 rw[this];rfl
theorem aox(code:List aE)(h:code.length<=120)(hb:∀i∈code,fM i=true):M.Bo code=some (oH code):=by
 have hl:=df code.length;have hfl:=vk ke 11 code fun x _=>NQ x
 have key:∀g k (b:List UInt8),k<=code.length->code.length-k<g->b.length+(((code.drop k).map ke).flatten).length<=1073741824->
  M.vm code g (k:Int) b=some (.inr (b++((code.drop k).map ke).flatten)):=by
  intro g
  induction g with
  |zero=>intro k b h1 h2;omega
  |succ g ih=>
   intro k b h1 h2 h3;rw[M.vm];rcases cG k code.length with hk|hk
   ·rw[fa hk,fB,List.flatten_cons,bq]at h3;have hi:=hb _ (bA hk);simp only[getD_lt hk,Un,hi,aov hi,List.map_id',bz,bn,bH,hk,bj,cr,ef,eH,az,aQ,eZ (show b.length+(ke code[k]).length<=1073741824 by omega),bo hk (by omega:code.length<2^62),aR,aT];rw[ih (k+1) _ (by omega) (by omega) (by simp only[bq];omega),fa hk,fB,List.flatten_cons];simp[ib]
   ·have:k=code.length:=by omega
    subst this;rw[eB];simp
 have e:=key af 0 (bE code.length) (cZ _) (by have:=bU;omega) (by rw[gP];omega);rw[gP]at e;have e':M.vm code af 0 (bE code.length)=_:=e;unfold M.Bo;rw[eD (show ¬(120:Int)<((code.length:Nat):Int) by omega),jZ _ (by omega)];simp only[aR,List.map_id',e',eZ (show(bE code.length).length<=1073741824 by omega),aT,bJ,cr,ef];rfl
end M
namespace M
open Go Go.V
theorem NS{α R:Type}{F:Nat->Int->List UInt8->List UInt8->Option R}{w:List UInt8->List UInt8->R}{e1 e2:α->List UInt8}(l:List α)(N:Nat)(hn:l.length<=1048576)
 (step:∀f k a b,∀hk:k<l.length,a.length+(e1 l[k]).length<=N->b.length+(e2 l[k]).length<=N->F (f+1) (k:Int) a b=F f ((k+1:Nat):Int) (a++e1 l[k]) (b++e2 l[k])) (stop:∀f a b,F (f+1) (l.length:Int) a b=some (w a b))
 (a b:List UInt8) (ha:a.length+((l.map e1).flatten).length<=N) (hb:b.length+((l.map e2).flatten).length<=N):F af 0 a b=some (w (a++(l.map e1).flatten) (b++(l.map e2).flatten)):=by
 have key:∀g k (a b:List UInt8),k<=l.length->l.length-k<g->a.length+(((l.drop k).map e1).flatten).length<=N->b.length+(((l.drop k).map e2).flatten).length<=N->
  F g (k:Int) a b=some (w (a++((l.drop k).map e1).flatten) (b++((l.drop k).map e2).flatten)):=by
  intro g
  induction g with
  |zero=>intro k a b h1 h2;omega
  |succ g ih=>
   intro k a b h1 h2 h3 h4;rcases cG k l.length with hk|hk
   ·rw[fa hk,fB,List.flatten_cons,bq]at h3 h4;rw[step g k a b hk (by omega) (by omega),ih (k+1) _ _ (by omega) (by omega) (by rw[bq];omega) (by rw[bq];omega),fa hk,fB,List.flatten_cons,fB,List.flatten_cons,ib,ib]
   ·have:k=l.length:=by omega
    subst this;rw[eB,stop];simp
 have:=key af 0 a b (cZ _) (by have:=bU;omega) (by simpa using ha) (by simpa using hb);simpa using this
theorem vn{α R:Type}{F:Nat->Int->List UInt8->Option R}{w:List UInt8->R}{e:α->List UInt8}(l:List α)(N:Nat)(hn:l.length<=1048576)
 (step:∀f k a,∀hk:k<l.length,a.length+(e l[k]).length<=N->F (f+1) (k:Int) a=F f ((k+1:Nat):Int) (a++e l[k])) (stop:∀f a,F (f+1) (l.length:Int) a=some (w a))
 (a:List UInt8) (ha:a.length+((l.map e).flatten).length<=N):F af 0 a=some (w (a++(l.map e).flatten)):=by
 have hz:((l.map (fun _=>([]:List UInt8))).flatten)=[]:=by
  clear ha stop step hn
  induction l with
  |nil=>rfl
  |cons x r ih=>rw[fB,List.flatten_cons,ih];rfl
 have:=NS (F:=fun g i a b=>F g i a) (w:=fun a b=>w a) (e1:=e) (e2:=fun _=>[]) l N hn (fun f k a b hk h1 _=>step f k a hk h1) (fun f a b=>stop f a) a [] ha (by rw[hz];simp);exact this
structure MB (m:aN):Prop where
 pg:1<=m.cU/\m.cU<=16
 ni:m.al.length<=12
 nc:m.aB.length<=8
 im:∀x∈m.al,(0<=x.Params/\x.Params<=8)/\x.Name.length<=40
 co:∀x∈m.aB,(0<=x.Params/\x.Params<=8)/\(0<=x.cO/\x.cO<=8)/\x.Name.length<=40/\x.Code.length<=120/\∀i∈x.Code,fM i=true
theorem Uo{s:List UInt8}(h:gw s=true):s.length<=40:=by
 unfold gw at h;simp only[bD,bw]at h;exact h.2.2
theorem NT{m:aN}(h:gQ m=true):MB m:=by
 unfold gQ vo at h;simp only[bD,bw,dr]at h;obtain⟨⟨⟨hp,hi⟩,hc⟩,⟨h1,h2⟩,⟨-,n1⟩,-,n2⟩:=h;refine⟨hp,hi,hc,fun x hx=>⟨?_,Uo (n1 _ (qh.2 ⟨x,hx,rfl⟩))⟩,fun x hx=>?_⟩
 ·have:=h1 x hx;unfold oJ at this;simpa using this
 ·have:=h2 x hx;unfold lq at this;simp only[bD,bw,dr]at this;exact⟨this.1.1.1,this.1.1.2,Uo (n2 _ (qh.2 ⟨x,hx,rfl⟩)),this.1.2,this.2⟩
def m4(b:Bool):List UInt8:=[if b then 1 else 0]
theorem Up(b:Bool):M.iD b=some (if b then 1 else 0):=by cases b<;>rfl
theorem Ur(b:Bool):M.dN (if b then 1 else 0)=some (m4 b):=by
 cases b
 ·exact jY 0 (by omega)
 ·exact jY 1 (by omega)
theorem Us(b:Bool):M.se b=some (m4 b):=by cases b<;>rfl
theorem yv(b:Bool):(m4 b).length=1:=rfl
def m5(x:aO):List UInt8:=(pb x.Name++bE x.Params.toNat)++m4 x.Result
def qF(x:av):List UInt8:=((pb x.Name++bE x.Params.toNat)++bE x.cO.toNat)++m4 x.Result
noncomputable def oK(x:av):List UInt8:=pb (oH x.Code)
theorem aoy{x:aO}(h:x.Name.length<=40):(m5 x).length<=60:=by
 have h1:=dE x.Name;have h2:=df x.Params.toNat;have h3:=yv x.Result;unfold m5;simp only[bq];omega
theorem aoz{x:av}(h:x.Name.length<=40):(qF x).length<=70:=by
 have h1:=dE x.Name;have h2:=df x.Params.toNat;have h4:=df x.cO.toNat;have h3:=yv x.Result;unfold qF;simp only[bq];omega
theorem aoA{x:av}(h:x.Code.length<=120):(oK x).length<=1410:=by
 have h1:=dE (oH x.Code);have h2:=NR x.Code h;unfold oK;omega
theorem vp{n:Int}(h0:0<=n)(h:n<=1048576):M.dN n=some (bE n.toNat):=by
 have:=jY n.toNat (by omega)
 rwa [show((n.toNat:Nat):Int)=n by omega]at this
theorem vq{n:Int}(h0:0<=n)(h:n<=1048576):M.eG n=some (bE n.toNat):=by
 have:=jZ n.toNat (by omega)
 rwa [show((n.toNat:Nat):Int)=n by omega]at this
noncomputable def qG(m:aN):List UInt8:=bE m.al.length++(m.al.map m5).flatten
noncomputable def Bq(m:aN):List UInt8:=bE m.aB.length++(m.aB.map qF).flatten
noncomputable def Br(m:aN):List UInt8:=bE m.aB.length++(m.aB.map oK).flatten
noncomputable def eR(m:aN):List dn:=[dn.mk 1 [] (bE m.cU.toNat),dn.mk 2 [] (qG m),dn.mk 3 [] (Bq m),dn.mk 4 [] (Br m)]
theorem MB.lens{m:aN}(h:MB m):((m.al.map m5).flatten).length<=720/\((m.aB.map qF).flatten).length<=560/\((m.aB.map oK).flatten).length<=11280:=by
 have h1:=vk m5 60 m.al fun x hx=>aoy (h.im x hx).2
 have h2:=vk qF 70 m.aB fun x hx=>aoz (h.co x hx).2.2.1
 have h3:=vk oK 1410 m.aB fun x hx=>aoA (h.co x hx).2.2.2.1
 have:=h.ni;have:=h.nc;refine⟨by omega,by omega,by omega⟩
theorem aoB{m:aN}(h:MB m):M.Bt m=some (eR m):=by
 obtain⟨z1,z2,z3⟩:=h.lens;have hl1:=df m.al.length;have hl2:=df m.aB.length;have hni:=h.ni;have hnc:=h.nc;have e1:=vn (F:=fun f i b=>M.oL (bE m.aB.length) (bE m.aB.length) m.al ((m.al.length:Nat):Int) m f b i) (w:=fun b=>(b,bE m.aB.length,bE m.aB.length,m)) (e:=m5) m.al 1000000 (by omega) (fun f k b hk hI=>by
  show M.oL _ _ _ _ m (f+1) b (k:Int)=_
  rw[M.oL];obtain⟨p,n⟩:=h.im _ (bA hk);have g1:=dE m.al[k].Name;have g2:=df m.al[k].Params.toNat;have g3:=yv m.al[k].Result;have c1:bM (pb m.al[k].Name) (bE m.al[k].Params.toNat)=true:=cF (by omega);have c2:bM (pb m.al[k].Name++bE m.al[k].Params.toNat) (m4 m.al[k].Result)=true:=cF (by rw[bq];omega);have c3:bM b ((pb m.al[k].Name++bE m.al[k].Params.toNat)++m4 m.al[k].Result)=true:=cF (by have:=hI;unfold m5 at this;omega);simp only[getD_lt hk,bz,i7 m.al[k].Name (by omega),vp p.1 (by omega),Up,Ur,c1,c2,c3,bn,bH,hk,bj,cr,az,aQ,bo hk (by omega:m.al.length<2^62),aR,aT];rfl) (fun f b=>by
  show M.oL _ _ _ _ m (f+1) b _=_
  rw[M.oL];simp) (bE m.al.length) (by omega)
 have e1':M.oL (bE m.aB.length) (bE m.aB.length) m.al ((m.al.length:Nat):Int) m af (bE m.al.length) 0=_:=e1;have e2:=NS (F:=fun f i a b=>M.oM (qG m) m.aB ((m.aB.length:Nat):Int) m f a b i) (w:=fun a b=>(qG m,a,b,m)) (e1:=qF) (e2:=oK) m.aB 1000000 (by omega) (fun f k a b hk hI hJ=>by
  show M.oM _ _ _ m (f+1) a b (k:Int)=_
  rw[M.oM];obtain⟨p,q,n,c,hins⟩:=h.co _ (bA hk);have g1:=dE m.aB[k].Name;have g2:=df m.aB[k].Params.toNat;have g4:=df m.aB[k].cO.toNat;have g3:=yv m.aB[k].Result;have g5:=NR m.aB[k].Code c;have c1:bM (pb m.aB[k].Name) (bE m.aB[k].Params.toNat)=true:=cF (by omega);have c4:bM (pb m.aB[k].Name++bE m.aB[k].Params.toNat) (bE m.aB[k].cO.toNat)=true:=cF (by rw[bq];omega);have c2:bM ((pb m.aB[k].Name++bE m.aB[k].Params.toNat)++bE m.aB[k].cO.toNat) (m4 m.aB[k].Result)=true:=cF (by rw[bq,bq];omega);have c3:bM a (((pb m.aB[k].Name++bE m.aB[k].Params.toNat)++bE m.aB[k].cO.toNat)++m4 m.aB[k].Result)=true:=cF (by have:=hI;unfold qF at this;omega);have c5:bM b (pb (oH m.aB[k].Code))=true:=cF (by have:=hJ;unfold oK at this;omega);simp only[getD_lt hk,bz,aow _ c hins,i7 (oH m.aB[k].Code) (by omega),i7 m.aB[k].Name (by omega),vp p.1 (by omega),vp q.1 (by omega),Up,Ur,c1,c2,c3,c4,c5,bn,bH,hk,bj,cr,az,aQ,bo hk (by omega:m.aB.length<2^62),aR,aT];rfl) (fun f a b=>by
  show M.oM _ _ _ m (f+1) a b _=_
  rw[M.oM];simp) (bE m.aB.length) (bE m.aB.length) (by omega) (by omega)
 have e2':M.oM (bE m.al.length++(m.al.map m5).flatten) m.aB ((m.aB.length:Nat):Int) m af (bE m.aB.length) (bE m.aB.length) 0=_:=e2;unfold M.Bt;simp only[jY m.aB.length (by omega),jY m.al.length (by omega),e1',e2',vp (show 0<=m.cU by have:=h.pg;omega) (show m.cU<=1048576 by have:=h.pg;omega),aR,aT,bJ,cr];rfl
theorem aoC{m:aN}(h:MB m):M.Bv m=some (eR m):=by
 obtain⟨z1,z2,z3⟩:=h.lens;have hl1:=df m.al.length;have hl2:=df m.aB.length;have hni:=h.ni;have hnc:=h.nc;have e1:=vn (F:=fun f i b=>M.oN m f b i) (w:=fun b=>(b,m)) (e:=m5) m.al 1000000 (by omega) (fun f k b hk hI=>by
  show M.oN m (f+1) b (k:Int)=_
  rw[M.oN];obtain⟨p,n⟩:=h.im _ (bA hk);have g1:=dE m.al[k].Name;have g2:=df m.al[k].Params.toNat;have g3:=yv m.al[k].Result;have hI':b.length<=1000000:=by omega
  have c1:bM b (pb m.al[k].Name)=true:=cF (by omega);have c2:bM (b++pb m.al[k].Name) (bE m.al[k].Params.toNat)=true:=cF (by rw[bq];omega);have c3:bM ((b++pb m.al[k].Name)++bE m.al[k].Params.toNat) (m4 m.al[k].Result)=true:=cF (by rw[bq,bq];omega);simp only[getD_lt hk,bz,ja m.al[k].Name (by omega),vq p.1 (by omega),Us,c1,c2,c3,bn,bH,hk,bj,cr,az,aQ,bo hk (by omega:m.al.length<2^62),aR,aT];unfold m5;simp only[ib]) (fun f b=>by
  show M.oN m (f+1) b _=_
  rw[M.oN];simp) (bE m.al.length) (by omega)
 have e1':M.oN m af (bE m.al.length) 0=_:=e1;have e2:=NS (F:=fun f i a b=>M.oO (qG m) m f a b i) (w:=fun a b=>(qG m,a,b,m)) (e1:=qF) (e2:=oK) m.aB 1000000 (by omega) (fun f k a b hk hI hJ=>by
  show M.oO _ m (f+1) a b (k:Int)=_
  rw[M.oO];obtain⟨p,q,n,c,hins⟩:=h.co _ (bA hk);have g1:=dE m.aB[k].Name;have g2:=df m.aB[k].Params.toNat;have g4:=df m.aB[k].cO.toNat;have g3:=yv m.aB[k].Result;have g5:=NR m.aB[k].Code c;have hI':a.length<=1000000:=by omega
  have c1:bM a (pb m.aB[k].Name)=true:=cF (by omega);have c4:bM (a++pb m.aB[k].Name) (bE m.aB[k].Params.toNat)=true:=cF (by rw[bq];omega);have c2:bM ((a++pb m.aB[k].Name)++bE m.aB[k].Params.toNat) (bE m.aB[k].cO.toNat)=true:=cF (by rw[bq,bq];omega);have c3:bM (((a++pb m.aB[k].Name)++bE m.aB[k].Params.toNat)++bE m.aB[k].cO.toNat) (m4 m.aB[k].Result)=true:=cF (by rw[bq,bq,bq];omega);have c5:bM b (pb (oH m.aB[k].Code))=true:=cF (by have:=hJ;unfold oK at this;omega);simp only[getD_lt hk,bz,aox _ c hins,ja (oH m.aB[k].Code) (by omega),ja m.aB[k].Name (by omega),vq p.1 (by omega),vq q.1 (by omega),Us,c1,c2,c3,c4,c5,bn,bH,hk,bj,cr,az,aQ,bo hk (by omega:m.aB.length<2^62),aR,aT];unfold qF oK;simp only[ib]) (fun f a b=>by
  show M.oO _ m (f+1) a b _=_
  rw[M.oO];simp) (bE m.aB.length) (bE m.aB.length) (by omega) (by omega)
 have e2':M.oO (bE m.al.length++(m.al.map m5).flatten) m af (bE m.aB.length) (bE m.aB.length) 0=_:=e2;unfold M.Bv;simp only[jZ m.aB.length (by omega),jZ m.al.length (by omega),e1',e2',vq (show 0<=m.cU by have:=h.pg;omega) (show m.cU<=1048576 by have:=h.pg;omega),aR,aT,bJ,cr];rfl
structure NU (x:dn):Prop where
 id:1<=x.Id/\x.Id<=4
 nm:x.Name=[]
 Ut:x.Bytes.length<=11300
theorem Uu{m:aN}(h:MB m):∀x∈eR m,NU x:=by
 obtain⟨z1,z2,z3⟩:=h.lens;have hl0:=df m.cU.toNat;have hl1:=df m.al.length;have hl2:=df m.aB.length;intro x hx;unfold eR at hx;simp only[gz,BX,G5]at hx;rcases hx with rfl|rfl|rfl|rfl
 ·exact⟨by simp only[];omega,rfl,by simp only[];omega⟩
 ·exact⟨by simp only[];omega,rfl,by simp only[qG,bq];omega⟩
 ·exact⟨by simp only[];omega,rfl,by simp only[Bq,bq];omega⟩
 ·exact⟨by simp only[];omega,rfl,by simp only[Br,bq];omega⟩
def sg(x:dn):List UInt8:=[UInt8.ofNat x.Id.toNat]++pb x.Bytes
noncomputable def jq(m:aN):List UInt8:=[0,99,111,114,1]++((eR m).map sg).flatten
theorem NV{m:aN}(h:MB m):((((eR m).map sg).flatten).length<=20000):=by
 obtain⟨z1,z2,z3⟩:=h.lens;have hl0:=df m.cU.toNat;have hl1:=df m.al.length;have hl2:=df m.aB.length;have p0:=dE (bE m.cU.toNat);have p1:=dE (qG m);have p2:=dE (Bq m);have p3:=dE (Br m);have q1:(qG m).length<=730:=by unfold qG;rw[bq];omega
 have q2:(Bq m).length<=570:=by unfold Bq;rw[bq];omega
 have q3:(Br m).length<=11300:=by unfold Br;rw[bq];omega
 unfold eR;simp only[fB,List.map_nil,List.flatten_cons,List.flatten_nil,sg,bq,aZ,bS];omega
theorem aoD{x:dn}(h:NU x):M.Bz x=some true:=by
 have h0:(x.Id==0)=false:=by rw[d6];have:=h.id;omega
 unfold M.Bz M.GY;rw[h0,h.nm,du (show(0:Int)<=x.Id by have:=h.id;omega),du (show x.Id<=4 by have:=h.id;omega)];have h1:(x.Id !=0)=true:=by rw[qj];have:=h.id;omega
 rw[h1];rfl
theorem aoE{m:aN}(h:MB m):M.BA (eR m)=some (jq m):=by
 have hlen:=NV h;have e1:=vn (F:=fun f i b=>M.oP (eR m) (((eR m).length:Nat):Int) f i b) (w:=fun b=>.inr b) (e:=sg) (eR m) 1000000 (by show 4<=1048576;omega) (fun f k b hk hI=>by
  show M.oP _ _ (f+1) (k:Int) b=_
  rw[M.oP];have hx:=Uu h _ (bA hk);have hid:=hx.id;have h0:((eR m)[k].Id==0)=false:=by rw[d6];omega
  have hb:=hx.Ut;have hp:=dE (eR m)[k].Bytes;have hf:M.jK (eR m)[k].Id 1=some [UInt8.ofNat (eR m)[k].Id.toNat]:=by
   have:=A1 (eR m)[k].Id.toNat (by omega)
   rwa [show(((eR m)[k].Id.toNat:Nat):Int)=(eR m)[k].Id by omega]at this
  have c1:bM [UInt8.ofNat (eR m)[k].Id.toNat] (pb (eR m)[k].Bytes)=true:=cF (by simp only[aZ,bS];omega);have ew:=iP (b:=b) (s:=[UInt8.ofNat (eR m)[k].Id.toNat]++pb (eR m)[k].Bytes) (by have:=hI;unfold sg at this;omega);simp only[getD_lt hk,bz,aoD hx,h0,hf,i7 (eR m)[k].Bytes (by omega),c1,ew,bn,bH,hk,bj,cr,ef,eH,rq,az,aQ,sf,kJ,bJ,bo hk (show(eR m).length<2^62 by show 4<2^62;omega),aR,aT];rfl) (fun f b=>by
  show M.oP _ _ (f+1) _ b=_
  rw[M.oP];simp) [0,99,111,114,1] (by simp only[aZ,bS];omega)
 have e1':M.oP (eR m) (((eR m).length:Nat):Int) af 0 ([]++List.map (fun a=>a) [(0:UInt8),99,111,114,1])=some (.inr (jq m)):=e1;have hm:(jq m).length<=20005:=by unfold jq;rw[bq];simp only[aZ,bS];omega
 have:M.ei (jq m)=some (jq m):=by
  unfold M.ei;rw[eZ (by omega)];rfl
 unfold M.BA;rw[eD (show ¬(20:Int)<(((eR m).length:Nat):Int) by show ¬(20:Int)<((4:Nat):Int);omega)];simp only[ef];rw[e1'];simp only[eD (show ¬(30000:Int)<(((jq m).length:Nat):Int) by omega),ef,this,iP (b:=[]) (s:=[(0:UInt8),99,111,114,1]) (by simp),aR,aT,bJ,aQ,cr]
theorem aoF{x:dn}(h:NU x):M.BB x=some (sg x):=by
 have hid:=h.id;have h0:(x.Id==0)=false:=by rw[d6];omega
 have hb:=h.Ut;have hp:=dE x.Bytes;have hf:M.j0 x.Id 1=some [UInt8.ofNat x.Id.toNat]:=by
  have:=NG x.Id.toNat (by omega)
  rwa [show((x.Id.toNat:Nat):Int)=x.Id by omega]at this
 have c1:bM [UInt8.ofNat x.Id.toNat] (pb x.Bytes)=true:=cF (by simp only[aZ,bS];omega);unfold M.BB;simp only[h0,ef,hf,ja x.Bytes (by omega),c1,aR,aT,bJ,aQ,cr];rfl
theorem aoG{m:aN}(h:MB m):M.BC (eR m)=some (jq m):=by
 have hlen:=NV h;have e1:=vn (F:=fun f i b=>M.oQ (eR m) f i b) (w:=fun b=>b) (e:=sg) (eR m) 1000000 (by show 4<=1048576;omega) (fun f k b hk hI=>by
  show M.oQ _ (f+1) (k:Int) b=_
  rw[M.oQ];have hx:=Uu h _ (bA hk);simp only[getD_lt hk,bz,aoF hx,List.map_id',eZ (show b.length+(sg (eR m)[k]).length<=1073741824 by omega),bn,bH,hk,bj,cr,az,aQ,bo hk (show(eR m).length<2^62 by show 4<2^62;omega),aR,aT]) (fun f b=>by
  show M.oQ _ (f+1) _ b=_
  rw[M.oQ];simp) [0,99,111,114,1] (by simp only[aZ,bS];omega)
 have e1':M.oQ (eR m) af 0 [fH 0,fH 99,fH 111,fH 114,fH 1]=some (jq m):=e1;unfold M.BC;rw[e1'];simp
theorem aoH{m:aN}(h:m.sz<=1048576)(hm:gQ m=true):M.BD m=some (jq m):=by
 have hb:=NT hm;unfold M.BD;simp only[GZ m h,hm,aoB hb,aoE hb,aR,aT,eH,ef,bJ,cr]
theorem aoI{m:aN}(h:m.sz<=1048576)(hm:gQ m=true):M.BE m=some (jq m):=by
 have hb:=NT hm;have e:M.BF m=some true:=by unfold M.BF;rw[Uw m h,hm];rfl
 unfold M.BE;simp only[e,aoC hb,aoG hb,aR,aT,eH,ef,bJ,cr]
theorem Ux{m:aN}(hm:gQ m=true):(jq m).length<=20005:=by
 have:=NV (NT hm);unfold jq;rw[bq];simp only[aZ,bS];omega
end M
namespace M
open Go Go.V
theorem oR{b:Bool}{x y:List UInt8}(hx:x≠[])(h:(bif !b then x else y)=[]):b=true/\y=[]:=by
 cases b
 ·exact absurd h hx
 ·exact⟨rfl,h⟩
structure CB (c:aV):Prop where
 fC:iq c.al=true
 lZ:iq c.bR=true
 enc:si c=true
 mod:gQ c.Module=true
 res:oS c=true
 blt:l4 c=true
theorem aoJ{c:aV}(h:qH c=[]):CB c:=by
 unfold qH at h;obtain⟨-,h⟩:=oR (by decide) h;obtain⟨-,h⟩:=oR (by decide) h;obtain⟨h3,h⟩:=oR (by decide) h;obtain⟨h4,h⟩:=oR (by decide) h;obtain⟨h5,h⟩:=oR (by decide) h;obtain⟨h6,h⟩:=oR (by decide) h;obtain⟨h7,h⟩:=oR (by decide) h;obtain⟨-,h⟩:=oR (by decide) h;obtain⟨-,h⟩:=oR (by decide) h;obtain⟨h10,h⟩:=oR (by decide) h;exact⟨h3,h4,h5,NW h6,h7,h10⟩
theorem yx(f:ax):(lX f).length<=60*(f.sz+1):=by
 have h1:=dE f.cV;have h2:=dE f.Name;have h3:=dE f.Version;have h4:=uY f.bK;have h5:=df f.Funcs.length;have h6:=iO (f:=ln) (g:=aA.sz) f.Funcs 60 fun x _=>NP x
 have h7:=ax.bI f;unfold lX;simp only[bq];omega
theorem G0{l:List ax}(h:iq l=true):l.length<=6/\∀f∈l,jM f=true:=by
 unfold iq at h;simp only[bD,bw,dr]at h;exact⟨h.1,fun f hf=>by have:=h.2.1 f hf;unfold m6 at this;rw[bD]at this;exact this.1⟩
def seqB{α:Type}(e:α->List UInt8)(l:List α):List UInt8:=bE l.length++(l.map e).flatten
theorem vr{α:Type}{e:α->List UInt8}{g:α->Nat}(N:Nat)(he:∀x,(e x).length<=N*(g x+1))(l:List α):(seqB e l).length<=9+N*aK g l:=by
 have h1:=df l.length;have h2:=iO (f:=e) (g:=g) l N fun x _=>he x
 unfold seqB;rw[bq];omega
theorem G1{s:List UInt8}(h:s.length<=1073741824):M.ei s=some s:=by
 unfold M.ei;rw[eZ h];rfl
noncomputable def aGr(n:Nat)(L:Nat->Int->List UInt8->Option (List UInt8)):Option (List UInt8):=
 match L af 0 ((M.eQ ((M.dN (n:Int)).getD default) []).getD default).2 with
 |none=>none
 |some y2=>bif((M.ei y2).isSome&&((M.eQ ((M.dN (n:Int)).getD default) []).isSome&&((M.dN (n:Int)).isSome&&true)))then some ((M.ei y2).getD default)else none
theorem aj0{α:Type}{e:α->List UInt8}{L:Nat->Int->List UInt8->Option (List UInt8)}(l:List α)(hn:l.length<=1048576)(ht:((l.map e).flatten).length<=100000000)
 (step:∀f k b,∀hk:k<l.length,b.length+(e l[k]).length<=1073741824->L (f+1) (k:Int) b=L f ((k+1:Nat):Int) (b++e l[k])) (stop:∀f b,L (f+1) (l.length:Int) b=some b):aGr l.length L=some (seqB e l):=by
 have hb:=df l.length;have e':=lh (F:=L) (e:=e) l 1073741824 hn step stop (bE l.length) (by omega);unfold aGr;rw[jY _ hn];simp only[aR,iP (b:=[]) (s:=bE l.length) (by simp;omega),jb,e',G1 (show(bE l.length++(l.map e).flatten).length<=1073741824 by rw[bq];omega)];rfl
theorem Uy(l:List ax)(hs:aK ax.sz l<=1048576)(h:∀f∈l,jM f=true):M.yy l=some (seqB lX l):=by
 have hn:l.length<=1048576:=cq (bW _ _) hs;have ht:=iO (f:=lX) (g:=ax.sz) l 60 fun x _=>yx x
 exact aj0 (L:=fun f i b=>M.oU l (l.length:Int) f i b) l hn (by omega) (fun f k b hk hI=>by
  show M.oU l (l.length:Int) (f+1) (k:Int) b=_
  rw[M.oU];have hx:(l[k]).sz<=1048576:=ot hs (bA hk);simp only[getD_lt hk,bz,aon _ hx (h _ (bA hk)),iP hI,bn,bH,hk,bj,cr,az,aQ,bo hk (by omega:l.length<2^62),aR,aT]) (fun f b=>by
  show M.oU l (l.length:Int) (f+1) _ b=_
  rw[M.oU];simp)
def m7(x:bF):List UInt8:=pb x.Core
def m8(x:bC):List UInt8:=pb x.Import
def oV(x:bu):List UInt8:=((bE x.Kind.toNat++pb x.aS)++pb x.dG)++pb x.Import
theorem G2(x:bF):(m7 x).length<=10*(x.sz+1):=by
 have h1:=dE x.Core;have h2:=bF.bI x;unfold m7;omega
theorem G3(x:bC):(m8 x).length<=10*(x.sz+1):=by
 have h1:=dE x.Import;have h2:=bC.bI x;unfold m8;omega
theorem NY(x:bu):(oV x).length<=40*(x.sz+1):=by
 have h0:=df x.Kind.toNat;have h1:=dE x.aS;have h2:=dE x.dG;have h3:=dE x.Import;have h4:=bu.bI x;unfold oV;simp only[bq];omega
theorem aoK(l:List bF)(hs:aK bF.sz l<=1048576):M.BG l=some (seqB m7 l):=by
 have hn:l.length<=1048576:=cq (bW _ _) hs;have ht:=iO (f:=m7) (g:=bF.sz) l 10 fun x _=>G2 x
 exact aj0 (L:=fun f i b=>M.oW l (l.length:Int) f i b) l hn (by omega) (fun f k b hk hI=>by
  show M.oW l (l.length:Int) (f+1) (k:Int) b=_
  rw[M.oW];have hx:(l[k]).sz<=1048576:=ot hs (bA hk);have hz:=bF.bI l[k];have hc:M.BH l[k]=some (m7 l[k]):=by
   unfold M.BH;rw[i7 l[k].Core (by omega)];rfl
  simp only[getD_lt hk,bz,hc,iP hI,bn,bH,hk,bj,cr,az,aQ,bo hk (by omega:l.length<2^62),aR,aT]) (fun f b=>by
  show M.oW l (l.length:Int) (f+1) _ b=_
  rw[M.oW];simp)
theorem aoL(l:List bC)(hs:aK bC.sz l<=1048576):M.BI l=some (seqB m8 l):=by
 have hn:l.length<=1048576:=cq (bW _ _) hs;have ht:=iO (f:=m8) (g:=bC.sz) l 10 fun x _=>G3 x
 exact aj0 (L:=fun f i b=>M.oY l (l.length:Int) f i b) l hn (by omega) (fun f k b hk hI=>by
  show M.oY l (l.length:Int) (f+1) (k:Int) b=_
  rw[M.oY];have hx:(l[k]).sz<=1048576:=ot hs (bA hk);have hz:=bC.bI l[k];have hc:M.BJ l[k]=some (m8 l[k]):=by
   unfold M.BJ;rw[i7 l[k].Import (by omega)];rfl
  simp only[getD_lt hk,bz,hc,iP hI,bn,bH,hk,bj,cr,az,aQ,bo hk (by omega:l.length<2^62),aR,aT]) (fun f b=>by
  show M.oY l (l.length:Int) (f+1) _ b=_
  rw[M.oY];simp)
theorem aoM(l:List bu)(hs:aK bu.sz l<=1048576)(h:∀x∈l,1<=x.Kind/\x.Kind<=3):M.BK l=some (seqB oV l):=by
 have hn:l.length<=1048576:=cq (bW _ _) hs;have ht:=iO (f:=oV) (g:=bu.sz) l 40 fun x _=>NY x
 exact aj0 (L:=fun f i b=>M.oZ l (l.length:Int) f i b) l hn (by omega) (fun f k b hk hI=>by
  show M.oZ l (l.length:Int) (f+1) (k:Int) b=_
  rw[M.oZ];have hx:(l[k]).sz<=1048576:=ot hs (bA hk);have hz:=bu.bI l[k];have hk3:=h _ (bA hk);have l0:=df l[k].Kind.toNat;have l1:=dE l[k].aS;have l2:=dE l[k].dG;have l3:=dE l[k].Import;have hc:M.BL l[k]=some (oV l[k]):=by
   unfold M.BL;simp only[vp (show 0<=l[k].Kind by omega) (by omega),i7 l[k].aS (by omega),i7 l[k].dG (by omega),i7 l[k].Import (by omega),aR,aT,aQ];rw[cF (by simp only[bq];omega),cF (by simp only[bq];omega),cF (by omega)];rfl
  simp only[getD_lt hk,bz,hc,iP hI,bn,bH,hk,bj,cr,az,aQ,bo hk (by omega:l.length<2^62),aR,aT]) (fun f b=>by
  show M.oZ l (l.length:Int) (f+1) _ b=_
  rw[M.oZ];simp)
theorem Uz(l:List ax)(hs:aK ax.sz l<=1048576)(h:∀f∈l,jM f=true):M.yz l=some (seqB lX l):=by
 have hn:l.length<=1048576:=cq (bW _ _) hs;have hb:=df l.length;have ht:=iO (f:=lX) (g:=ax.sz) l 60 fun x _=>yx x
 have e:=lh (F:=fun f i b=>M.o5 l f i b) (e:=lX) l 1073741824 hn (fun f k b hk hI=>by
  show M.o5 l (f+1) (k:Int) b=_
  rw[M.o5];have hx:(l[k]).sz<=1048576:=ot hs (bA hk);simp only[getD_lt hk,bz,aoo _ hx (h _ (bA hk)),List.map_id',eZ hI,bn,bH,hk,bj,cr,az,aQ,bo hk (by omega:l.length<2^62),aR,aT]) (fun f b=>by
  show M.o5 l (f+1) _ b=_
  rw[M.o5];simp) (bE l.length) (by omega)
 have e':M.o5 l af 0 (bE l.length)=_:=e;unfold M.yz;rw[jZ _ hn];simp only[aR,List.map_id',e',eZ (show(bE l.length).length<=1073741824 by omega),aT,bJ,cr];rfl
theorem aoN(c:aV)(hs:aK bF.sz c.bZ<=1048576)(a:List UInt8)(ha:a.length<=500000000):M.pd c af 0 a=some (c,a++(c.bZ.map m7).flatten):=by
 have hn:c.bZ.length<=1048576:=cq (bW _ _) hs;have ht:=iO (f:=m7) (g:=bF.sz) c.bZ 10 fun x _=>G2 x
 exact vn (F:=fun f i b=>M.pd c f i b) (w:=fun b=>(c,b)) (e:=m7) c.bZ 1073741824 hn (fun f k b hk hI=>by
  show M.pd c (f+1) (k:Int) b=_
  rw[M.pd];have hx:(c.bZ[k]).sz<=1048576:=ot hs (bA hk);have hz:=bF.bI c.bZ[k];simp only[getD_lt hk,bz,ja c.bZ[k].Core (by omega),List.map_id',eZ (show b.length+(pb c.bZ[k].Core).length<=1073741824 from hI),bn,bH,hk,bj,cr,az,aQ,bo hk (by omega:c.bZ.length<2^62),aR,aT];rfl) (fun f b=>by
  show M.pd c (f+1) _ b=_
  rw[M.pd];simp) a (by omega)
theorem aoO(c:aV)(hs:aK bC.sz c.bP<=1048576)(a:List UInt8)(ha:a.length<=500000000):M.pe c af 0 a=some (c,a++(c.bP.map m8).flatten):=by
 have hn:c.bP.length<=1048576:=cq (bW _ _) hs;have ht:=iO (f:=m8) (g:=bC.sz) c.bP 10 fun x _=>G3 x
 exact vn (F:=fun f i b=>M.pe c f i b) (w:=fun b=>(c,b)) (e:=m8) c.bP 1073741824 hn (fun f k b hk hI=>by
  show M.pe c (f+1) (k:Int) b=_
  rw[M.pe];have hx:(c.bP[k]).sz<=1048576:=ot hs (bA hk);have hz:=bC.bI c.bP[k];simp only[getD_lt hk,bz,ja c.bP[k].Import (by omega),List.map_id',eZ (show b.length+(pb c.bP[k].Import).length<=1073741824 from hI),bn,bH,hk,bj,cr,az,aQ,bo hk (by omega:c.bP.length<2^62),aR,aT];rfl) (fun f b=>by
  show M.pe c (f+1) _ b=_
  rw[M.pe];simp) a (by omega)
theorem aoP(c:aV)(hs:aK bu.sz c.Builtins<=1048576)(h:∀x∈c.Builtins,1<=x.Kind/\x.Kind<=3)(a:List UInt8)(ha:a.length<=500000000):M.pf c af 0 a=some (a++(c.Builtins.map oV).flatten):=by
 have hn:c.Builtins.length<=1048576:=cq (bW _ _) hs;have ht:=iO (f:=oV) (g:=bu.sz) c.Builtins 40 fun x _=>NY x
 exact vn (F:=fun f i b=>M.pf c f i b) (w:=fun b=>b) (e:=oV) c.Builtins 1073741824 hn (fun f k b hk hI=>by
  show M.pf c (f+1) (k:Int) b=_
  rw[M.pf];have hx:(c.Builtins[k]).sz<=1048576:=ot hs (bA hk);have hz:=bu.bI c.Builtins[k];have hk3:=h _ (bA hk);have l0:=df c.Builtins[k].Kind.toNat;have l1:=dE c.Builtins[k].aS;have l2:=dE c.Builtins[k].dG;have l3:=dE c.Builtins[k].Import;have c1:bM (bE c.Builtins[k].Kind.toNat) (pb c.Builtins[k].aS)=true:=cF (by omega);have c2:bM (bE c.Builtins[k].Kind.toNat++pb c.Builtins[k].aS) (pb c.Builtins[k].dG)=true:=cF (by rw[bq];omega);have c3:bM ((bE c.Builtins[k].Kind.toNat++pb c.Builtins[k].aS)++pb c.Builtins[k].dG) (pb c.Builtins[k].Import)=true:=cF (by rw[bq,bq];omega);have hI':decide (b.length+(((bE c.Builtins[k].Kind.toNat++pb c.Builtins[k].aS)++pb c.Builtins[k].dG)++pb c.Builtins[k].Import).length<=1073741824)=true:=eZ hI;simp only[getD_lt hk,bz,vq (show 0<=c.Builtins[k].Kind by omega) (by omega),ja c.Builtins[k].aS (by omega),ja c.Builtins[k].dG (by omega),ja c.Builtins[k].Import (by omega),c1,c2,c3,List.map_id',hI',bn,bH,hk,bj,cr,az,aQ,bo hk (by omega:c.Builtins.length<2^62),aR,aT];rfl) (fun f b=>by
  show M.pf c (f+1) _ b=_
  rw[M.pf];simp) a (by omega)
noncomputable def G4(c:aV):List UInt8:=(((((((((([0,99,109,112,1]++pb c.Name)++pb c.Version)++bE c.Encoding.toNat)++bE c.fk.toNat)++seqB lX c.al)++seqB lX c.bR)++pb (jq c.Module))++seqB m7 c.bZ)++seqB m8 c.bP)++seqB oV c.Builtins)
theorem UA{c:aV}(h:si c=true):1<=c.Encoding/\c.Encoding<=3:=by
 unfold si at h;simpa using h
theorem UB{c:aV}(h:oS c=true):0<=c.fk/\c.fk<=1024:=by
 unfold oS at h;rw[bD]at h;simpa using h.1
theorem UC{c:aV}(h:l4 c=true):∀x∈c.Builtins,1<=x.Kind/\x.Kind<=3:=fun x hx=>by
 unfold l4 at h;simp only[bD,dr]at h;have:=h.2 x hx;unfold qI at this;simp only[bD,bw]at this;exact this.1.1
theorem aoQ{c:aV}(hc:iR c)(hb:CB c):M.BM c=some (G4 c):=by
 obtain⟨f1,f2⟩:=G0 hb.fC;obtain⟨f3,f4⟩:=G0 hb.lZ;have he:=UA hb.enc;have hr:=UB hb.res;have hm:=Ux hb.mod;have n1:=dE c.Name;have n2:=dE c.Version;have n3:=df c.Encoding.toNat;have n4:=df c.fk.toNat;have n5:=vr 60 yx c.al;have n6:=vr 60 yx c.bR;have n7:=dE (jq c.Module);have n8:=vr 10 G2 c.bZ;have n9:=vr 10 G3 c.bP;have n10:=vr 40 NY c.Builtins;have h1:=hc.name;have h2:=hc.NZ;have h3:=hc.fC;have h4:=hc.lZ;have h6:=hc.lifts;have h7:=hc.yA;have h8:=hc.yB;unfold M.BM;simp only[i7 c.Name h1,i7 c.Version h2,vp (show 0<=c.Encoding by omega) (by omega),vp hr.1 (by omega),Uy _ h3 f2,Uy _ h4 f4,aoH hc.mod hb.mod,i7 (jq c.Module) (by omega),aoK _ h6,aoL _ h7,aoM _ h8 (UC hb.blt),aR,aT,aQ,az];rw[cF (by simp only[bq,aZ,bS];omega),cF (by simp only[bq,aZ,bS];omega),cF (by simp only[bq,aZ,bS];omega),cF (by simp only[bq,aZ,bS];omega),cF (by simp only[bq,aZ,bS];omega),cF (by simp only[bq,aZ,bS];omega),cF (by simp only[bq,aZ,bS];omega),cF (by simp only[bq,aZ,bS];omega),cF (by simp only[bq,aZ,bS];omega),cF (by simp only[bq,aZ,bS];omega)];rfl
theorem aoR{c:aV}(hc:iR c)(hb:CB c):M.BN c=some (G4 c):=by
 obtain⟨f1,f2⟩:=G0 hb.fC;obtain⟨f3,f4⟩:=G0 hb.lZ;have he:=UA hb.enc;have hr:=UB hb.res;have hm:=Ux hb.mod;have n1:=dE c.Name;have n2:=dE c.Version;have n3:=df c.Encoding.toNat;have n4:=df c.fk.toNat;have n5:=vr 60 yx c.al;have n6:=vr 60 yx c.bR;have n7:=dE (jq c.Module);have h1:=hc.name;have h2:=hc.NZ;have h3:=hc.fC;have h4:=hc.lZ;have h6:=hc.lifts;have h7:=hc.yA;have h8:=hc.yB;have k6:c.bZ.length<=1048576:=cq (bW _ _) h6;have k7:c.bP.length<=1048576:=cq (bW _ _) h7;have k8:c.Builtins.length<=1048576:=cq (bW _ _) h8;have b6:=df c.bZ.length;have b7:=df c.bP.length;have b8:=df c.Builtins.length;have t6:=iO (f:=m7) (g:=bF.sz) c.bZ 10 fun x _=>G2 x
 have t7:=iO (f:=m8) (g:=bC.sz) c.bP 10 fun x _=>G3 x
 unfold M.BN;simp only[ja c.Name h1,ja c.Version h2,vq (show 0<=c.Encoding by omega) (by omega),vq hr.1 (by omega),Uz _ h3 f2,Uz _ h4 f4,aoI hc.mod hb.mod,ja (jq c.Module) (by omega),jZ _ k6,jZ _ k7,jZ _ k8,aR,aT,aQ,az,List.map_id'];rw[aoN c h6 _ (by simp only[bq,aZ,bS];omega)];simp only[jZ _ k7,aR,aT,List.map_id'];rw[aoO c h7 _ (by simp only[bq,aZ,bS];omega)];simp only[jZ _ k8,aR,aT,List.map_id'];rw[aoP c h8 (UC hb.blt) _ (by simp only[bq,aZ,bS];omega)];simp only[aQ,az];rw[cF (by simp only[bq,aZ,bS];omega),cF (by simp only[bq,aZ,bS];omega),cF (by simp only[bq,aZ,bS];omega),cF (by simp only[bq,aZ,bS];omega),cF (by simp only[bq,aZ,bS];omega),cF (by simp only[bq,aZ,bS];omega),cF (by simp only[bq,aZ,bS];omega)];rw[eZ (by simp only[bq,aZ,bS];omega),eZ (by simp only[bq,aZ,bS];omega),eZ (by simp only[bq,aZ,bS];omega),eZ (by simp only[bq,aZ,bS];omega)];unfold G4 seqB;simp[ib]
theorem aoS(s:List UInt8):∃r,M.BO s=some r/\M.BP s=some r:=by
 unfold M.BO M.BP;cases decide ((60000:Int)<((s.length:Nat):Int))<;>exact⟨_,rfl,rfl⟩
end M
namespace M
open Go.V (inB cJ bM af bU)
def aFd(s:List UInt8):Int×Bool:=match dP.xp s with
 |some n=>((n:Int),true)
 |none=>(0,false)
def aC7(s:List UInt8):Int:=match dP.xr s with
 |some n=>(n:Int)
 |none=> -1
theorem aGi(s:List UInt8)(h:s.length<=1048576):M.EV s=some (aFd s):=by
 have hs:M.strings_Split s [46]=some (dP.eF s):=by
  unfold M.strings_Split;have:decide (s.length<4294967281)=true:=by rw[bw];omega
  rw[this];rfl
 have hrd:∀p∈dP.eF s,M.qZ p=some (M.ft p):=fun p hp=>by
  have:=aAl s p hp;unfold M.qZ;have:decide (p.length<=281474976710656)=true:=by rw[bw];omega
  rw[this];rfl
 unfold M.EV aFd dP.xp;rw[hs];simp only[aR,aT,az,aQ,cr]
 match hp:dP.eF s,hrd with
 |[],_=>rfl
 |[a],_=>rfl
 |[a,b],_=>rfl
 |a::b::c::d::r,_=>
  have:((((a::b::c::d::r).length:Nat):Int) !=3)=true:=by
   simp only[aZ,qj];omega
  rw[this];rfl
 |[a,b,c],hrd=>
   have h3:((((([a,b,c]:List (List UInt8)).length:Nat):Int) !=3))=false:=rfl;rw[h3];simp only[ef];obtain⟨f0,hf0⟩:∃f0,af=f0+4:=⟨af-4,by have:=bU;omega⟩;have ra:=hrd a (by simp);have rb:=hrd b (by simp);have rc:=hrd c (by simp);have st:∀(f:Nat)(n:Int)(k:Nat)(p:List UInt8)(hk:k<3),([a,b,c].getD k [])=p->M.qZ p=some (M.ft p)->M.qY [a,b,c] ((([a,b,c]:List (List UInt8)).length:Nat):Int) (f+1) n (k:Int)=
    bif((!(M.ft p).2)||(!(decide ((0:Int)<=(M.ft p).1)&&decide ((M.ft p).1<=999))))then some (.inl (0,false))else M.qY [a,b,c] ((([a,b,c]:List (List UInt8)).length:Nat):Int) f (Go.IntKind.wrap .i64 (Go.IntKind.wrap .i64 (n*1000)+(M.ft p).1)) ((k+1:Nat):Int):=fun f n k p hk hg hr=>by
    rw[M.qY];have hlt:decide ((k:Int)<((([a,b,c]:List (List UInt8)).length:Nat):Int))=true:=by simp;omega
    have hin:inB (k:Int) ([a,b,c]:List (List UInt8)).length=true:=by rw[bn];simp;omega
    simp only[hlt,cr,bz,hg,hr,aR,aT,hin,az,aQ,bo (show k<3 from hk) (by omega)]
   have e0:=st (f0+3) 0 0 a (by omega) rfl ra;rw[hf0];change M.qY [a,b,c] ((([a,b,c]:List (List UInt8)).length:Nat):Int) (f0+4) 0 0=_ at e0;rw[e0];rcases PV a with⟨ha,ca⟩|⟨x,ha,hx,ea,ca⟩
   ·rw[ca,ha];rfl
   rw[ca,ha];have w1:Go.IntKind.wrap .i64 (Go.IntKind.wrap .i64 ((0:Int)*1000)+(M.ft a).1)=(x:Int):=by
    rw[ea,wrap_i64 (n:=0*1000) (by omega) (by omega),wrap_i64 (by omega) (by omega)];omega
   rw[ef,w1,st (f0+2) _ 1 b (by omega) rfl rb];rcases PV b with⟨hb,cb⟩|⟨y,hb,hy,eb,cb⟩
   ·rw[cb,hb];rfl
   rw[cb,hb];have w2:Go.IntKind.wrap .i64 (Go.IntKind.wrap .i64 ((x:Int)*1000)+(M.ft b).1)=((x*1000+y:Nat):Int):=by
    rw[eb,wrap_i64 (show -9223372036854775808<=(x:Int)*1000 by omega) (by omega),wrap_i64 (by omega) (by omega)];omega
   rw[ef,w2,st (f0+1) _ 2 c (by omega) rfl rc];rcases PV c with⟨hc,cc⟩|⟨z,hc,hz,ec,cc⟩
   ·rw[cc,hc];rfl
   rw[cc,hc];have w3:Go.IntKind.wrap .i64 (Go.IntKind.wrap .i64 (((x*1000+y:Nat):Int)*1000)+(M.ft c).1)=(((x*1000+y)*1000+z:Nat):Int):=by
    rw[ec,wrap_i64 (show -9223372036854775808<=((x*1000+y:Nat):Int)*1000 by omega) (by omega),wrap_i64 (by omega) (by omega)];omega
   rw[ef,w3,M.qY];rfl
theorem aGj(s:List UInt8):M.EO s=some (aC7 s):=by
 unfold M.EO aC7 dP.xr;have hl:=P1 s af 0 0 0 0 0 (cZ _) (by have:=bU;omega) ⟨by simp,eL _,fun _=>rfl,fun _=>rfl,fun h=>by omega,fun h=>by omega⟩;rw[gP]at hl;rcases hl with⟨e1,e2⟩|⟨m,q,e,m',e1,e2,hI⟩
 ·have e2':M.pV s af 0 0 0 0=_:=e2;rw[e1,e2']
 ·have e2':M.pV s af 0 0 0 0=_:=e2;rw[e1,e2'];simp only;have hq:q<1000000000000:=ml hI.fp (cq (Nat.pow_le_pow_right (by decide) (show min s.length 12<=12 by omega)) (by decide));by_cases he:e=2
  ·subst he;have hm:=hI.d2 rfl;have hw:Go.IntKind.wrap .i64 (m'+(q:Int))=((m+q:Nat):Int):=by
    rw[hI.eq (by omega),wrap_i64 (by omega) (by omega)];omega
   rw[hw];by_cases hc:q<=999/\m+q<1000000000
   ·have c1:((((2:Nat):Int) !=2)||decide ((999:Int)<(q:Int)))=false:=by
     rw[lj,cm];exact⟨rfl,by omega⟩
    have c2:(decide ((0:Int)<=((m+q:Nat):Int))&&decide (((m+q:Nat):Int)<=999999999))=true:=by
     rw[bD,bw,bw];omega
    rw[c1,c2,aAm hc.2];by_cases ht:dP.kO (m+q)=s
    ·rw[cz ⟨rfl,hc.1,hc.2,ht⟩];simp[ht]
    ·rw[aw (fun h=>ht h.2.2.2)];have:(dP.kO (m+q)==s)=false:=by rw[d6];exact ht
     simp[this]
   ·rw[aw (fun h=>hc ⟨h.2.1,h.2.2.1⟩)];have c:(((((2:Nat):Int) !=2)||decide ((999:Int)<(q:Int)))|| !(decide ((0:Int)<=((m+q:Nat):Int))&&decide (((m+q:Nat):Int)<=999999999)))=true:=by
     rw[gq,gq,bw,fj,Bool.and_eq_false_iff,cm,cm];omega
    rw[c];simp
  ·rw[aw (fun h=>he h.1)];have c:((((e:Nat):Int) !=2))=true:=by rw[qj];omega
   rw[c];simp
end M
namespace M
open Go Go.V
def anq(a b:List UInt8):Bool:=match dP.xp a,dP.xp b with
 |some x,some y=>decide ((y:Int)<(x:Int))
 |_,_=>false
theorem aGk(s:List UInt8):aC7 s=match dP.xp s with
 |some n=>(n:Int)
 |none=> -1:=by unfold aC7;rw[dP.aAn];try (cases dP.xr s<;>rfl)
theorem nnB(n:Nat):decide ((n:Int)<0)=false:=eD (by omega)
theorem neB(x:Int):(x !=x)=false:=by rw[bne_eq_false_iff_eq]
theorem aHE(a b:List UInt8)(h1:a.length<=1048576)(h2:b.length<=1048576):M.anz a b=some (anq a b):=by
 unfold M.anz M.aDq anq;simp only[aGi a h1,aGi b h2,aR,aT,bJ,cr];unfold aFd M.aDE;cases dP.xp a with
 |none=>rfl
 |some x=>
  cases dP.xp b with
  |none=>rfl
  |some y=>
   simp only[eH,uA,ef,neB];by_cases c1:(x:Int)<(y:Int)
   ·rw[du c1,eD (show ¬(y:Int)<(x:Int) by omega)];rfl
   ·rw[eD c1];by_cases c2:(y:Int)<(x:Int)
    ·rw[du c2];rfl
    ·rw[eD c2];rfl
theorem aHF(a b:List UInt8):∃c e:Int,M.anA a b=some (c,e)/\decide (c<0)=anq b a:=by
 unfold M.anA anq;simp only[aGj a,aGj b,aR,aT,bJ,cr];rw[aGk,aGk];cases dP.xp a with
 |none=>
  refine⟨0,14,rfl,?_⟩;cases dP.xp b<;>rfl
 |some x=>
  cases dP.xp b with
  |none=>exact⟨0,14,by simp only[show decide ((-1:Int)<0)=true from rfl,sf,cr],rfl⟩
  |some y=>
   simp only[nnB,uA,ef];by_cases c1:(x:Int)<(y:Int)
   ·rw[du c1];exact⟨-1,0,rfl,rfl⟩
   ·rw[eD c1];by_cases c2:(y:Int)<(x:Int)
    ·rw[du c2];exact⟨1,0,rfl,rfl⟩
    ·rw[eD c2];exact⟨0,0,rfl,rfl⟩
def anS(a b:aV):Bool:=bif a.Name==b.Name then anq b.Version a.Version else fu a.Name b.Name
theorem aHG(a b:aV):M.an2 a b=some (anS a b):=by
 unfold M.an2 anS;obtain⟨c,e,h1,h2⟩:=aHF a.Version b.Version;cases (a.Name==b.Name)
 ·rfl
 ·simp only[h1,h2,aR,aT,eH,bJ,ef,cr]
noncomputable def aka(c:aV):Bool:=qH c==[]
noncomputable def an5(l:List aV)(k:Nat):Bool:=aka (l.getD k aV.zero)&&(decide (k=0)||anS (l.getD (k-1) aV.zero) (l.getD k aV.zero))
noncomputable def aj1(l:List aV):Nat->Nat->Bool
 |0,_=>true
 |n+1,k=>an5 l k&&aj1 l n (k+1)
theorem aFs{l:List aV}(hz:∀x∈l,x.sz<=1048576)(k:Nat)(hk:k<l.length):iR (l.getD k aV.zero):=by rw[getD_lt hk];exact iR.of (hz _ (bA hk))
theorem aGl(k:Nat)(h1:0<k)(h:k<=1048576):Go.IntKind.wrap .i64 ((k:Int)-1)=((k-1:Nat):Int):=by rw[wrap_i64 (by omega) (by omega)];omega
theorem aGm(l:List aV)(hl:l.length<=1048576)(hz:∀x∈l,x.sz<=1048576):∀(n f k:Nat),n<f->k+n=l.length->M.akJ l l ((l.length:Nat):Int) f (k:Int)=some (bif aj1 l n k then .inr l else .inl false)
 |n,0,k,h,_=>by omega
 |0,f+1,k,h,hk=>by
  rw[M.akJ,aj1,eD (by omega)];rfl
 |n+1,f+1,k,h,hk=>by
  have q:k<l.length:=by omega
  have ih:=aGm l hl hz n f (k+1) (by omega) (by omega);have hc:=aFs hz k q;have e1:M.Cj (l.getD k aV.zero)=some (aka (l.getD k aV.zero)):=UD hc;have wk:=bo q (by omega:l.length<2^62);have hin:inB (k:Int) l.length=true:=by rw[bn];simpa using q
  rw[M.akJ,aj1,du (by omega)];unfold an5;simp only[cr,bz,e1,hin,wk,aR,aT,aQ,bJ];cases hok:aka (l.getD k aV.zero)
  ·rfl
  ·simp only[eH,ef,az];by_cases h0:k=0
   ·subst h0;simp only[show(((0:Nat):Int)==0)=true from rfl,cr,bj,cg,az];exact ih
   ·have hne:(((k:Nat):Int)==0)=false:=by rw[d6];omega
    have wd:=aGl k (by omega) (by omega);have hin2:inB ((k-1:Nat):Int) l.length=true:=by rw[bn];simp;omega
    have hc2:=aFs hz (k-1) (by omega);have e2:=aHE (l.getD k aV.zero).Version (l.getD (k-1) aV.zero).Version hc.NZ hc2.NZ;simp only[hne,wd,hin2,e2,ef,eD h0,nN,bz,aR,aT,cg,bJ,cr];unfold anS;cases ((l.getD (k-1) aV.zero).Name==(l.getD k aV.zero).Name)
    ·cases fu (l.getD (k-1) aV.zero).Name (l.getD k aV.zero).Name
     ·rfl
     ·simpa using ih
    ·cases anq (l.getD k aV.zero).Version (l.getD (k-1) aV.zero).Version
     ·cases fu (l.getD (k-1) aV.zero).Name (l.getD k aV.zero).Name<;>rfl
     ·cases fu (l.getD (k-1) aV.zero).Name (l.getD k aV.zero).Name<;>simpa using ih
noncomputable def pkR(c:aV):List UInt8:=pb (G4 c)
theorem aFZ{c:aV}(hb:CB c):(pkR c).length<=20300+60*c.sz/\(G4 c).length<=20300+60*c.sz:=by
 have hm:=Ux hb.mod;have n1:=dE c.Name;have n2:=dE c.Version;have n3:=df c.Encoding.toNat;have n4:=df c.fk.toNat;have n5:=vr 60 yx c.al;have n6:=vr 60 yx c.bR;have n7:=dE (jq c.Module);have n8:=vr 10 G2 c.bZ;have n9:=vr 10 G3 c.bP;have n10:=vr 40 NY c.Builtins;have hz:=aV.bI c;have h0:(G4 c).length<=20200+60*c.sz:=by
  unfold G4;simp only[bq,aZ,bS];omega
 have:=dE (G4 c);unfold pkR;exact⟨by omega,by omega⟩
theorem aGn{c:aV}(h:aka c=true):CB c:=aoJ (by unfold aka at h;simpa using h)
theorem aHL(l:List aV)(k:Nat)(hk:k<l.length):aK aV.sz (l.drop k)=l[k].sz+1+aK aV.sz (l.drop (k+1)):=by
 rw[fa hk];rfl
theorem aGo(l:List aV)(hl:l.length<=6)(hz:∀x∈l,x.sz<=1048576):∀(n f k:Nat)(b:List UInt8),n<f->k+n=l.length->b.length+20300*n+60*aK aV.sz (l.drop k)<=500000000->
 M.alh l f (k:Int) b=some (bif aj1 l n k then .inr (b++((l.drop k).map pkR).flatten)else .inl [])
 |n,0,k,b,h,_,_=>by omega
 |0,f+1,k,b,h,hk,_=>by
  rw[M.alh,aj1,eD (by omega),List.drop_eq_nil_of_le (by omega)];simp
 |n+1,f+1,k,b,h,hk,hb=>by
  have q:k<l.length:=by omega
  have hc:=aFs hz k q;have e1:M.Ci (l.getD k aV.zero)=some (aka (l.getD k aV.zero)):=UE hc;have wk:=bo q (by omega:l.length<2^62);have hin:inB (k:Int) l.length=true:=by rw[bn];simpa using q
  have hsd:=aHL l k q;rw[M.alh,aj1,du (by omega)];unfold an5;have next:aka (l.getD k aV.zero)=true->M.BN (l.getD k aV.zero)=some (G4 (l[k]'q))/\M.fi (G4 (l[k]'q))=some (pkR (l[k]'q))/\decide (b.length+(pkR (l[k]'q)).length<=1073741824)=true/\
   M.alh l f ((k+1:Nat):Int) (b++pkR (l[k]'q))=some (bif aj1 l n (k+1)then .inr (b++((l.drop k).map pkR).flatten)else .inl []):=fun hok=>by
   have hb2:=aGn hok;have e2:=aoR hc hb2;rw[getD_lt q]at hb2 e2;have hz':=hz _ (bA q);have hle:20300+60*(l[k]'q).sz<=1000000000:=cq (Nat.add_le_add_left (Nat.mul_le_mul_left 60 hz') 20300) (by decide);obtain⟨p1,p2⟩:=aFZ hb2;have hlen:(G4 (l[k]'q)).length<=1000000000:=cq p2 hle;have eP:=aHK (G4 (l[k]'q)) hlen;clear p2 hlen;refine⟨by rw[getD_lt q];exact e2,eP,?_⟩;clear eP e2 hb2;have ed:((l.drop k).map pkR).flatten=pkR (l[k]'q)++((l.drop (k+1)).map pkR).flatten:=by rw[fa q,fB,List.flatten_cons]
   rw[ed];generalize pkR (l[k]'q)=P at*;refine⟨eZ (by omega),?_⟩;rw[aGo l hl hz n f (k+1) (b++P) (by omega) (by omega) (by rw[bq];omega),ib]
  by_cases h0:k=0
  ·subst h0;have dk:decide ((0:Int)<((0:Nat):Int))=false:=rfl;have ff:(false==true)=false:=rfl;simp only[cr,dk,ff,bz,e1,hin,wk,aR,aT,aQ,Bool.and_false,rq,sf,Ai,kJ,bJ,bj,cg];cases hok:aka (l.getD 0 aV.zero)
   ·rfl
   ·obtain⟨a1,a2,a3,a4⟩:=next hok
    simp only[eH,ef,az,a1,a2,a3,aR,aT,List.map_id',bJ,cr];simpa using a4
  ·have dk:decide ((0:Int)<(k:Int))=true:=du (by omega);have wd:=aGl k (by omega) (by omega);have hin2:inB ((k-1:Nat):Int) l.length=true:=by rw[bn];simp;omega
   have e3:=aHG (l.getD (k-1) aV.zero) (l.getD k aV.zero);simp only[cr,dk,wd,bz,e1,e3,hin,hin2,wk,aR,aT,aQ,cg,az,bJ,eD h0,nN];cases hok:aka (l.getD k aV.zero)
   ·rfl
   ·obtain⟨a1,a2,a3,a4⟩:=next hok
    cases anS (l.getD (k-1) aV.zero) (l.getD k aV.zero)
    ·rfl
    ·simp only[eH,uA,ef,az,a1,a2,a3,aR,aT,List.map_id',bJ,cr];exact a4
theorem aGp(l:List aV):∀(n k:Nat),aj1 l n k=true->∀j,k<=j->j<k+n->an5 l j=true
 |0,k,_,j,h1,h2=>by omega
 |n+1,k,h,j,h1,h2=>by
  rw[aj1,bD]at h;rcases Nat.eq_or_lt_of_le h1 with q|q
  ·rw[<-q];exact h.1
  ·exact aGp l n (k+1) h.2 j (by omega) (by omega)
theorem aGq(l:List aV)(h:∀x∈l,CB x):((l.map pkR).flatten).length<=20300*l.length+60*aK aV.sz l:=by
 induction l with
 |nil=>simp
 |cons x r ih=>
  have h1:=(aFZ (h x (by simp))).1;have h2:=ih fun y hy=>h y (by simp[hy])
  simp only[fB,List.flatten_cons,bq,aZ,aK,Nat.mul_add];omega
theorem aHM(l:List aV)(hl:l.length<=6)(hs:aK aV.sz l<=1048576)(hg:∀x∈l,CB x):M.apj l=some (seqB pkR l):=by
 have ht:=aGq l hg;exact aj0 (L:=fun f i b=>M.aj2 l (l.length:Int) f i b) l (by omega) (by omega) (fun f k b hk hI=>by
  show M.aj2 l (l.length:Int) (f+1) (k:Int) b=_
  rw[M.aj2];have hx:((l[k]'hk)).sz<=1048576:=ot hs (bA hk);have hcb:=hg _ (bA hk);have hle:20300+60*(l[k]'hk).sz<=1000000000:=cq (Nat.add_le_add_left (Nat.mul_le_mul_left 60 hx) 20300) (by decide);obtain⟨p1,p2⟩:=aFZ hcb;have hc:M.apm (l[k]'hk)=some (pkR (l[k]'hk)):=by
   unfold M.apm;rw[aoQ (iR.of hx) hcb];simp only[aR,aHJ (G4 (l[k]'hk)) (cq p2 hle)];rfl
  simp only[getD_lt hk,bz,hc,iP hI,bn,bH,hk,bj,cr,az,aQ,bo hk (by omega:l.length<2^62),aR,aT]) (fun f b=>by
  show M.aj2 l (l.length:Int) (f+1) _ b=_
  rw[M.aj2];simp)
theorem aHN(l:List aV)(hs:aK aV.sz l<=1048576):∃r,M.ant l=some r/\M.anu l=some r:=by
 have hn:l.length<=1048576:=cq (bW _ _) hs;have hz:∀x∈l,x.sz<=1048576:=fun x hx=>ot hs hx
 have ho:=aGm l hn hz l.length af 0 (by have:=bU;omega) (by omega);have ho':M.akJ l l ((l.length:Nat):Int) af 0=_:=ho;have hk:M.aAu l=some (aj1 l l.length 0&&(decide (1<=l.length)&&decide (l.length<=6))):=by
  unfold M.aAu;rw[ho'];have e1:decide ((1:Int)<=((l.length:Nat):Int))=decide (1<=l.length):=by simp only[ka];omega
  have e2:decide (((l.length:Nat):Int)<=6)=decide (l.length<=6):=by simp only[ka];omega
  cases aj1 l l.length 0
  ·rfl
  ·simp only[cr,e1,e2,az]
 by_cases hl:1<=l.length/\l.length<=6
 ·have hb:=df l.length;have hp:=aGo l hl.2 hz l.length af 0 ([0,112,107,103,1]++bE l.length) (by have:=bU;omega) (by omega) (by rw[gP];simp only[bq,aZ,bS];omega);have hp':M.alh l af 0 ([0,112,107,103,1]++bE l.length)=_:=hp;rw[gP]at hp';unfold M.ant M.anu;rw[hk,du hl.1,du hl.2,eD (show ¬((l.length:Nat):Int)<1 by omega),eD (show ¬(6:Int)<((l.length:Nat):Int) by omega),jZ _ hn];simp only[aR,aT,aQ,uA,ef,List.map_id',cF (a:=[0,112,107,103,1]) (b:=bE l.length) (by simp only[aZ,bS];omega),eZ (show([0,112,107,103,1]++bE l.length).length<=1073741824 by simp only[bq,aZ,bS];omega),hp'];cases ha:aj1 l l.length 0
  ·exact⟨[],rfl,rfl⟩
  ·have hg:∀x∈l,CB x:=fun x hx=>by
    obtain⟨j,hj,rfl⟩:=iy hx;have:=aGp l _ _ ha j (cZ _) (by omega);unfold an5 at this;rw[getD_lt hj,bD]at this;exact aGn this.1
   have ht:=aGq l hg;have hq:(seqB pkR l).length<=500000000:=by unfold seqB;rw[bq];omega
   have hse:=aHM l hl.2 hs hg;obtain⟨r,s1,s2⟩:=aoS ([0,112,107,103,1]++seqB pkR l);have eq:([0,112,107,103,1]++bE l.length)++(l.map pkR).flatten=[0,112,107,103,1]++seqB pkR l:=by unfold seqB;rw[ib]
   simp only[eH,ef,cr,hse,eq,s1,s2,aR,aT,aQ,bJ,cF (a:=[0,112,107,103,1]) (b:=seqB pkR l) (by simp only[aZ,bS];omega)];exact⟨r,rfl,rfl⟩
 ·have h1:(decide (1<=l.length)&&decide (l.length<=6))=false:=by
   cases hx:(decide (1<=l.length)&&decide (l.length<=6))
   ·rfl
   ·rw[bD,bw,bw]at hx;exact absurd hx hl
  have h2:(decide (((l.length:Nat):Int)<1)||decide ((6:Int)<((l.length:Nat):Int)))=true:=by
   rw[gq,bw,bw];omega
  refine⟨[],?_,?_⟩
  ·unfold M.ant;rw[hk,h1,Bool.and_false];rfl
  ·unfold M.anu;rw[h2];rfl
theorem aHO(l:List aV)(ok:eu aV.Ok l):M.aAG l=some true:=by
 unfold M.aAG;have e:=aHP l 1048576 ok (by omega) (by omega);by_cases hs:((aK aV.sz l:Nat):Int)<=1048576
 ·have hx:aK aV.sz l<=1048576:=by omega
  rw[cz hs]at e;obtain⟨r,e1,e2⟩:=aHN l hx;simp only[e,aHQ l hx,e1,e2,aHR l hx,aR,aT,eD (show ¬(1048576:Int)-((aK aV.sz l:Nat):Int)<0 by omega),ef,mA,eH,bJ,cr]
 ·rw[aw hs]at e;simp only[e,aR,aT,bJ,cr];rfl
end M
