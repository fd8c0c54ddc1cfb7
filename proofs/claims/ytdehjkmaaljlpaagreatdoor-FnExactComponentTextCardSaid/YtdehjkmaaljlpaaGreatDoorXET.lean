/-
  A COMPONENT's TEXT: words and lines; instructions and modules as the reference writes them.
-/
import Derived.Test.YtdehjkmaaljlpaaGreatDoorXEX
import Derived.Test.YtdehjkmaaljlpaaGreatDoorXEC
set_option linter.unusedVariables false
set_option linter.unusedSimpArgs false
namespace M
open Go Go.V
theorem mj{b n:Nat}(h:b<=n):decide (b<=n)=true:=fK h
theorem jO{α β R:Type}{F:Nat->Int->List β->Option R}{w:List β->R}{e:α->List β}(l:List α)(N:Nat)(hn:l.length<=1048576)
 (step:∀f k b,∀hk:k<l.length,b.length+(e l[k]).length<=N->F (f+1) (k:Int) b=F f ((k+1:Nat):Int) (b++e l[k]))
 (stop:∀f b,F (f+1) (l.length:Int) b=some (w b)) (a:List β) (h0:a.length+((l.map e).flatten).length<=N):F af 0 a=some (w (a++(l.map e).flatten)):=by
 have:=MJ (F:=F) (g:=fun b x=>b++e x) (h:=w) l (by omega) (fun k b=>b.length+(((l.drop k).map e).flatten).length<=N) (fun f k b hk hI=>by
  rw[fu hk,eu,List.flatten_cons,bA]at hI;exact⟨step f k b hk (by omega),by rw[bA];omega⟩) (fun f b _=>stop f b) a (by simpa using h0)
 rw[this];congr 2;clear this step stop h0 hn
 induction l generalizing a with
 |nil=>simp
 |cons x r ih=>rw[List.foldl_cons,ih,eu,List.flatten_cons,iR]
theorem aiv{α β:Type}{f:α->List β}{g:α->Nat}:∀(l:List α)(N:Nat),(∀x∈l,(f x).length<=N*(g x+1))->((l.map f).flatten).length<=N*az g l
 |[],N,_=>by simp[az]
 |x::r,N,h=>by
  have h1:=h x (nq ..);have h2:=aiv r N fun y hy=>h y (ml _ hy)
  rw[eu,List.flatten_cons,bA];simp only[az];rw[Nat.mul_add];omega
def wl(l:List (List UInt8)):List UInt8:=Go.Lib.join l [32]
theorem aiw:wl []=[]:=rfl
theorem w9(x:List UInt8)(r:List (List UInt8)):wl (x::r)=x++Go.Lib.joinTail [32] r:=Go.Lib.join_cons x r [32]
theorem aAL(l:List (List UInt8))(x:List UInt8):wl (l++[x])=(if 0<l.length then wl l++[32]else[])++x:=by
 cases l with
 |nil=>simp[w9,Go.Lib.joinTail]
 |cons y r=>rw[kJ,w9,w9];simp[Go.Lib.joinTail]
theorem aAM(s:UInt8)(r:List (List UInt8)):(Go.Lib.joinTail [s] r).length=az List.length r:=by
 induction r with
 |nil=>rfl
 |cons y t ih=>
  have:Go.Lib.joinTail [s] (y::t)=s::(y++Go.Lib.joinTail [s] t):=by simp[Go.Lib.joinTail]
  rw[this];simp only[aO,bA,ih,az];omega
theorem O6(s:UInt8):∀(l:List (List UInt8)),(Go.Lib.join l [s]).length<=az List.length l
 |[]=>by simp[Go.Lib.join_nil]
 |x::r=>by rw[Go.Lib.join_cons,bA,aAM];simp only[az];omega
theorem aAN(k:Nat)(s:List UInt8):(bif decide ((0:Int)<(k:Int))then s++[(32:UInt8)]else s)=if 0<k then s++[32]else s:=by
 by_cases h:0<k
 ·rw[aE h,fK (by omega)];rfl
 ·rw[av h,iS (by omega)];rfl
theorem aAO(k:Nat)(s:List UInt8):(if 0<k then s++[(32:UInt8)]else s).length<=s.length+1:=by split<;>simp
theorem qS(L:List (List UInt8))(hn:L.length<=1048576)(h:az List.length L<=500000000):M.gv L=some (wl L++[10]):=by
 have key:∀f k,k<=L.length->L.length-k<f->M.yz L f (wl (L.take k)) (k:Int)=some (wl L):=by
  intro f
  induction f with
  |zero=>intro k h1 h2;omega
  |succ f ih=>
   intro k h1 h2;rw[M.yz];rcases cA k L.length with hk|hk
   ·have hj:=O6 32 (L.take k);have ht:=O7 List.length L k;have hm:=dr List.length L L[k] (bG hk);have hl:(wl (L.take k)).length<=500000000:=cD hj (by omega);have c0:aW (wl (L.take k)) [(32:UInt8)]=true:=cH (by simp only[aO,aU];omega);have c1:aW (if 0<k then wl (L.take k)++[32]else wl (L.take k)) L[k]=true:=cH (by have:=aAO k (wl (L.take k));omega);simp only[bJ,hk,bg,aA,aAN,bz,bp,getD_lt hk,c0,c1,aZ,aR,bZ,bw hk (by omega:L.length<2^62)];have e:(if 0<k then wl (L.take k)++[32]else wl (L.take k))++L[k]=wl (L.take (k+1)):=by
     rw[ka,ct hk,Option.toList_some,aAL,ib,Nat.min_eq_left (by omega)];by_cases hz:0<k
     ·rw[aE hz,aE hz]
     ·have:k=0:=by omega
      subst this;simp[aiw]
    rw[e];exact ih (k+1) (by omega) (by omega)
   ·have:k=L.length:=by omega
    subst this;simp only[Int.lt_irrefl,j0,bN,iJ]
 have e:=key af 0 (abo _) (by have:=bV;omega);rw[List.take_zero,aiw]at e;have hj:(wl L).length<=500000000:=cD (O6 32 L) h;have c0:aW (wl L) [(10:UInt8)]=true:=cH (by simp only[aO,aU];omega);unfold M.gv;rw[show((0:Int))=((0:Nat):Int)from rfl,e];simp only[c0,aR,aA]
def nl(l:List (List UInt8)):List UInt8:=(l.map (· ++[10])).flatten
theorem xa(a b:List (List UInt8)):nl (a++b)=nl a++nl b:=by simp[nl]
theorem aix{α:Type}(g:α->List (List UInt8))(l:List α):nl ((l.map g).flatten)=(l.map fun x=>nl (g x)).flatten:=by
 induction l with
 |nil=>rfl
 |cons a l ih=>simp only[eu,List.flatten_cons,xa,ih]
theorem O8:∀(l:List (List UInt8)),(nl l).length=az List.length l
 |[]=>rfl
 |x::r=>by have:=O8 r;unfold nl at*;simp only[eu,List.flatten_cons,bA,aO,aU,az,this]
theorem aAP(x:List UInt8)(r:List (List UInt8)):Go.Lib.join (x::r) [10]++[10]=nl (x::r):=by
 rw[Go.Lib.join_cons];have:∀r:List (List UInt8),Go.Lib.joinTail [10] r++[10]=10::nl r:=fun r=>by
  induction r with
  |nil=>rfl
  |cons y t ih=>
   have e:Go.Lib.joinTail [10] (y::t)=10::(y++Go.Lib.joinTail [10] t):=by simp[Go.Lib.joinTail]
   rw[e,kJ,iR,ih];simp[nl]
 rw[iR,this];simp[nl]
noncomputable def lr:List (List UInt8):=Option.getD M.vx default
theorem aAQ:M.vx=some lr:=rfl
theorem aiy:lr.length=40:=rfl
theorem O9(k:Nat):(lr.getD k []).length<=7:=by
 have:∀x∈lr,x.length<=7:=by decide
 rcases cA k lr.length with h|h
 ·rw[getD_lt h];exact this _ (bG h)
 ·rw[dG,m9 h];simp
noncomputable def Pe(op:Int):Bool:=((M.vg op).getD default).2.2
theorem Pg(op:Int):(M.om op).isSome=true/\((M.om op).getD default).2.2=Pe op:=by
 obtain⟨y,hy,-⟩:=O5 op;exact⟨by rw[hy];rfl,rfl⟩
theorem aAR(op:Int):(M.vg op).isSome=true:=(Pg op).1
theorem KR{i:aG}(h:gi i=true): -9223372036854775808<=i.A/\i.A<=9223372036854775807:=by
 have h1:=KN h;by_cases e:i.Op=1
 ·unfold gi M.ql at h;rw[e]at h;have hy:M.om 1=some (-9223372036854775808,9223372036854775807,true):=rfl;rw[hy]at h;simp only[aX,aV,cK,aA,bC,bq]at h;omega
 ·have:=h1.2 e;omega
noncomputable def EX(i:aG):List UInt8:=bif Pe i.Op then lr.getD (i.Op-1).toNat []++([32]++Go.Lib.itoa i.A)else lr.getD (i.Op-1).toNat []
theorem aAS{i:aG}(h:gi i=true):(EX i).length<=28:=by
 have h1:=O9 (i.Op-1).toNat;have h2:=KU i.A (KR h).1 (KR h).2;unfold EX;cases Pe i.Op
 ·simp only[bN];omega
 ·simp only[aA,bA,aO,aU];omega
theorem aAT{i:aG}(h:gi i=true):M.Cm i=some (EX i):=by
 have h1:=(KN h).1;have ha:=KR h;have l1:=O9 (i.Op-1).toNat;have l2:=KU i.A ha.1 ha.2;have w1:IntKind.wrap .i64 (i.Op-1)=i.Op-1:=wrap_i64 (by omega) (by omega);have i1:inB (i.Op-1) lr.length=true:=by
  rw[aiy];unfold inB;simp only[bC,bq];omega
 have c1:aW [(32:UInt8)] (Go.Lib.itoa i.A)=true:=cH (by simp only[aO,aU];omega);have c2:aW (lr.getD (i.Op-1).toNat []) ([(32:UInt8)]++Go.Lib.itoa i.A)=true:=cH (by simp only[bA,aO,aU];omega);unfold M.Cm;simp only[w1,aAQ,aiz i.A ha.1 ha.2,aV,aX,aAR,i1,c1,c2,aZ,aR,bZ,aA];rfl
end M
namespace M
open Go Go.V
structure MB (m:aM):Prop where
 pg:1<=m.dh/\m.dh<=16
 ni:m.al.length<=12
 nc:m.aI.length<=8
 im:∀x∈m.al,(0<=x.Params/\x.Params<=8)/\x.Name.length<=40
 co:∀x∈m.aI,(0<=x.Params/\x.Params<=8)/\(0<=x.cX/\x.cX<=8)/\x.Name.length<=40/\x.Code.length<=120/\∀i∈x.Code,gi i=true
theorem aiA{s:List UInt8}(h:gh s=true):s.length<=40:=by
 unfold gh at h;simp only[bC,bq]at h;exact h.2.2
theorem aAU{m:aM}(h:hZ m=true):MB m:=by
 unfold hZ uG at h;simp only[bC,bq,dz]at h;obtain⟨⟨⟨hp,hi⟩,hc⟩,⟨h1,h2⟩,⟨-,n1⟩,-,n2⟩:=h;refine⟨hp,hi,hc,fun x hx=>⟨?_,aiA (n1 _ (jB.2 ⟨x,hx,rfl⟩))⟩,fun x hx=>?_⟩
 ·have:=h1 x hx;unfold pH at this;simpa using this
 ·have:=h2 x hx;unfold lq at this;simp only[bC,bq,dz]at this;exact⟨this.1.1.1,this.1.1.2,aiA (n2 _ (jB.2 ⟨x,hx,rfl⟩)),this.1.2,this.2⟩
theorem tZ{α β:Type}{f:α->List β}:∀(l:List α)(B:Nat),(∀x∈l,(f x).length<=B)->((l.map f).flatten).length<=B*l.length
 |[],B,_=>by simp
 |x::r,B,h=>by
  have h1:=h x (nq ..);have h2:=tZ r B fun y hy=>h y (ml _ hy)
  rw[eu,List.flatten_cons,bA,aO,Nat.mul_add];omega
theorem KV{s b:List UInt8}(h:b.length+s.length<=1073741824):M.sD s b=some ((s.length:Int),b++s):=by
 unfold M.sD;simp only[List.map_id',mj h,aR,aA]
theorem aAV{s:List UInt8}(h:s.length<=1073741824):M.sF s=some s:=by
 unfold M.sF;rw[mj h];rfl
theorem ua{n:Int}(h: -9223372036854775808<=n/\n<=9223372036854775807):M.iv n=some (Go.Lib.itoa n):=by
 unfold M.iv;rw[fK h.1,fK h.2];rfl
theorem Ph{n:Int}(h: -9223372036854775808<=n/\n<=9223372036854775807):M.mQ n=some (Go.Lib.itoa n):=aiz n h.1 h.2
def EY(b:Bool):List UInt8:=bif b then[49]else[48]
theorem zH(b:Bool):(EY b).length=1:=by cases b<;>rfl
theorem aiB(b:Bool):M.Cj b=some (EY b):=by cases b<;>rfl
theorem aiC(b:Bool):M.jt b=some (if b then 1 else 0):=by cases b<;>rfl
theorem aiD(b:Bool):M.iv (if b then 1 else 0)=some (EY b):=by
 have d (n:Nat) (h:n<10):Go.Lib.decDigits n=[UInt8.ofNat (48+n)]:=by rw[Go.Lib.decDigits,xP h]
 cases b
 ·show M.iv 0=some [48]
  rw[ua (by decide)];show some (Go.Lib.decDigits 0)=_;rw[d 0 (by decide)];rfl
 ·show M.iv 1=some [49]
  rw[ua (by decide)];show some (Go.Lib.decDigits 1)=_;rw[d 1 (by decide)];rfl
theorem aAW:M.yL=some ([45]::lr):=by decide+kernel
theorem aAX{i:aG}(h:gi i=true):M.CQ i=some (EX i):=by
 have h1:=(KN h).1;have ha:=KR h;have l1:=O9 (i.Op-1).toNat;have l2:=KU i.A ha.1 ha.2;have i1:inB i.Op (([45]:List UInt8)::lr).length=true:=by
  rw[aO,aiy];unfold inB;simp only[bC,bq];omega
 have g1:List.getD (([45]:List UInt8)::lr) i.Op.toNat []=lr.getD (i.Op-1).toNat []:=by
  have:i.Op.toNat=(i.Op-1).toNat+1:=by omega
  rw[this];rfl
 have c1:aW [(32:UInt8)] (Go.Lib.itoa i.A)=true:=cH (by simp only[aO,aU];omega);have c2:aW (lr.getD (i.Op-1).toNat []) ([(32:UInt8)]++Go.Lib.itoa i.A)=true:=cH (by simp only[bA,aO,aU];omega);unfold M.CQ;simp only[aAW,ua ha,aV,aX,(Pg i.Op).1,(Pg i.Op).2,i1,g1,c1,c2,aZ,aR,bZ,aA];rfl
def ns(x:aN):List UInt8:=((((([(105:UInt8),109,112,111,114,116,32]++x.Name)++[32])++Go.Lib.itoa x.Params)++[32])++EY x.Result)++[10]
def xb(c:an):List UInt8:=((((((([(99:UInt8),111,114,101,32]++c.Name)++[32])++Go.Lib.itoa c.Params)++[32])++Go.Lib.itoa c.cX)++[32])++EY c.Result)++[10]
noncomputable def insL(i:aG):List UInt8:=EX i++[10]
noncomputable def mm(c:an):List UInt8:=xb c++(c.Code.map insL).flatten
noncomputable def zI(m:aM):List UInt8:=((([(109:UInt8),111,100,117,108,101,32]++Go.Lib.itoa m.dh)++[10])++(m.al.map ns).flatten)++(m.aI.map mm).flatten
theorem ku{n:Int}(h: -9223372036854775808<=n/\n<=9223372036854775807):(Go.Lib.itoa n).length<=20:=KU n h.1 h.2
theorem aAY{x:aN}(h:(0<=x.Params/\x.Params<=8)/\x.Name.length<=40):(ns x).length<=80:=by
 have h1:=ku (n:=x.Params) (by omega);have h2:=zH x.Result;simp only[ns,bA,aO,aU];omega
theorem aAZ{c:an}(hp:0<=c.Params/\c.Params<=8)(hl:0<=c.cX/\c.cX<=8)(hn:c.Name.length<=40):(xb c).length<=100:=by
 have h1:=ku (n:=c.Params) (by omega);have h2:=ku (n:=c.cX) (by omega);have h3:=zH c.Result;simp only[xb,bA,aO,aU];omega
theorem aA0{i:aG}(h:gi i=true):(insL i).length<=29:=by
 have:=aAS h;simp only[insL,bA,aO,aU];omega
theorem EZ{l:List aG}(hl:l.length<=120)(h:∀i∈l,gi i=true):((l.map insL).flatten).length<=3480:=by
 have:=tZ (f:=insL) l 29 fun i hi=>aA0 (h i hi)
 omega
theorem Pj{m:aM}(hb:MB m):((m.aI.map mm).flatten).length<=30000:=by
 have:=tZ (f:=mm) m.aI 3580 fun c hc=>by
  obtain⟨h1,h2,h3,h4,h5⟩:=hb.co c hc;have a1:=aAZ h1 h2 h3;have a2:=EZ h4 h5;unfold mm;rw[bA];omega
 have:=hb.nc;omega
theorem Pl{m:aM}(hb:MB m):((m.al.map ns).flatten).length<=1000:=by
 have:=tZ (f:=ns) m.al 80 fun c hc=>aAY (hb.im c hc)
 have:=hb.ni;omega
theorem aiE{m:aM}(hb:MB m):(zI m).length<=40000:=by
 have h1:=Pj hb;have h2:=Pl hb;have hp:=hb.pg;have h3:=ku (n:=m.dh) (by omega);simp only[zI,bA,aO,aU];omega
theorem aA1(i:Int)(m:aM)(c:an)(hl:c.Code.length<=120)(h:∀i∈c.Code,gi i=true)(t:List UInt8)(ht:t.length+((c.Code.map insL).flatten).length<=1073741824):M.oJ i m c af t 0=some (t++(c.Code.map insL).flatten,i,m):=by
 have hf:=EZ hl h;exact jO (F:=fun f k t=>M.oJ i m c f t k) (w:=fun t=>(t,i,m)) (e:=insL) c.Code 1073741824 (by omega) (fun f k b hk hI=>by
  show M.oJ i m c (f+1) b (k:Int)=_
  rw[M.oJ];have hx:=h _ (bG hk);simp only[insL,bA,aO,aU]at hI;simp (disch:=(first|omega|(simp only[bA,aO,aU,cr]<;>omega))) only[getD_lt hk,bz,aAT hx,cH,bp,bJ,hk,bg,aA,aZ,aR,bw hk (by omega:c.Code.length<2^62),aV,aX];rfl) (fun f b=>by
  show M.oJ i m c (f+1) b _=_
  rw[M.oJ];simp) t ht
theorem aA2{m:aM}(hb:MB m):M.CC m=some (zI m):=by
 have h1:=Pj hb;have h2:=Pl hb;have hp:=hb.pg;have h3:=ku (n:=m.dh) (by omega);have hi:=hb.ni;have hc:=hb.nc;have e0:∀t:List UInt8,t.length<=1000000000->M.oI m af t 0=some (t++(m.al.map ns).flatten,m):=fun t ht=>
  jO (F:=fun f k t=>M.oI m f t k) (w:=fun t=>(t,m)) (e:=ns) m.al 1073741824 (by omega) (fun f k b hk hI=>by
  show M.oI m (f+1) b (k:Int)=_
  rw[M.oI];have hx:=hb.im _ (bG hk);have h1:=ku (n:=m.al[k].Params) (by omega);have h2:=zH m.al[k].Result;simp only[ns,bA,aO,aU]at hI;simp (disch:=(first|omega|(simp only[bA,aO,aU,cr]<;>omega))) only[getD_lt hk,bz,Ph,aiB,cH,bp,bJ,hk,bg,aA,aZ,aR,bw hk (by omega:m.al.length<2^62),aV,aX];rfl) (fun f b=>by
  show M.oI m (f+1) b _=_
  rw[M.oI];simp) t (by omega)
 have e1:∀t:List UInt8,t.length<=1000000000->M.oK af t 0 m=some (t++(m.aI.map mm).flatten):=fun t ht=>
  jO (F:=fun f k t=>M.oK f t k m) (w:=fun t=>t) (e:=mm) m.aI 1073741824 (by omega) (fun f k b hk hI=>by
  show M.oK (f+1) b (k:Int) m=_
  rw[M.oK];obtain⟨a1,a2,a3,a4,a5⟩:=hb.co _ (bG hk);have a6:=EZ a4 a5;have h1:=ku (n:=m.aI[k].Params) (by omega);have h3:=ku (n:=m.aI[k].cX) (by omega);have h2:=zH m.aI[k].Result;simp only[mm,xb,bA,aO,aU]at hI;simp (disch:=(first|omega|(simp only[bA,aO,aU,cr]<;>omega))) only[getD_lt hk,bz,Ph,aiB,cH,bp,bJ,hk,bg,aA,aZ,aR,aV,aX,aA1 _ m m.aI[k] a4 a5,bw hk (by omega:m.aI.length<2^62)];simp only[mm,xb,iR]) (fun f b=>by
  show M.oK (f+1) b _ m=_
  rw[M.oK];simp) t (by omega)
 unfold M.CC;simp (disch:=(first|omega|(simp only[bA,aO,aU,cr]<;>omega))) only[Ph,e0,e1,cH,aV,aX,aR,aA];rfl
theorem aA3(l:List an)(n k:Int)(c:List aG)(hl:c.length<=120)(h:∀i∈c,gi i=true)(t:List UInt8)(ht:t.length+((c.map insL).flatten).length<=1073741824):M.oV l n k c (c.length:Int) af 0 t=some (l,n,k,t++(c.map insL).flatten):=by
 have hf:=EZ hl h;exact jO (F:=fun f j t=>M.oV l n k c (c.length:Int) f j t) (w:=fun t=>(l,n,k,t)) (e:=insL) c 1073741824 (by omega) (fun f j b hk hI=>by
  show M.oV l n k c (c.length:Int) (f+1) (j:Int) b=_
  rw[M.oV];have hx:=h _ (bG hk);simp only[insL,bA,aO,aU]at hI;simp (disch:=(first|omega|(simp only[bA,aO,aU,cr]<;>omega))) only[getD_lt hk,bz,aAX hx,cH,KV,bp,bJ,hk,bg,aA,aZ,aR,bw hk (by omega:c.length<2^62),aV,aX];rfl) (fun f b=>by
  show M.oV l n k c (c.length:Int) (f+1) _ b=_
  rw[M.oV];simp) t ht
theorem aA4{m:aM}(hb:MB m):M.CU m=some (zI m):=by
 have h1:=Pj hb;have h2:=Pl hb;have hp:=hb.pg;have h3:=ku (n:=m.dh) (by omega);have hi:=hb.ni;have hc:=hb.nc;have e0:∀t:List UInt8,t.length<=1000000000->M.oU m.al (m.al.length:Int) m af 0 t=some (m,t++(m.al.map ns).flatten):=fun t ht=>
  jO (F:=fun f k t=>M.oU m.al (m.al.length:Int) m f k t) (w:=fun t=>(m,t)) (e:=ns) m.al 1073741824 (by omega) (fun f k b hk hI=>by
  show M.oU m.al (m.al.length:Int) m (f+1) (k:Int) b=_
  rw[M.oU];have hx:=hb.im _ (bG hk);have h1:=ku (n:=m.al[k].Params) (by omega);have h2:=zH m.al[k].Result;simp only[ns,bA,aO,aU]at hI;simp (disch:=(first|omega|(simp only[bA,aO,aU,cr]<;>omega))) only[getD_lt hk,bz,aiC,aiD,ua (n:=m.al[k].Params) (by omega),cH,KV,bp,bJ,hk,bg,aA,aZ,aR,bw hk (by omega:m.al.length<2^62),aV,aX];rfl) (fun f b=>by
  show M.oU m.al (m.al.length:Int) m (f+1) _ b=_
  rw[M.oU];simp) t (by omega)
 have e1:∀t:List UInt8,t.length<=1000000000->M.oW af m.aI (m.aI.length:Int) 0 t=some (t++(m.aI.map mm).flatten):=fun t ht=>
  jO (F:=fun f k t=>M.oW f m.aI (m.aI.length:Int) k t) (w:=fun t=>t) (e:=mm) m.aI 1073741824 (by omega) (fun f k b hk hI=>by
  show M.oW (f+1) m.aI (m.aI.length:Int) (k:Int) b=_
  rw[M.oW];obtain⟨a1,a2,a3,a4,a5⟩:=hb.co _ (bG hk);have a6:=EZ a4 a5;have h1:=ku (n:=m.aI[k].Params) (by omega);have h3:=ku (n:=m.aI[k].cX) (by omega);have h2:=zH m.aI[k].Result;simp only[mm,xb,bA,aO,aU]at hI;simp (disch:=(first|omega|(simp only[bA,aO,aU,cr]<;>omega))) only[getD_lt hk,bz,aiC,aiD,ua (n:=m.aI[k].Params) (by omega),ua (n:=m.aI[k].cX) (by omega),cH,KV,bp,bJ,hk,bg,aA,aZ,aR,aV,aX,aA3 m.aI _ _ m.aI[k].Code a4 a5,bw hk (by omega:m.aI.length<2^62)];simp only[mm,xb,iR]) (fun f b=>by
  show M.oW (f+1) m.aI (m.aI.length:Int) _ b=_
  rw[M.oW];simp) t (by omega)
 unfold M.CU;simp (disch:=(first|omega|(simp only[bA,aO,aU,cr]<;>omega))) only[ua,e0,e1,cH,KV,aAV,kP,aV,aX,aR,aA];rfl
end M
namespace M
open Go Go.V
theorem xc{α β:Type}(g:α->β):∀l:List α,(l.map fun x=>[g x]).flatten=l.map g
 |[]=>rfl
 |x::r=>by rw[eu,List.flatten_cons,xc g r];rfl
theorem Pm(a b:List UInt8):wl [a,b]=(a++[32])++b:=by simp[w9,Go.Lib.joinTail]
theorem Pn(a b c:List UInt8):wl [a,b,c]=(((a++[32])++b)++[32])++c:=by simp[w9,Go.Lib.joinTail]
theorem wl4(a b c d:List UInt8):wl [a,b,c,d]=(((((a++[32])++b)++[32])++c)++[32])++d:=by simp[w9,Go.Lib.joinTail]
theorem wl5(a b c d e:List UInt8):wl [a,b,c,d,e]=(((((((a++[32])++b)++[32])++c)++[32])++d)++[32])++e:=by simp[w9,Go.Lib.joinTail]
structure FB (f:ar):Prop where
 pk:f.dn.length<=12
 nm:f.Name.length<=12
 sz:f.sz<=1048576
 nr:f.bI.length<=4
 nf:f.Funcs.length<=8
 rs:∀r∈f.bI,r.length<=12
 fn:∀x∈f.Funcs,x.Name.length<=12/\fJ x.aS=true
theorem FB.vr{f:ar}(h:FB f):f.Version.length<=1048576:=by
 have:=h.sz;rw[ar.bQ]at this;omega
theorem aiG{f:ar}(h:lI f=true)(hs:f.sz<=1048576):FB f:=by
 unfold lI at h;simp only[bC,bq,dz]at h;obtain⟨⟨⟨⟨h1,h2⟩,h3⟩,h4,h5⟩,⟨h6,h7⟩,h8,h9⟩:=h;exact⟨qT h1,qT h2,hs,h4,h5,fun r hr=>qT (h7 r hr),fun x hx=>by
  have:=h8 x hx;unfold mG at this;simp only[bC]at this;exact⟨qT this.1.1,this.1.2⟩⟩
theorem Po{f:ay}(h:fJ f=true):(ub f).length<=850000:=by
 have h1:=Pq f.Async;have h2:=nt (f.Params.map jP);have h3:=Pv h;have h4:(E0 f.Result).length<=120021:=by
  have:=zJ (KW h).2.2;unfold E0;split
  ·simp
  ·simp only[bA,aO,aU];omega
 simp only[ub,bA,aO];omega
def nu(r:List UInt8):List UInt8:=[(114:UInt8),101,115,111,117,114,99,101,32]++r
noncomputable def nw(x:aF):List UInt8:=(([(102:UInt8),117,110,99,32]++x.Name)++[32])++ub x.aS
def zK(w:List UInt8)(f:ar):List UInt8:=(((w++[32])++((f.dn++[47])++f.Name))++[32])++f.Version
noncomputable def gY(w:List UInt8)(f:ar):List (List UInt8):=zK w f::(f.bI.map nu++f.Funcs.map nw)
theorem aA6{r:List UInt8}(h:r.length<=12):(nu r).length<=21:=by
 simp only[nu,bA,aO,aU];omega
theorem aA7{x:aF}(h:x.Name.length<=12/\fJ x.aS=true):(nw x).length<=850018:=by
 have:=Po h.2;simp only[nw,bA,aO,aU];omega
theorem aiH{f:ar}(h:FB f){w:List UInt8}(hw:w.length<=6):(zK w f).length<=1048609:=by
 have h1:=h.pk;have h2:=h.nm;have h3:=h.vr;simp only[zK,bA,aO,aU];omega
theorem aiI{f:ar}(h:FB f):((f.bI.map fun r=>nu r++[10]).flatten).length<=88:=by
 have:=tZ (f:=fun r=>nu r++[10]) f.bI 22 fun r hr=>by
  have:=aA6 (h.rs r hr);simp only[bA,aO,aU];omega
 have:=h.nr;omega
theorem aiJ{f:ar}(h:FB f):((f.Funcs.map fun x=>nw x++[10]).flatten).length<=6800152:=by
 have:=tZ (f:=fun x=>nw x++[10]) f.Funcs 850019 fun r hr=>by
  have:=aA7 (h.fn r hr);simp only[bA,aO,aU];omega
 have:=h.nf;omega
theorem aiK(w:List UInt8)(f:ar):nl (gY w f)=((zK w f++[10])++(f.bI.map fun r=>nu r++[10]).flatten)++(f.Funcs.map fun x=>nw x++[10]).flatten:=by
 simp[nl,gY,Function.comp_def]
theorem aA8{f:ar}(h:FB f){w:List UInt8}(hw:w.length<=6):(nl (gY w f)).length<=8000000:=by
 have h1:=aiH h hw;have h2:=aiI h;have h3:=aiJ h;rw[aiK];simp only[bA,aO,aU];omega
theorem aA9{f:ar}(h:FB f)(w:List UInt8):(gY w f).length<=13:=by
 have h1:=h.nr;have h2:=h.nf;simp only[gY,bA,aO,cr];omega
theorem aiL{f:ar}(h:FB f){w:List UInt8}(hw:w.length<=6):M.yK w f=some (gY w f):=by
 have h1:=h.pk;have h2:=h.nm;have h3:=h.vr;have hr:=h.nr;have hf:=h.nf;have e0:∀t:List (List UInt8),t.length<=1000->M.oL f.bI (f.bI.length:Int) f af 0 t=some (f,t++f.bI.map nu):=fun t ht=>by
  have:=jO (F:=fun g k t=>M.oL f.bI (f.bI.length:Int) f g k t) (w:=fun t=>(f,t)) (e:=fun r=>[nu r]) f.bI 1073741824 (by omega) (fun g k b hk hI=>by
   show M.oL f.bI (f.bI.length:Int) f (g+1) (k:Int) b=_
   rw[M.oL];have hx:=h.rs _ (bG hk);simp only[aO,aU]at hI;simp (disch:=(first|omega|(simp only[bA,aO,aU,cr]<;>omega))) only[getD_lt hk,bz,cH,mj,aO,aU,bp,bJ,hk,bg,aA,aZ,aR,bw hk (by omega:f.bI.length<2^62),aV,aX];rfl) (fun g b=>by
   show M.oL f.bI (f.bI.length:Int) f (g+1) _ b=_
   rw[M.oL];simp) t (by rw[xc,cr];omega)
  rw[xc]at this;exact this
 have e1:∀t:List (List UInt8),t.length<=1000->M.oN f.Funcs (f.Funcs.length:Int) af 0 t=some (t++f.Funcs.map nw):=fun t ht=>by
  have:=jO (F:=fun g k t=>M.oN f.Funcs (f.Funcs.length:Int) g k t) (w:=fun t=>t) (e:=fun r=>[nw r]) f.Funcs 1073741824 (by omega) (fun g k b hk hI=>by
   show M.oN f.Funcs (f.Funcs.length:Int) (g+1) (k:Int) b=_
   rw[M.oN];obtain⟨a1,a2⟩:=h.fn _ (bG hk);have a3:=Po a2;simp only[aO,aU]at hI;simp (disch:=(first|omega|(simp only[bA,aO,aU,cr]<;>omega))) only[getD_lt hk,bz,ay.ai,aBa a2,cH,mj,aO,aU,bp,bJ,hk,bg,aA,aZ,aR,bw hk (by omega:f.Funcs.length<2^62),aV,aX];rfl) (fun g b=>by
   show M.oN f.Funcs (f.Funcs.length:Int) (g+1) _ b=_
   rw[M.oN];simp) t (by rw[xc,cr];omega)
  rw[xc]at this;exact this
 unfold M.yK;simp (disch:=(first|omega|(simp only[bA,aO,aU,cr]<;>omega))) only[Gq f h.sz,e0,aV,aX,cH,aO,aU,bA,cr,e1,aR,aZ,aA];simp[gY,zK]
theorem aBb{r:List UInt8}(h:r.length<=12):M.gv [[(114:UInt8),101,115,111,117,114,99,101],r]=some (nu r++[10]):=by
 rw[qS _ (by simp) (by simp only[az,aO,aU];omega),Pm];rfl
theorem aBc{x:aF}(h:x.Name.length<=12/\fJ x.aS=true):M.gv [[(102:UInt8),117,110,99],x.Name,ub x.aS]=some (nw x++[10]):=by
 have:=Po h.2;rw[qS _ (by simp) (by simp only[az,aO,aU];omega),Pn];rfl
theorem aBd{f:ar}(h:FB f){w:List UInt8}(hw:w.length<=6):M.gv [w,(f.dn++[47])++f.Name,f.Version]=some (zK w f++[10]):=by
 have h1:=h.pk;have h2:=h.nm;have h3:=h.vr;rw[qS _ (by simp) (by simp only[az,bA,aO,aU];omega),Pn];rfl
theorem aiM{f:ar}(h:FB f){w:List UInt8}(hw:w.length<=6):M.yE w f=some (nl (gY w f)):=by
 have h1:=h.pk;have h2:=h.nm;have hl:=aiH h hw;have hr:=h.nr;have hf:=h.nf;have r1:=aiI h;have r2:=aiJ h;have e0:∀t:List UInt8,t.length<=100000000->M.oq f af t 0=some (t++(f.bI.map fun r=>nu r++[10]).flatten,f):=fun t ht=>
  jO (F:=fun g k t=>M.oq f g t k) (w:=fun t=>(t,f)) (e:=fun r=>nu r++[10]) f.bI 1073741824 (by omega) (fun g k b hk hI=>by
   show M.oq f (g+1) b (k:Int)=_
   rw[M.oq];have hx:=h.rs _ (bG hk);simp only[bA,aO,aU]at hI;simp (disch:=(first|omega|(simp only[bA,aO,aU,cr]<;>omega))) only[getD_lt hk,bz,aBb hx,cH,bp,bJ,hk,bg,aA,aZ,aR,bw hk (by omega:f.bI.length<2^62),aV,aX]) (fun g b=>by
   show M.oq f (g+1) b _=_
   rw[M.oq];simp) t (by omega)
 have e1:∀t:List UInt8,t.length<=100000000->M.ow f af t 0=some (t++(f.Funcs.map fun r=>nw r++[10]).flatten):=fun t ht=>
  jO (F:=fun g k t=>M.ow f g t k) (w:=fun t=>t) (e:=fun r=>nw r++[10]) f.Funcs 1073741824 (by omega) (fun g k b hk hI=>by
   show M.ow f (g+1) b (k:Int)=_
   rw[M.ow];have hx:=h.fn _ (bG hk);simp only[bA,aO,aU]at hI;simp (disch:=(first|omega|(simp only[bA,aO,aU,cr]<;>omega))) only[getD_lt hk,bz,ay.ai,aBe hx.2,aBc hx,cH,bp,bJ,hk,bg,aA,aZ,aR,bw hk (by omega:f.Funcs.length<2^62),aV,aX]) (fun g b=>by
   show M.ow f (g+1) b _=_
   rw[M.ow];simp) t (by omega)
 unfold M.yE;simp (disch:=(first|omega|(simp only[bA,aO,aU,cr]<;>omega))) only[aBd h hw,e0,e1,cH,aV,aX,aR,aZ,aA];rw[aiK]
end M
namespace M
open Go Go.V
theorem pI{b:Bool}{x y:List UInt8}(hx:x≠[])(h:(bif !b then x else y)=[]):b=true/\y=[]:=by
 cases b
 ·exact absurd h hx
 ·exact⟨rfl,h⟩
structure CB (c:aP):Prop where
 fm:gU c.al=true
 mI:gU c.bM=true
 enc:rK c=true
 mod:hZ c.Module=true
 res:oe c=true
 blt:lG c=true
theorem aBf{c:aP}(h:qh c=[]):CB c:=by
 unfold qh at h;obtain⟨-,h⟩:=pI (by decide) h;obtain⟨-,h⟩:=pI (by decide) h;obtain⟨h3,h⟩:=pI (by decide) h;obtain⟨h4,h⟩:=pI (by decide) h;obtain⟨h5,h⟩:=pI (by decide) h;obtain⟨h6,h⟩:=pI (by decide) h;obtain⟨h7,h⟩:=pI (by decide) h;obtain⟨-,h⟩:=pI (by decide) h;obtain⟨-,h⟩:=pI (by decide) h;obtain⟨h10,h⟩:=pI (by decide) h;exact⟨h3,h4,h5,MK h6,h7,h10⟩
theorem aiN{l:List ar}(h:gU l=true):l.length<=6/\∀f∈l,lI f=true:=by
 unfold gU at h;simp only[bC,bq,dz]at h;exact⟨h.1,fun f hf=>by have:=h.2.1 f hf;unfold mH at this;rw[bC]at this;exact this.1⟩
theorem aBg{c:aP}(h:rK c=true):1<=c.Encoding/\c.Encoding<=3:=by
 unfold rK at h;simpa using h
theorem aBh{c:aP}(h:oe c=true):0<=c.ew/\c.ew<=1024:=by
 unfold oe at h;rw[bC]at h;simpa using h.1
theorem aBi{c:aP}(h:lG c=true):∀x∈c.Builtins,1<=x.Kind/\x.Kind<=3:=fun x hx=>by
 unfold lG at h;simp only[bC,dz]at h;have:=h.2 x hx;unfold qd at this;simp only[bC,bq]at this;exact this.1.1
theorem aBj(s:List UInt8):∃r,M.CJ s=some r/\M.CW s=some r:=by
 unfold M.CJ M.CW;cases decide ((60000:Int)<((s.length:Nat):Int))<;>exact⟨_,rfl,rfl⟩
theorem aiO:∀(g m u:Nat),u<10^(g+1)->g<=9->g<m->M.lP m (u:Int)=some (Go.Lib.decDigits u)
 |g,0,u,_,_,h=>by omega
 |g,m+1,u,hu,hg,hm=>by
  have h63:u<9223372036854775808:=ju hu (cD (Nat.pow_le_pow_right (by decide) (show g+1<=10 by omega)) (by decide))
  show M.tB (M.lP m) (u:Int)=_
  unfold M.tB;by_cases h1:u<10
  ·obtain⟨d1,d2⟩:=KX u h1;rw[fK (show((u:Nat):Int)<10 by omega),Go.Lib.decDigits_one h1];simp only[aA,d1,d2,cK,eu,List.map_nil]
  ·match g,hu with
   |0,hu=>simp at hu;omega
   |g+1,hu=>
    have hq:u/10<10^(g+1):=by rw[Nat.div_lt_iff_lt_mul (by omega)];rw[Nat.pow_succ]at hu;exact hu
    have ih:=aiO g m (u/10) hq (by omega) (by omega);have w1:Go.IntKind.wrap Go.IntKind.i64 (Int.tdiv ((u:Nat):Int) 10)=((u/10:Nat):Int):=by
     have:Int.tdiv ((u:Nat):Int) 10=((u/10:Nat):Int):=by rw[Int.tdiv_eq_ediv_of_nonneg (by omega)];omega
     rw[this,wrap_i64 (by omega) (by omega)]
    have w2:Int.tmod ((u:Nat):Int) 10=((u%10:Nat):Int):=by rw[Int.tmod_eq_emod_of_nonneg (by omega)];omega
    obtain⟨d1,d2⟩:=KX (u%10) (by omega);have hl:=zL g (u/10) hq;have hc:aW (Go.Lib.decDigits (u/10)) [UInt8.ofNat (48+u%10)]=true:=cH (by simp only[aO,aU];omega);have h10:((10:Int) !=0)=true:=rfl;rw[iS (show ¬((u:Nat):Int)<10 by omega)];simp only[bN,w1,w2,ih,d1,d2,hc,h10,aV,aX,cK,eu,List.map_nil,aA];rw[Px h1]
theorem aBk{n:Int}(h:0<=n/\n<=1024):M.mR n=some (Go.Lib.itoa n):=by
 obtain⟨g,hg⟩:∃g,af=g+10:=⟨af-10,by have:=bV;omega⟩;have:=aiO 3 (g+10) n.toNat (by omega) (by omega) (by omega);rw[show((n.toNat:Nat):Int)=n by omega]at this;rw[show M.mR=M.lP af from rfl,hg,this];unfold Go.Lib.itoa;rw[av (by omega)]
def pJ:List (List UInt8):=Option.getD M.vy default
theorem aBl:M.vy=some pJ:=rfl
theorem aBm:M.yA=some pJ:=rfl
def qU:List (List UInt8):=Option.getD M.vA default
theorem aBn:M.vA=some qU:=rfl
theorem aBo:M.yF=some qU:=rfl
theorem w4{W:List (List UInt8)}(hW:W.length=4){k:Int}(h:1<=k/\k<=3):inB k W.length=true:=by
 rw[hW];unfold inB;simp only[bC,bq];omega
theorem Py(k:Nat):(pJ.getD k []).length<=6:=by
 have:∀x∈pJ,x.length<=6:=by decide
 rcases cA k pJ.length with h|h
 ·rw[getD_lt h];exact this _ (bG h)
 ·rw[dG,m9 h];simp
theorem Pz(k:Nat):(qU.getD k []).length<=6:=by
 have:∀x∈qU,x.length<=6:=by decide
 rcases cA k qU.length with h|h
 ·rw[getD_lt h];exact this _ (bG h)
 ·rw[dG,m9 h];simp
def ny(x:bK):List UInt8:=(((([(108:UInt8),105,102,116,32]++x.aT)++[32])++x.Func)++[32])++x.Core
def nz(x:bH):List UInt8:=(((([(108:UInt8),111,119,101,114,32]++x.aT)++[32])++x.Func)++[32])++x.Import
noncomputable def nA(x:bF):List UInt8:=(((((([(98:UInt8),117,105,108,116,105,110,32]++qU.getD x.Kind.toNat [])++[32])++x.aT)++[32])++x.dX)++[32])++x.Import
def zM(c:aP):List UInt8:=(([(99:UInt8),111,109,112,111,110,101,110,116,32]++c.Name)++[32])++c.Version
noncomputable def E1(c:aP):List UInt8:=[(101:UInt8),110,99,111,100,105,110,103,32]++pJ.getD c.Encoding.toNat []
def E2(c:aP):List UInt8:=[(114:UInt8),101,115,101,114,118,101,32]++Go.Lib.itoa c.ew
theorem aBp(x:bK):(ny x).length<=10*(x.sz+1)-1:=by
 have h2:=bK.bQ x;simp only[ny,bA,aO,aU];omega
theorem aBq(x:bH):(nz x).length<=10*(x.sz+1)-1:=by
 have h2:=bH.bQ x;simp only[nz,bA,aO,aU];omega
theorem aBr(x:bF):(nA x).length<=20*(x.sz+1)-1:=by
 have h1:=Pz x.Kind.toNat;have h2:=bF.bQ x;simp only[nA,bA,aO,aU];omega
noncomputable def kx(c:aP):List (List UInt8):=(((([zM c,E1 c,E2 c]++(c.al.map (gY [(105:UInt8),109,112,111,114,116])).flatten)++(c.bM.map (gY [(101:UInt8),120,112,111,114,116])).flatten)++c.bT.map ny)++c.bL.map nz)++c.Builtins.map nA
noncomputable def lu{α:Type}(g:α->List UInt8)(l:List α):List UInt8:=(l.map fun x=>g x++[10]).flatten
theorem PC{α:Type}(g:α->List UInt8)(l:List α):nl (l.map g)=lu g l:=by simp[nl,lu,Function.comp_def]
noncomputable def nB(w:List UInt8)(l:List ar):List UInt8:=(l.map fun f=>nl (gY w f)).flatten
theorem aiP(c:aP):nl (kx c)=(((((((zM c++[10])++(E1 c++[10]))++(E2 c++[10]))++nB [(105:UInt8),109,112,111,114,116] c.al)++nB [(101:UInt8),120,112,111,114,116] c.bM)++lu ny c.bT)++lu nz c.bL)++lu nA c.Builtins:=by
 unfold kx;rw[xa,xa,xa,xa,xa,aix,aix,PC,PC,PC];simp[nl,nB]
structure CT (c:aP):Prop where
 n1:c.Name.length<=1048576
 n2:c.Version.length<=1048576
 en:1<=c.Encoding/\c.Encoding<=3
 re:0<=c.ew/\c.ew<=1024
 im:c.al.length<=6/\∀f∈c.al,FB f
 ex:c.bM.length<=6/\∀f∈c.bM,FB f
 md:MB c.Module
 sh:M.rR c.Module=some true
 li:az bK.sz c.bT<=1048576
 lo:az bH.sz c.bL<=1048576
 bl:az bF.sz c.Builtins<=1048576
 bk:∀x∈c.Builtins,1<=x.Kind/\x.Kind<=3
theorem aBs{c:aP}(hc:iG c)(hb:CB c):CT c:=by
 obtain⟨f1,f2⟩:=aiN hb.fm;obtain⟨f3,f4⟩:=aiN hb.mI;exact⟨hc.name,hc.TB,aBg hb.enc,aBh hb.res,⟨f1,fun f hf=>aiG (f2 f hf) (uc hc.fm hf)⟩,⟨f3,fun f hf=>aiG (f4 f hf) (uc hc.mI hf)⟩,aAU hb.mod,by rw[aip c.Module hc.mod,hb.mod],hc.lifts,hc.AP,hc.AQ,aBi hb.blt⟩
theorem PD{α:Type}{g:α->List UInt8}{s:α->Nat}(N:Nat)(hN:1<=N)(h:∀x,(g x).length<=N*(s x+1)-1)(l:List α)(hl:az s l<=1048576):(lu g l).length<=N*1048576:=by
 have:=aiv (f:=fun x=>g x++[10]) (g:=s) l N fun x _=>by
  have h1:=h x;have:1<=N*(s x+1):=Nat.mul_le_mul hN (by omega:1<=s x+1);simp only[bA,aO,aU];omega
 exact cD this (Nat.mul_le_mul_left N hl)
theorem aiQ{w:List UInt8}(hw:w.length<=6){l:List ar}(h:l.length<=6/\∀f∈l,FB f):(nB w l).length<=48000000:=by
 have:=tZ (f:=fun f=>nl (gY w f)) l 8000000 fun f hf=>aA8 (h.2 f hf) hw
 have:=h.1;unfold nB;omega
theorem aiR{w:List UInt8}{l:List ar}(h:l.length<=6/\∀f∈l,FB f):((l.map (gY w)).flatten).length<=78:=by
 have:=tZ (f:=gY w) l 13 fun f hf=>aA9 (h.2 f hf) w
 have:=h.1;omega
theorem CT.lens{c:aP}(h:CT c):(nB [(105:UInt8),109,112,111,114,116] c.al).length<=48000000/\(nB [(101:UInt8),120,112,111,114,116] c.bM).length<=48000000/\(lu ny c.bT).length<=10485760/\(lu nz c.bL).length<=10485760/\(lu nA c.Builtins).length<=20971520:=
 ⟨aiQ (by decide) h.im,aiQ (by decide) h.ex,PD 10 (by decide) aBp _ h.li,PD 10 (by decide) aBq _ h.lo,PD 20 (by decide) aBr _ h.bl⟩
theorem CT.heads{c:aP}(h:CT c):(zM c).length<=2097163/\(E1 c).length<=15/\(E2 c).length<=28:=by
 have h1:=h.n1;have h2:=h.n2;have h3:=h.re;have h4:=Py c.Encoding.toNat;have h5:=ku (n:=c.ew) (by omega);simp only[zM,E1,E2,bA,aO,aU];omega
theorem aBt{c:aP}(h:CT c):(nl (kx c)).length<=150000000:=by
 obtain⟨a1,a2,a3,a4,a5⟩:=h.lens;obtain⟨b1,b2,b3⟩:=h.heads;rw[aiP];simp only[bA,aO,aU];omega
noncomputable def E3(c:aP):List UInt8:=(nl (kx c)++[98,111,100,121,10])++zI c.Module
end M
namespace M
open Go Go.V
theorem PE{α:Type}{F:Nat->Int->List UInt8->Option (List UInt8×aP)}{c:aP}(g:α->List UInt8)(l:List α)(hn:l.length<=1048576)
 (step:∀f k b,∀hk:k<l.length,b.length+(g l[k]++[10]).length<=1073741824->F (f+1) (k:Int) b=F f ((k+1:Nat):Int) (b++(g l[k]++[10])))
 (stop:∀f b,F (f+1) (l.length:Int) b=some (b,c)) (t:List UInt8) (ht:t.length+(lu g l).length<=1073741824):F af 0 t=some (t++lu g l,c):=
 jO (w:=fun t=>(t,c)) (e:=fun x=>g x++[10]) l 1073741824 hn step stop t ht
theorem aBu{c:aP}(h:CT c):M.CG c=some (E3 c):=by
 obtain⟨a1,a2,a3,a4,a5⟩:=h.lens;obtain⟨b1,b2,b3⟩:=h.heads;have hn1:=h.n1;have hn2:=h.n2;have hr:=h.re;have hi:=h.im.1;have he:=h.ex.1;have k6:c.bT.length<=1048576:=cD (cm _ _) h.li;have k7:c.bL.length<=1048576:=cD (cm _ _) h.lo;have k8:c.Builtins.length<=1048576:=cD (cm _ _) h.bl;have m1:=aiE h.md;have w1:M.gv [[(99:UInt8),111,109,112,111,110,101,110,116],c.Name,c.Version]=some (zM c++[10]):=by
  rw[qS _ (by simp) (by simp only[az,aO,aU];omega),Pn];rfl
 have w2:M.gv [[(101:UInt8),110,99,111,100,105,110,103],pJ.getD c.Encoding.toNat []]=some (E1 c++[10]):=by
  have:=Py c.Encoding.toNat;rw[qS _ (by simp) (by simp only[az,aO,aU];omega),Pm];rfl
 have w3:M.gv [[(114:UInt8),101,115,101,114,118,101],Go.Lib.itoa c.ew]=some (E2 c++[10]):=by
  have:=ku (n:=c.ew) (by omega);rw[qS _ (by simp) (by simp only[az,aO,aU];omega),Pm];rfl
 have e0:∀t:List UInt8,t.length<=500000000->M.oz c af t 0=some (t++nB [(105:UInt8),109,112,111,114,116] c.al,c):=fun t ht=>
  jO (F:=fun f k t=>M.oz c f t k) (w:=fun t=>(t,c)) (e:=fun f=>nl (gY [(105:UInt8),109,112,111,114,116] f)) c.al 1073741824 (by omega) (fun f k b hk hI=>by
   show M.oz c (f+1) b (k:Int)=_
   rw[M.oz];have hx:=h.im.2 _ (bG hk);simp (disch:=(first|omega|(simp only[bA,aO,aU,cr]<;>omega))) only[getD_lt hk,bz,aiM hx (w:=[(105:UInt8),109,112,111,114,116]) (by decide),cH,bp,bJ,hk,bg,aA,aZ,aR,bw hk (by omega:c.al.length<2^62),aV,aX]) (fun f b=>by
   show M.oz c (f+1) b _=_
   rw[M.oz];simp) t (by unfold nB at a1;omega)
 have e1:∀t:List UInt8,t.length<=500000000->M.oC c af t 0=some (t++nB [(101:UInt8),120,112,111,114,116] c.bM,c):=fun t ht=>
  jO (F:=fun f k t=>M.oC c f t k) (w:=fun t=>(t,c)) (e:=fun f=>nl (gY [(101:UInt8),120,112,111,114,116] f)) c.bM 1073741824 (by omega) (fun f k b hk hI=>by
   show M.oC c (f+1) b (k:Int)=_
   rw[M.oC];have hx:=h.ex.2 _ (bG hk);simp (disch:=(first|omega|(simp only[bA,aO,aU,cr]<;>omega))) only[getD_lt hk,bz,aiM hx (w:=[(101:UInt8),120,112,111,114,116]) (by decide),cH,bp,bJ,hk,bg,aA,aZ,aR,bw hk (by omega:c.bM.length<2^62),aV,aX]) (fun f b=>by
   show M.oC c (f+1) b _=_
   rw[M.oC];simp) t (by unfold nB at a2;omega)
 have e2:∀t:List UInt8,t.length<=500000000->M.oD c af t 0=some (t++lu ny c.bT,c):=fun t ht=>
  PE (F:=fun f k t=>M.oD c f t k) ny c.bT k6 (fun f k b hk hI=>by
   show M.oD c (f+1) b (k:Int)=_
   rw[M.oD];have hz:=bK.bQ c.bT[k];have hx:(c.bT[k]).sz<=1048576:=uc h.li (bG hk);have hw:M.gv [[(108:UInt8),105,102,116],c.bT[k].aT,c.bT[k].Func,c.bT[k].Core]=some (ny c.bT[k]++[10]):=by
    rw[qS _ (by simp) (by simp only[az,aO,aU];omega),wl4];rfl
   simp only[bA,aO,aU]at hI;simp (disch:=(first|omega|(simp only[bA,aO,aU,cr]<;>omega))) only[getD_lt hk,bz,hw,cH,bp,bJ,hk,bg,aA,aZ,aR,bw hk (by omega:c.bT.length<2^62),aV,aX]) (fun f b=>by
   show M.oD c (f+1) b _=_
   rw[M.oD];simp) t (by omega)
 have e3:∀t:List UInt8,t.length<=500000000->M.oG c af t 0=some (t++lu nz c.bL,c):=fun t ht=>
  PE (F:=fun f k t=>M.oG c f t k) nz c.bL k7 (fun f k b hk hI=>by
   show M.oG c (f+1) b (k:Int)=_
   rw[M.oG];have hz:=bH.bQ c.bL[k];have hx:(c.bL[k]).sz<=1048576:=uc h.lo (bG hk);have hw:M.gv [[(108:UInt8),111,119,101,114],c.bL[k].aT,c.bL[k].Func,c.bL[k].Import]=some (nz c.bL[k]++[10]):=by
    rw[qS _ (by simp) (by simp only[az,aO,aU];omega),wl4];rfl
   simp only[bA,aO,aU]at hI;simp (disch:=(first|omega|(simp only[bA,aO,aU,cr]<;>omega))) only[getD_lt hk,bz,hw,cH,bp,bJ,hk,bg,aA,aZ,aR,bw hk (by omega:c.bL.length<2^62),aV,aX]) (fun f b=>by
   show M.oG c (f+1) b _=_
   rw[M.oG];simp) t (by omega)
 have e4:∀t:List UInt8,t.length<=500000000->M.oH c af t 0=some (t++lu nA c.Builtins,c):=fun t ht=>
  PE (F:=fun f k t=>M.oH c f t k) nA c.Builtins k8 (fun f k b hk hI=>by
   show M.oH c (f+1) b (k:Int)=_
   rw[M.oH];have hz:=bF.bQ c.Builtins[k];have hx:(c.Builtins[k]).sz<=1048576:=uc h.bl (bG hk);have hb:=Pz c.Builtins[k].Kind.toNat;have hw:M.gv [[(98:UInt8),117,105,108,116,105,110],qU.getD c.Builtins[k].Kind.toNat [],c.Builtins[k].aT,c.Builtins[k].dX,c.Builtins[k].Import]=some (nA c.Builtins[k]++[10]):=by
    rw[qS _ (by simp) (by simp only[az,aO,aU];omega),wl5];rfl
   have hin:=w4 (W:=qU) rfl (h.bk _ (bG hk));simp only[bA,aO,aU]at hI;simp (disch:=(first|omega|(simp only[bA,aO,aU,cr]<;>omega))) only[getD_lt hk,bz,aBo,hw,hin,cH,bp,bJ,hk,bg,aA,aZ,aR,bw hk (by omega:c.Builtins.length<2^62),aV,aX]) (fun f b=>by
   show M.oH c (f+1) b _=_
   rw[M.oH];simp) t (by omega)
 have em:M.CE c.Module=some (zI c.Module):=by
  unfold M.CE;rw[h.sh,aA2 h.md];rfl
 have hin:=w4 (W:=pJ) rfl h.en;unfold M.CG;simp (disch:=(first|omega|(simp only[bA,aO,aU,cr]<;>omega))) only[aBm,aBk hr,w1,w2,w3,em,hin,e0,e1,e2,e3,e4,cH,aV,aX,aR,aZ,aA];unfold E3;rw[aiP]
theorem PG{α:Type}{F:Nat->Int->List (List UInt8)->Option (aP×List (List UInt8))}{c:aP}(g:α->List UInt8)(l:List α)(hn:l.length<=1048576)
 (step:∀f k b,∀hk:k<l.length,b.length+1<=1073741824->F (f+1) (k:Int) b=F f ((k+1:Nat):Int) (b++[g l[k]]))
 (stop:∀f b,F (f+1) (l.length:Int) b=some (c,b)) (t:List (List UInt8)) (ht:t.length<=500000000):F af 0 t=some (c,t++l.map g):=by
 have:=jO (F:=F) (w:=fun t=>(c,t)) (e:=fun x=>[g x]) l 1073741824 hn step stop t (by rw[xc,cr];omega);rw[xc]at this;exact this
theorem aBv(L:List (List UInt8))(h:(nl L).length<=200000000):M.strings_Join L [10]=some (Go.Lib.join L [10]):=by
 rw[O8]at h;have h1:=O6 10 L;have h2:=cm List.length L;unfold M.strings_Join;rw[mj (show L.length<=1073741824 by omega),mj (show(Go.Lib.join L [10]).length<=1073741824 by omega)];rfl
theorem aBw{c:aP}(h:CT c):M.CV c=some (E3 c):=by
 have hl:=aBt h;obtain⟨b1,b2,b3⟩:=h.heads;have hn1:=h.n1;have hn2:=h.n2;have hr:=h.re;have hi:=h.im.1;have he:=h.ex.1;have k6:c.bT.length<=1048576:=cD (cm _ _) h.li;have k7:c.bL.length<=1048576:=cD (cm _ _) h.lo;have k8:c.Builtins.length<=1048576:=cD (cm _ _) h.bl;have m1:=aiE h.md;have n1:=aiR (w:=[(105:UInt8),109,112,111,114,116]) h.im;have n2:=aiR (w:=[(101:UInt8),120,112,111,114,116]) h.ex;have x1:=Py c.Encoding.toNat;have x2:=ku (n:=c.ew) (by omega);have e0:∀t:List (List UInt8),t.length<=500000000->M.oO c.al (c.al.length:Int) c af 0 t=some (c,t++(c.al.map (gY [(105:UInt8),109,112,111,114,116])).flatten):=fun t ht=>
  jO (F:=fun f k t=>M.oO c.al (c.al.length:Int) c f k t) (w:=fun t=>(c,t)) (e:=gY [(105:UInt8),109,112,111,114,116]) c.al 1073741824 (by omega) (fun f k b hk hI=>by
   show M.oO c.al (c.al.length:Int) c (f+1) (k:Int) b=_
   rw[M.oO];have hx:=h.im.2 _ (bG hk);simp (disch:=(first|omega|(simp only[bA,aO,aU,cr]<;>omega))) only[getD_lt hk,bz,aiL hx (w:=[(105:UInt8),109,112,111,114,116]) (by decide),mj,bp,bJ,hk,bg,aA,aZ,aR,bw hk (by omega:c.al.length<2^62),aV,aX]) (fun f b=>by
   show M.oO c.al (c.al.length:Int) c (f+1) _ b=_
   rw[M.oO];simp) t (by omega)
 have e1:∀t:List (List UInt8),t.length<=500000000->M.oP c.bM (c.bM.length:Int) c af 0 t=some (c,t++(c.bM.map (gY [(101:UInt8),120,112,111,114,116])).flatten):=fun t ht=>
  jO (F:=fun f k t=>M.oP c.bM (c.bM.length:Int) c f k t) (w:=fun t=>(c,t)) (e:=gY [(101:UInt8),120,112,111,114,116]) c.bM 1073741824 (by omega) (fun f k b hk hI=>by
   show M.oP c.bM (c.bM.length:Int) c (f+1) (k:Int) b=_
   rw[M.oP];have hx:=h.ex.2 _ (bG hk);simp (disch:=(first|omega|(simp only[bA,aO,aU,cr]<;>omega))) only[getD_lt hk,bz,aiL hx (w:=[(101:UInt8),120,112,111,114,116]) (by decide),mj,bp,bJ,hk,bg,aA,aZ,aR,bw hk (by omega:c.bM.length<2^62),aV,aX]) (fun f b=>by
   show M.oP c.bM (c.bM.length:Int) c (f+1) _ b=_
   rw[M.oP];simp) t (by omega)
 have e2:∀t:List (List UInt8),t.length<=500000000->M.oQ c.bT (c.bT.length:Int) c af 0 t=some (c,t++c.bT.map ny):=
  PG (F:=fun f k t=>M.oQ c.bT (c.bT.length:Int) c f k t) ny c.bT k6 (fun f k b hk hI=>by
   show M.oQ c.bT (c.bT.length:Int) c (f+1) (k:Int) b=_
   rw[M.oQ];have hz:=bK.bQ c.bT[k];have hx:(c.bT[k]).sz<=1048576:=uc h.li (bG hk);simp (disch:=(first|omega|(simp only[bA,aO,aU,cr]<;>omega))) only[getD_lt hk,bz,mj,aO,aU,cH,bp,bJ,hk,bg,aA,aZ,aR,bw hk (by omega:c.bT.length<2^62),aV,aX];rfl) (fun f b=>by
   show M.oQ c.bT (c.bT.length:Int) c (f+1) _ b=_
   rw[M.oQ];simp)
 have e3:∀t:List (List UInt8),t.length<=500000000->M.oR c.bL (c.bL.length:Int) c af 0 t=some (c,t++c.bL.map nz):=
  PG (F:=fun f k t=>M.oR c.bL (c.bL.length:Int) c f k t) nz c.bL k7 (fun f k b hk hI=>by
   show M.oR c.bL (c.bL.length:Int) c (f+1) (k:Int) b=_
   rw[M.oR];have hz:=bH.bQ c.bL[k];have hx:(c.bL[k]).sz<=1048576:=uc h.lo (bG hk);simp (disch:=(first|omega|(simp only[bA,aO,aU,cr]<;>omega))) only[getD_lt hk,bz,mj,aO,aU,cH,bp,bJ,hk,bg,aA,aZ,aR,bw hk (by omega:c.bL.length<2^62),aV,aX];rfl) (fun f b=>by
   show M.oR c.bL (c.bL.length:Int) c (f+1) _ b=_
   rw[M.oR];simp)
 have e4:∀t:List (List UInt8),t.length<=500000000->M.oS c.Builtins (c.Builtins.length:Int) c af 0 t=some (c,t++c.Builtins.map nA):=
  PG (F:=fun f k t=>M.oS c.Builtins (c.Builtins.length:Int) c f k t) nA c.Builtins k8 (fun f k b hk hI=>by
   show M.oS c.Builtins (c.Builtins.length:Int) c (f+1) (k:Int) b=_
   rw[M.oS];have hz:=bF.bQ c.Builtins[k];have hx:(c.Builtins[k]).sz<=1048576:=uc h.bl (bG hk);have hb:=Pz c.Builtins[k].Kind.toNat;have hin:=w4 (W:=qU) rfl (h.bk _ (bG hk));simp (disch:=(first|omega|(simp only[bA,aO,aU,cr]<;>omega))) only[getD_lt hk,bz,aBn,hin,mj,aO,aU,cH,bp,bJ,hk,bg,aA,aZ,aR,bw hk (by omega:c.Builtins.length<2^62),aV,aX];rfl) (fun f b=>by
   show M.oS c.Builtins (c.Builtins.length:Int) c (f+1) _ b=_
   rw[M.oS];simp)
 have hin:=w4 (W:=pJ) rfl h.en;have hd:∃L,kx c=zM c::L:=⟨_,rfl⟩;obtain⟨L,hL⟩:=hd;have hJ:nl (kx c++[[98,111,100,121]])=nl (kx c)++[98,111,100,121,10]:=by rw[xa];rfl
 have ej:=aBv (kx c++[[98,111,100,121]]) (by rw[hJ];simp only[bA,aO,aU];omega);have ej2:Go.Lib.join (kx c++[[98,111,100,121]]) [10]++[10]=nl (kx c)++[98,111,100,121,10]:=by
  rw[<-hJ,hL];exact aAP _ _
 have hjl:(Go.Lib.join (kx c++[[98,111,100,121]]) [10]).length<=200000000:=by
  have:=wH List.length ej2;simp only[bA,aO,aU]at this;omega
 have hcl:(kx c).length<=150000000:=by
  have:=O8 (kx c);have:=cm List.length (kx c);omega
 unfold M.CV;simp (disch:=(first|omega|(simp only[bA,aO,aU,cr]<;>omega))) only[aBl,ua (n:=c.ew) (by omega),aV,aX,hin,e0,bA,aO,aU,cr,e1,e2,e3,e4];rw[show(((([([(99:UInt8),111,109,112,111,110,101,110,116,32]++c.Name++[32]++c.Version),([(101:UInt8),110,99,111,100,105,110,103,32]++pJ.getD c.Encoding.toNat []),([(114:UInt8),101,115,101,114,118,101,32]++Go.Lib.itoa c.ew)]++(c.al.map (gY [(105:UInt8),109,112,111,114,116])).flatten)++(c.bM.map (gY [(101:UInt8),120,112,111,114,116])).flatten)++c.bT.map ny)++c.bL.map nz)++c.Builtins.map nA=kx c from rfl];simp (disch:=(first|omega|(simp only[bA,aO,aU,cr]<;>omega))) only[ej,aA4 h.md,ej2,aV,aX,cH,mj,bA,aO,aU,aR,aZ,aA];unfold E3;rfl
theorem aBx{c:aP}(hc:iG c):∃r,M.CX c=some r/\M.CL c=some r:=by
 unfold M.CX M.CL;cases hf:(qh c==[])
 ·simp only[TS hc,TR hc,hf,aV,aX,iP,aA,cK];exact⟨_,rfl,rfl⟩
 ·have hb:=aBs hc (aBf (by simpa using hf));obtain⟨r,e1,e2⟩:=aBj (E3 c);simp only[TS hc,TR hc,hf,aBw hb,aBu hb,e1,e2,aV,aX,dE,bN,aA,cK];exact⟨_,rfl,rfl⟩
theorem azm(x:aP)(hx:x.Ok):M.Dj x=some true:=by
 unfold M.Dj;rw[azf x 1048576 hx (by omega) (by omega)];by_cases h1:(x.sz:Int)<=1048576
 ·have h:x.sz<=1048576:=by omega
  have n1:¬(1048576-(x.sz:Int)<0):=by omega
  obtain⟨r,e1,e2⟩:=aBx (iG.of h);rw[aE h1];simp only[azg x h,aM.eta,aP.eta,e1,e2,azh x h,aV,aX,n1,j0,bN,aR,cK,aZ,aA,lF,dE]
 ·rw[av h1];simp
end M
