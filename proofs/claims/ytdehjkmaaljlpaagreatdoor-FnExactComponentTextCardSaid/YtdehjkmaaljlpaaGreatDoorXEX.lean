/-
  THE TEXT OF A TYPE: both sides write the same.
-/
import Derived.Test.YtdehjkmaaljlpaaGreatDoorXETP
import Derived.Lib.Join
import Derived.Lib.ItoaNum
set_option linter.unusedVariables false
set_option linter.unusedSimpArgs false
namespace M
open Go.V (inB cF aW af bV)
noncomputable def qY:List (List UInt8):=Option.getD M.jG default
theorem aBS:M.jG=some qY:=rfl
theorem aBT:M.ke=some qY:=rfl
theorem aBU:qY.length=24:=rfl
noncomputable def ig(k:Int):List UInt8:=qY.getD k.toNat []
theorem PS(k:Int):(ig k).length<=7:=by
 have h:∀w∈qY,w.length<=7:=by
  have:(qY.all fun w=>decide (w.length<=7))=true:=by decide
  intro w hw;simpa using dz.1 this w hw
 unfold ig;rcases cA k.toNat qY.length with hk|hk
 ·rw[getD_lt hk];exact h _ (bG hk)
 ·rw[dG,m9 hk];simp
def jn(l:List (List UInt8)):List UInt8:=Go.Lib.join l [44]
theorem PT:jn []=[]:=rfl
theorem K3(x:List UInt8)(r:List (List UInt8)):jn (x::r)=x++Go.Lib.joinTail [44] r:=Go.Lib.join_cons x r [44]
theorem ajy:Go.Lib.joinTail [44] []=[]:=rfl
theorem ajz(x:List UInt8)(r:List (List UInt8)):Go.Lib.joinTail [44] (x::r)=44::(x++Go.Lib.joinTail [44] r):=by simp[Go.Lib.joinTail]
theorem aBV(a b:List (List UInt8)):Go.Lib.joinTail [44] (a++b)=Go.Lib.joinTail [44] a++Go.Lib.joinTail [44] b:=by simp[Go.Lib.joinTail]
theorem aBW(l:List (List UInt8))(x:List UInt8):jn (l++[x])=(if 0<l.length then jn l++[44]else[])++x:=by
 cases l with
 |nil=>simp[K3,ajy]
 |cons y r=>rw[kJ,K3,K3,aBV];simp[ajz,ajy]
theorem nt:∀(l:List (List UInt8)),(jn l).length<=az List.length l
 |[]=>by simp[PT]
 |x::r=>by
  rw[K3,bA];have:∀r:List (List UInt8),(Go.Lib.joinTail [44] r).length=az List.length r:=fun r=>by
   induction r with
   |nil=>rfl
   |cons y t ih=>rw[ajz];simp only[aO,bA,ih,az];omega
  rw[this];simp only[az];omega
def fH:List (List UInt8)->List Int->List (List UInt8)->List (List UInt8)
 |[],_,_=>[]
 |l::r,k::kr,x::xr=>(if k=1 then l else l++([58]++x))::fH r kr xr
 |l::r,_,_=>l::fH r [] []
mutual
noncomputable def txt:aa->List UInt8
 |.mk k n ls ks=>if k=20\/k=21 then ig k++[60]++n++[62]else if 16<=k/\k<=19 then ig k++[123]++jn (fH ls (ks.map aa.Kind) (zQ ks))++[125]
   else if ks.length=0 then ig k else ig k++[60]++jn (zQ ks)++[62]
noncomputable def zQ:List aa->List (List UInt8)
 |[]=>[]
 |t::r=>txt t::zQ r
end
theorem ajA:∀l,zQ l=l.map txt
 |[]=>by rw[zQ];rfl
 |t::r=>by rw[zQ,ajA r];rfl
theorem PU(t:aa):txt t=(if t.Kind=20\/t.Kind=21 then ig t.Kind++[60]++t.Name++[62]else if 16<=t.Kind/\t.Kind<=19 then ig t.Kind++[123]++jn (fH t.bR (t.Kids.map aa.Kind) (t.Kids.map txt))++[125]
 else if t.Kids.length=0 then ig t.Kind else ig t.Kind++[60]++jn (t.Kids.map txt)++[62]):=by
 cases t;rw[txt,ajA];rfl
theorem zR:∀(ls:List (List UInt8))(ks:List Int)(xs:List (List UInt8)),az List.length (fH ls ks xs)<=az List.length ls+az List.length xs
 |[],_,_=>by simp[fH,az]
 |l::r,[],xs=>by
  have:=zR r [] [];have e:az List.length ([]:List (List UInt8))=0:=rfl;cases xs<;>simp only[fH,az]at*<;>omega
 |l::r,k::kr,[]=>by
  have:=zR r [] [];simp only[fH,az]at*;omega
 |l::r,k::kr,x::xr=>by
  have:=zR r kr xr;simp only[fH,az];split<;>(try simp only[bA,aO,aU])<;>omega
theorem zS:∀(n:Nat)(t:aa),t.sz<n->(txt t).length+1<=20*(t.sz+1)
 |0,t,h=>by omega
 |n+1,t,h=>by
  have hs:=aa.bQ t;have hk:=PS t.Kind;have hx:az List.length (t.Kids.map txt)<=20*az aa.sz t.Kids:=by
   have key:∀l:List aa,(∀x∈l,x.sz<n)->az List.length (l.map txt)<=20*az aa.sz l:=fun l=>by
    induction l with
    |nil=>intro _;simp[az]
    |cons y r ih=>
     intro hl;have h1:=zS n y (hl y (by simp));have h2:=ih fun x hx=>hl x (by simp[hx])
     simp only[eu,az];omega
   exact key _ fun x hx=>by have:=aa.fj hx;omega
  have hj:=nt (t.Kids.map txt);have hl:=zR t.bR (t.Kids.map aa.Kind) (t.Kids.map txt);have hj2:=nt (fH t.bR (t.Kids.map aa.Kind) (t.Kids.map txt));rw[PU];split
  ·simp only[bA,aO,aU];omega
  ·split
   ·simp only[bA,aO,aU];omega
   ·split
    ·omega
    ·simp only[bA,aO,aU];omega
theorem aBX(t:aa){N:Nat}(h:t.sz<=N):(txt t).length<=20*N+19:=by
 have:=zS _ t (mY _);omega
theorem PV{α β Y:Type}{F:Nat->Int->List β->Option Y}{h:List β->Option Y}(g:α->β)(l:List α)(hn:l.length<=2097152)(iQ:List β)
 (step:∀f k out,∀hk:k<l.length,out.length=iQ.length+k->F (f+1) (k:Int) out=F f ((k+1:Nat):Int) (out++[g l[k]]))
 (stop:∀f out,F (f+1) (l.length:Int) out=h out):F af 0 iQ=h (iQ++l.map g):=by
 have key:∀f k out,k<=l.length->l.length-k<f->out.length=iQ.length+k->F f (k:Int) out=h (out++(l.drop k).map g):=by
  intro f
  induction f with
  |zero=>intro k out h1 h2;omega
  |succ f ih=>
   intro k out h1 h2 ho;rcases cA k l.length with hk|hk
   ·rw[step f k out hk ho,ih (k+1) _ (by omega) (by omega) (by simp[ho];omega),fu hk];simp only[eu,iR,List.singleton_append]
   ·have:k=l.length:=by omega
    subst this;rw[stop,gP];simp
 have:=key af 0 iQ (abo _) (by have:=bV;omega) rfl;simpa using this
theorem PW{a b:Nat}(h:a+b<=1073741824):decide (a+b<=1073741824)=true:=by rw[bq];exact h
theorem cH{a b:List UInt8}(h:a.length+b.length<=1073741824):aW a b=true:=by unfold aW;rw[bq];omega
theorem PX(l:List (List UInt8))(h:az List.length l<=1073741824):M.strings_Join l [44]=some (jn l):=by
 have h1:=nt l;have h2:=cm List.length l;unfold M.strings_Join;have e1:decide (l.length<=1073741824)=true:=by rw[bq];omega
 have e2:decide ((Go.Lib.join l [44]).length<=1073741824)=true:=by rw[bq];unfold jn at h1;omega
 rw[e1,e2];rfl
end M
namespace M
open Go.V (inB cF aW af bV)
structure Shp (t:aa):Prop where
 lo:1<=t.Kind
 hi:t.Kind<=23
 lab:(16<=t.Kind/\t.Kind<=19)↔t.bR≠[]
 name:(t.Kind=20\/t.Kind=21)↔t.Name≠[]
 flat:t.Kind<=11->t.Kids=[]
 noK:(t.Kind=20\/t.Kind=21\/t.Kind=18\/t.Kind=19)->t.Kids=[]
 kids:(12<=t.Kind/\t.Kind<=15)\/22<=t.Kind->t.Kids≠[]
 aBZ:t.Kind=16->t.Kids.length=t.bR.length/\∀x∈t.Kids,x.Kind≠1
 aB0:t.Kind=17->t.Kids.length=t.bR.length
 all:∀x∈t.Kids,dF x=true
 fH:t.bR≠[]->lX t.bR=true
 nam:t.Name≠[]->cY t.Name=true
theorem zp{t:aa}(h:dF t=true):Shp t:=by
 rw[wI]at h;simp only[bC]at h;obtain⟨hk,hall⟩:=h;rw[zm,dz]at hall;unfold mZ at hk;simp only[bC]at hk;obtain⟨⟨hl,hn⟩,hk⟩:=hk;have hlab:((16<=t.Kind/\t.Kind<=19)↔t.bR≠[])/\(t.bR≠[]->lX t.bR=true):=by
  unfold KY at hl;split at hl
  ·rename_i hb;simp only[bC,bq]at hb;refine⟨⟨fun _ e=>?_,fun _=>hb⟩,fun _=>hl⟩;rw[e]at hl;unfold lX at hl;simp at hl
  ·rename_i hb;simp only[bC,bq]at hb;have:t.bR=[]:=ja (by simpa using hl);exact⟨⟨fun h=>absurd h hb,fun h=>absurd this h⟩,fun h=>absurd this h⟩
 have ajC:((t.Kind=20\/t.Kind=21)↔t.Name≠[])/\(t.Name≠[]->cY t.Name=true):=by
  unfold qI at hn;split at hn
  ·rename_i hb;simp only[eC,de]at hb;refine⟨⟨fun _ e=>?_,fun _=>hb⟩,fun _=>hn⟩;rw[e]at hn;unfold cY at hn;simp at hn
  ·rename_i hb;simp only[eC,de]at hb;have:t.Name=[]:=by simpa using hn
   exact⟨⟨fun h=>absurd h hb,fun h=>absurd this h⟩,fun h=>absurd this h⟩
 have hu:∀x∈t.Kids,fa x=false->x.Kind≠1:=fun x _ h e=>by unfold fa at h;rw[e]at h;simp at h
 have base:∀(a1:1<=t.Kind)(a2:t.Kind<=23)(a3:t.Kind<=11->t.Kids=[])(a4:(t.Kind=20\/t.Kind=21\/t.Kind=18\/t.Kind=19)->t.Kids=[])(a5:(12<=t.Kind/\t.Kind<=15)\/22<=t.Kind->t.Kids≠[])(a6:t.Kind=16->t.Kids.length=t.bR.length/\∀x∈t.Kids,x.Kind≠1)(a7:t.Kind=17->t.Kids.length=t.bR.length),Shp t:=
  fun a1 a2 a3 a4 a5 a6 a7=>⟨a1,a2,hlab.1,ajC.1,a3,a4,a5,a6,a7,hall,hlab.2,ajC.2⟩
 have ne1:∀n,t.Kids.length=n+1->t.Kids≠[]:=fun n h e=>by rw[e]at h;simp at h
 unfold E4 at hk;split at hk
 ·rename_i hc;simp only[bC,de]at hk;exact base (by omega) (by omega) (by omega) (by omega) (fun _=>ne1 0 hk.1) (by omega) (by omega)
 ·split at hk
  ·simp only[de]at hk;exact base (by omega) (by omega) (by omega) (by omega) (fun _=>ne1 1 hk) (by omega) (by omega)
  ·split at hk
   ·simp only[bC,bq]at hk;exact base (by omega) (by omega) (by omega) (by omega) (fun _ e=>by rw[e]at hk;simp at hk) (by omega) (by omega)
   ·split at hk
    ·rename_i hc;simp only[bC,de,eL,List.any_eq_false]at hk;exact base (by omega) (by omega) (by omega) (by omega) (by omega) (fun _=>⟨hk.1,fun x hx=>hu x hx (by simpa using hk.2 x hx)⟩) (by omega)
    ·split at hk
     ·simp only[de]at hk;exact base (by omega) (by omega) (by omega) (by omega) (by omega) (by omega) (fun _=>hk)
     ·split at hk
      ·simp only[bC,de]at hk;exact base (by omega) (by omega) (by omega) (by omega) (fun _=>ne1 0 hk.1) (by omega) (by omega)
      ·simp only[bC,bq,de]at hk;have:=ja hk.2;exact base (by omega) (by omega) (fun _=>this) (fun _=>this) (by omega) (by omega) (by omega)
theorem ajD{k:Int}(h1:1<=k)(h2:k<=23):inB k (List.length qY)=true:=by
 obtain⟨n,rfl⟩:=KG (show 0<=k by omega);rw[bp,aBU];simp;omega
theorem K4:∀(ls:List (List UInt8))(ks:List aa)(k:Nat),k<ls.length->(fH ls (ks.map aa.Kind) (ks.map txt)).getD k []=if h:k<ks.length then(if ks[k].Kind=1 then ls.getD k []else ls.getD k []++([58]++txt ks[k]))else ls.getD k []
 |[],_,k,h=>by simp at h
 |l::r,[],k,h=>by
  cases k with
  |zero=>simp[fH]
  |succ k=>
   have:=K4 r [] k (by simpa using h);simpa [fH]using this
 |l::r,x::ks,k,h=>by
  cases k with
  |zero=>simp[fH]
  |succ k=>
   have:=K4 r ks k (by simpa using h);simp only[eu,fH,List.getD_cons_succ,this,aO,Nat.add_lt_add_iff_right,List.getElem_cons_succ]
theorem qZ:∀(ls:List (List UInt8))(ks:List Int)(xs:List (List UInt8)),(fH ls ks xs).length=ls.length
 |[],_,_=>by simp[fH]
 |l::r,[],xs=>by cases xs<;>simp[fH,qZ r [] []]
 |l::r,k::kr,[]=>by simp[fH,qZ r [] []]
 |l::r,k::kr,x::xr=>by simp[fH,qZ r kr xr]
end M
namespace M
open Go.V (inB cF aW af bV)
theorem O7{α:Type}(f:α->Nat):∀(l:List α)(k:Nat),az f (l.take k)<=az f l
 |[],k=>by simp[az]
 |x::r,0=>by simp[az]
 |x::r,k+1=>by have:=O7 f r k;simp only[List.take_succ_cons,az];omega
theorem PY{Y:Type}{F:Nat->List UInt8->Int->Option Y}{h:List UInt8->Option Y}(L:List (List UInt8))(hn:L.length<=2097152)(s0:List UInt8)
 (step:∀f k s,∀hk:k<L.length,s.length<=s0.length+az List.length L->F (f+1) s (k:Int)=F f ((if 0<k then s++[44]else s)++L[k]) ((k+1:Nat):Int))
 (stop:∀f s,F (f+1) s (L.length:Int)=h s):F af s0 0=h (s0++jn L):=by
 have key:∀f k,k<=L.length->L.length-k<f->F f (s0++jn (L.take k)) (k:Int)=h (s0++jn L):=by
  intro f
  induction f with
  |zero=>intro k h1 h2;omega
  |succ f ih=>
   intro k h1 h2;rcases cA k L.length with hk|hk
   ·have hj:=nt (L.take k);have ht:=O7 List.length L k;rw[step f k _ hk (by rw[bA];omega)];have e:(if 0<k then s0++jn (L.take k)++[44]else s0++jn (L.take k))++L[k]=s0++jn (L.take (k+1)):=by
     rw[ka,ct hk,Option.toList_some,aBW,ib,Nat.min_eq_left (by omega)];by_cases hz:0<k
     ·rw[aE hz,aE hz];simp only[iR]
     ·have:k=0:=by omega
      subst this;simp[PT]
    rw[e];exact ih (k+1) (by omega) (by omega)
   ·have:k=L.length:=by omega
    subst this;rw[stop,iJ]
 have:=key af 0 (abo _) (by have:=bV;omega);simpa [PT]using this
theorem kb{a b:Int}(h:a≠b):(a==b)=false:=by rw[dS];exact h
theorem ajE(l:List aa)(N:Nat)(h:az aa.sz l<=N):az List.length (l.map txt)<=20*N:=by
 have key:∀l:List aa,az List.length (l.map txt)<=20*az aa.sz l:=fun l=>by
  induction l with
  |nil=>simp[az]
  |cons y r ih=>have h1:=zS _ y (mY _);simp only[eu,az];omega
 have:=key l;omega
theorem ajF(k:Int):List.getD qY k.toNat []=ig k:=rfl
theorem PZ:∀(m:Nat)(t:aa),t.sz<m->t.sz<=2097152->dF t=true->M.oM m t=some (txt t)
 |0,t,h,_,_=>by omega
 |m+1,t,h,hN,ht=>by
  have hs:=zp ht;have hsz:=aa.bQ t;have hkw:=PS t.Kind;have hin:=ajD hs.lo hs.hi;have hll:=cm List.length t.bR;have hkl:=cm aa.sz t.Kids;have hmk:=ajE t.Kids 2097152 (by omega);have hlb:=zR t.bR (t.Kids.map aa.Kind) (t.Kids.map txt)
  show M.Ip (M.oM m) t=_
  unfold M.Ip;rw[PU];simp only[aBS,aV,aX,hin,ajF,aZ,aR,aA];by_cases c1:t.Kind<=11
  ·have hk0:=hs.flat c1;rw[fK c1,av (by omega),av (by omega),aE (by rw[hk0];rfl)];rfl
  ·rw[iS c1,bN];by_cases c2:t.Kind=20\/t.Kind=21
   ·have:((t.Kind==20)||(t.Kind==21))=true:=by rcases c2 with h|h<;>rw[h]<;>rfl
    rw[this,aE c2,cH (by simp only[bA,aO,aU];omega),cH (by simp only[bA,aO,aU];omega),cH (by simp only[bA,aO,aU];omega)];rfl
   ·rw[kb (fun e=>c2 (.inl e)),kb (fun e=>c2 (.inr e)),av c2];by_cases c3:16<=t.Kind/\t.Kind<=19
    ·rw[fK c3.1,fK c3.2,aE c3];simp only[cK,dE,bN,tQ];have e:=PV (F:=fun f i o=>M.qu (M.oM m) (ig t.Kind) t.bR (t.bR.length:Int) f i t o) (h:=fun o=>some (ig t.Kind,o)) id (fH t.bR (t.Kids.map aa.Kind) (t.Kids.map txt)) (by rw[qZ];omega) [] (fun f k out hk ho=>by
      have hk':=hk;rw[qZ]at hk;have hg:=K4 t.bR t.Kids k hk;rw[getD_lt hk']at hg
      show M.qu (M.oM m) (ig t.Kind) t.bR (t.bR.length:Int) (f+1) (k:Int) t out=_
      rw[M.qu];have hc:=PW (a:=out.length) (b:=1) (by simp at ho;omega);have hml:=dr List.length t.bR t.bR[k] (bG hk);simp only[aa.ai,bJ,hk,bg,aA,bz,bp,aO,aU,dI,hc,aZ,aR,bw hk (by omega:t.bR.length<2^62)];by_cases hkk:k<t.Kids.length
      ·rw[xP hkk]at hg;have hmem:=bG hkk;have hpos:=wL aa.sz t.Kids t.Kids[k] hmem;have er:=PZ m t.Kids[k] (by have:=aa.fj hmem;omega) (by have:=aa.fj hmem;omega) (hs.all _ hmem);have hln:=zS _ t.Kids[k] (mY _);have hss:=aa.fj hmem;simp only[hkk,bg,aZ,getD_lt hkk,er,aV,aX,bZ];rw[cH (by simp only[bA,aO,aU];rw[getD_lt hk];omega),cH (by simp only[aO,aU];omega)];by_cases h1:t.Kids[k].Kind=1
       ·rw[aE h1]at hg;simp only[h1,lF,dE,bN,Bool.and_false,iP,kN,bZ,aR,aA,cK,jC,id,hg]
       ·rw[av h1]at hg;simp only[kb h1,iP,aA,aR,dE,jC,kN,cK,id,hg]
      ·rw[uD hkk]at hg;simp only[hkk,j0,mE,bN,iP,kN,aZ,aR,jC,aA,id,hg];simp[hkk]) (fun f out=>by
      show M.qu (M.oM m) (ig t.Kind) t.bR (t.bR.length:Int) (f+1) _ t out=_
      rw[qZ,M.qu];simp)
     simp only[kP,List.map_id]at e;rw[aa.ai,e];have hj:=nt (fH t.bR (t.Kids.map aa.Kind) (t.Kids.map txt));simp only[PX _ (show az List.length (fH t.bR (t.Kids.map aa.Kind) (t.Kids.map txt))<=1073741824 by omega),aV,aX,aZ,aR];rw[cH (by simp only[bA,aO,aU];omega),cH (by simp only[bA,aO,aU];omega),cH (by simp only[bA,aO,aU];omega)];rfl
    ·have c4:(12<=t.Kind/\t.Kind<=15)\/22<=t.Kind:=by have:=hs.hi;omega
     have hne:=hs.kids c4;have hb:(!(decide ((16:Int)<=t.Kind)&&decide (t.Kind<=(19:Int))))=true:=by
      rw[eL,Bool.and_eq_false_iff,dR,dR];omega
     rw[hb,av c3,av (fun e=>hne (ja e))];simp only[aA,bN,tQ];have e:=PV (F:=M.vz (M.oM m) (ig t.Kind) t.Kids (t.Kids.length:Int)) (h:=fun o=>some (ig t.Kind,o)) txt t.Kids (by omega) [] (fun f k out hk ho=>by
      rw[M.vz];have hc:=PW (a:=out.length) (b:=1) (by simp at ho;omega);have hmem:=bG hk;have hss:=aa.fj hmem;have er:=PZ m t.Kids[k] (by omega) (by omega) (hs.all _ hmem);simp only[aa.ai,bJ,hk,bg,aA,bz,getD_lt hk,er,bp,aX,aV,aO,aU,dI,hc,aZ,aR,bw hk (by omega:t.Kids.length<2^62)]) (fun f out=>by rw[M.vz];simp)
     simp only[kP]at e;rw[e];have hj:=nt (t.Kids.map txt);simp only[PX _ (show az List.length (t.Kids.map txt)<=1073741824 by omega),aV,aX,aZ,aR];rw[cH (by simp only[bA,aO,aU];omega),cH (by simp only[bA,aO,aU];omega),cH (by simp only[bA,aO,aU];omega)];rfl
end M
namespace M
open Go.V (inB cF aW af bV)
theorem P0(k:Nat)(s:List UInt8):(bif decide ((0:Int)<(k:Int))then s++[(44:UInt8)]else s)=if 0<k then s++[44]else s:=by
 by_cases h:0<k
 ·rw[aE h,fK (by omega)];rfl
 ·rw[av h,iS (by omega)];rfl
theorem P1(k:Nat)(s:List UInt8):(if 0<k then s++[(44:UInt8)]else s).length<=s.length+1:=by split<;>simp
theorem P2(k:Nat){s:List UInt8}(h:s.length<=1000000000):((aW s [(44:UInt8)]&&true)|| !decide ((0:Int)<(k:Int)))=true:=by
 rw[cH (by simp only[aO,aU];omega)];rfl
theorem P3(k:Nat){s:List UInt8}(h:s.length<=1000000000):(aW s [(44:UInt8)]|| !decide ((0:Int)<(k:Int)))=true:=by
 rw[cH (by simp only[aO,aU];omega)];rfl
theorem P4:∀(m:Nat)(t:aa),t.sz<m->t.sz<=2097152->dF t=true->M.kU m t=some (txt t)
 |0,t,h,_,_=>by omega
 |m+1,t,h,hN,ht=>by
  have hs:=zp ht;have hsz:=aa.bQ t;have hkw:=PS t.Kind;have hin:=ajD hs.lo hs.hi;have hll:=cm List.length t.bR;have hkl:=cm aa.sz t.Kids;have hmk:=ajE t.Kids 2097152 (by omega);have hlb:=zR t.bR (t.Kids.map aa.Kind) (t.Kids.map txt)
  show M.Ik (M.kU m) t=_
  unfold M.Ik;rw[PU];simp only[aBT,aV,aX,hin,ajF,aZ,aR,aA,aa.ai];by_cases c2:t.Kind=20\/t.Kind=21
  ·have hn:(t.Name==[])=false:=by rw[dS];exact hs.name.1 c2
   rw[hn,aE c2,cH (by simp only[bA,aO,aU];omega),cH (by simp only[bA,aO,aU];omega),cH (by simp only[bA,aO,aU];omega)];rfl
  ·have hn:t.Name=[]:=Decidable.byContradiction fun e=>c2 (hs.name.2 e)
   rw[hn,av c2];simp only[lF,dE,bN];by_cases c3:16<=t.Kind/\t.Kind<=19
   ·have hl0:0<t.bR.length:=List.length_pos_iff.2 (hs.lab.1 c3);rw[aE c3,fK (by omega),aA];have e:=PY (F:=fun f s i=>M.ot (M.kU m) f s i t) (h:=some) (fH t.bR (t.Kids.map aa.Kind) (t.Kids.map txt)) (by rw[qZ];omega) (ig t.Kind++[123]) (fun f k s hk hls=>by
     have hk':=hk;rw[qZ]at hk;have hg:=K4 t.bR t.Kids k hk;rw[getD_lt hk']at hg
     show M.ot (M.kU m) (f+1) s (k:Int) t=_
     rw[M.ot];simp only[bA,aO,aU]at hls;have hcl:=P1 k s;have hml:=dr List.length t.bR t.bR[k] (bG hk);simp only[aa.ai,bJ,hk,bg,aA,bz,bp,P0,P2 k (show s.length<=1000000000 by omega),P3 k (show s.length<=1000000000 by omega),getD_lt hk,aZ,aR,bw hk (by omega:t.bR.length<2^62)];have hc1:aW (if 0<k then s++[44]else s) t.bR[k]=true:=cH (by omega);rw[hc1,hg];by_cases hkk:k<t.Kids.length
     ·rw[xP hkk];have hmem:=bG hkk;have er:=P4 m t.Kids[k] (by have:=aa.fj hmem;omega) (by have:=aa.fj hmem;omega) (hs.all _ hmem);have hln:=zS _ t.Kids[k] (mY _);have hss:=aa.fj hmem;have h0:decide ((0:Int)<(t.Kids.length:Int))=true:=by rw[bq];omega
      have hc2:aW ((if 0<k then s++[44]else s)++t.bR[k]) ([58]++txt t.Kids[k])=true:=cH (by simp only[bA,aO,aU];omega);have hc3:aW [58] (txt t.Kids[k])=true:=cH (by simp only[aO,aU];omega);simp only[h0,hkk,bg,aZ,getD_lt hkk,er,aV,aX,bZ,hc2,hc3,getD_lt hk,jD];by_cases h1:t.Kids[k].Kind=1
      ·simp only[h1,lF,dE,bN,iP,kN,bZ,aR,aA,cK,jC,eY]
      ·simp only[kb h1,h1,iP,aA,aR,dE,jC,kN,cK,fZ,iR]
     ·rw[uD hkk];have aB2:t.Kids=[]:=by
       rcases cA t.Kind.toNat 18 with h|h
       ·have:t.Kind=16\/t.Kind=17:=by omega
        rcases this with h|h
        ·exact absurd (by rw[(hs.aBZ h).1];exact hk) hkk
        ·exact absurd (by rw[hs.aB0 h];exact hk) hkk
       ·exact hs.noK (by omega)
      rw[aB2];simp only[aU,Int.ofNat_zero,Int.lt_irrefl,j0,mE,bN,iP,kN,aZ,aR,jC,aA,getD_lt hk];simp) (fun f s=>by
     show M.ot (M.kU m) (f+1) s _ t=_
     rw[qZ,M.ot];simp)
    have hj:=nt (fH t.bR (t.Kids.map aa.Kind) (t.Kids.map txt));have e':M.ot (M.kU m) af (ig t.Kind++[123]) 0 t=_:=e;rw[e'];simp only[];rw[cH (by simp only[bA,aO,aU];omega),cH (by simp only[bA,aO,aU];omega)];rfl
   ·have hl:t.bR=[]:=Decidable.byContradiction fun e=>c3 (hs.lab.2 e)
    rw[hl,av c3];simp only[aU,Int.ofNat_zero,Int.lt_irrefl,j0,bN];by_cases c4:t.Kids.length=0
    ·rw[aE c4,c4];rfl
    ·rw[av c4,fK (by omega),aA];have e:=PY (F:=fun f s i=>M.ou (M.kU m) f s i t) (h:=some) (t.Kids.map txt) (by rw[cr];omega) (ig t.Kind++[60]) (fun f k s hk hls=>by
      rw[cr]at hk
      show M.ou (M.kU m) (f+1) s (k:Int) t=_
      rw[M.ou];simp only[bA,aO,aU]at hls;have hcl:=P1 k s;have hmem:=bG hk;have hss:=aa.fj hmem;have er:=P4 m t.Kids[k] (by omega) (by omega) (hs.all _ hmem);have hln:=zS _ t.Kids[k] (mY _);have hc1:aW (if 0<k then s++[44]else s) (txt t.Kids[k])=true:=cH (by omega);simp only[aa.ai,bJ,hk,bg,aA,bz,bp,P0,P2 k (show s.length<=1000000000 by omega),P3 k (show s.length<=1000000000 by omega),getD_lt hk,er,aV,aX,hc1,aZ,aR,bw hk (by omega:t.Kids.length<2^62),uK]) (fun f s=>by
      show M.ou (M.kU m) (f+1) s _ t=_
      rw[cr,M.ou];simp)
     have hj:=nt (t.Kids.map txt);have e':M.ou (M.kU m) af (ig t.Kind++[60]) 0 t=_:=e;rw[e'];simp only[];rw[cH (by simp only[bA,aO,aU];omega),cH (by simp only[bA,aO,aU];omega)];rfl
theorem ajG(t:aa)(hN:t.sz<=2097152)(h:eH t=true):M.Cf t=some (txt t):=by
 have hsh:dF t=true:=by unfold eH at h;simp only[bC]at h;exact h.2
 exact P4 af t (by have:=bV;omega) hN hsh
end M
namespace M
open Go.V (inB cF aW af bV)
theorem P5{α:Type}(f:α->Nat)(N:Nat):∀(l:List α),(∀x∈l,f x<=N)->az f l<=(N+1)*l.length
 |[],_=>by simp[az]
 |x::r,h=>by
  have h1:=h x (by simp);have h2:=P5 f N r fun y hy=>h y (by simp[hy])
  simp only[az,aO,Nat.mul_succ];omega
theorem qT{s:List UInt8}(h:cY s=true):s.length<=12:=by
 unfold cY at h;simp only[bC,bq]at h;exact h.2.1.2
theorem ajH:∀(n:Nat)(t:aa),t.sz<n->dF t=true->t.sz+1<=221*dM t
 |0,t,h,_=>by omega
 |n+1,t,h,ht=>by
  have hs:=zp ht;have hz:=aa.bQ t;have h1:t.Name.length<=12:=by
   by_cases hN:t.Name=[]
   ·rw[hN];simp
   ·exact qT (hs.nam hN)
  have h2:az List.length t.bR<=208:=by
   by_cases hL:t.bR=[]
   ·rw[hL];simp[az]
   ·have:=hs.fH hL;unfold lX at this;simp only[bC,bq]at this;have h3:=P5 List.length 12 t.bR fun x hx=>qT (dz.1 this.2.2 x hx)
    omega
  have h3:az aa.sz t.Kids<=221*dm t.Kids:=by
   have key:∀l:List aa,(∀x∈l,x.sz<n/\dF x=true)->az aa.sz l<=221*dm l:=fun l=>by
    induction l with
    |nil=>intro _;simp[az,dm]
    |cons y r ih=>
     intro hl;have a1:=ajH n y (hl y (by simp)).1 (hl y (by simp)).2;have a2:=ih fun x hx=>hl x (by simp[hx])
     simp only[az,dm];omega
   exact key _ fun x hx=>⟨by have:=aa.fj hx;omega,hs.all x hx⟩
  rw[pE];omega
theorem E7{t:aa}(h:eH t=true):t.sz<=6000:=by
 unfold eH at h;simp only[bC,bq]at h;have:=ajH _ t (mY _) h.2;omega
noncomputable def jP(p:aw):List UInt8:=(p.Name++[58])++txt p.aS
def pL(a:Bool):List UInt8:=bif a then[97,115,121,110,99,32,102,117,110,99,40]else[102,117,110,99,40]
noncomputable def E0(t:aa):List UInt8:=if t.Kind=1 then[]else[45,62]++txt t
noncomputable def ub(f:ay):List UInt8:=pL f.Async++(jn (f.Params.map jP)++41::E0 f.Result)
theorem P6{p:aw}(h:jv p=true):cY p.Name=true/\eH p.aS=true/\p.aS.Kind≠1:=by
 unfold jv at h;simp only[eL,wO,Bool.not_eq_false']at h;refine⟨h.1.1,h.1.2,fun e=>?_⟩;have:fa p.aS=true:=by unfold fa;rw[e];rfl
 rw[this]at h;cases h.2
theorem KW{f:ay}(h:fJ f=true):f.Params.length<=6/\(∀p∈f.Params,jv p=true)/\eH f.Result=true:=by
 unfold fJ at h;simp only[bC,bq]at h;exact⟨h.1.1.1,dz.1 h.1.1.2.1,h.1.2⟩
theorem aB3{t:aa}(h:eH t=true):dF t=true:=by unfold eH at h;simp only[bC]at h;exact h.2
theorem zJ{t:aa}(h:eH t=true):(txt t).length<=120019:=aBX t (E7 h)
theorem aB4{p:aw}(h:jv p=true):(jP p).length<=120032:=by
 obtain⟨h1,h2,-⟩:=P6 h;have:=qT h1;have:=zJ h2;unfold jP;simp only[bA,aO,aU];omega
theorem Pv{f:ay}(h:fJ f=true):az List.length (f.Params.map jP)<=720198:=by
 obtain⟨h1,h2,-⟩:=KW h;have:=P5 List.length 120032 (f.Params.map jP) fun x hx=>by
  obtain⟨p,hp,rfl⟩:=jB.1 hx;exact aB4 (h2 p hp)
 rw[cr]at this;omega
theorem Pq(a:Bool):(pL a).length<=11:=by cases a<;>decide
theorem ajI(t:aa)(x:List UInt8):(bif(!(t.Kind==(1:Int)))then x++([(45:UInt8),(62:UInt8)]++txt t)else x)=x++E0 t:=by
 unfold E0;by_cases h:t.Kind=1
 ·rw[aE h,h];simp
 ·rw[av h,kb h];simp
theorem ajJ{t:aa}(h:eH t=true):M.CN t=some (txt t):=PZ af t (by have:=bV;have:=E7 h;omega) (by have:=E7 h;omega) (aB3 h)
theorem aBa{f:ay}(h:fJ f=true):M.CO f=some (ub f):=by
 obtain⟨h1,h2,h3⟩:=KW h;have hs:=Pv h;have hj:=nt (f.Params.map jP);have hr:=zJ h3;have hhd:=Pq f.Async;have e:=PV (F:=fun g i o=>M.qx [102,117,110,99,40] f.Params (f.Params.length:Int) g i f o) (h:=fun o=>some ([102,117,110,99,40],f,o)) jP f.Params (by omega) [] (fun g k out hk ho=>by
  show M.qx [102,117,110,99,40] f.Params (f.Params.length:Int) (g+1) (k:Int) f out=_
  rw[M.qx];have hc:=PW (a:=out.length) (b:=1) (by simp at ho;omega);have hp:=h2 _ (bG hk);obtain⟨p1,p2,p3⟩:=P6 hp;have hn:=qT p1;have ht:=zJ p2;have hc1:aW f.Params[k].Name [58]=true:=cH (by simp only[aO,aU];omega);have hc2:aW (f.Params[k].Name++[58]) (txt f.Params[k].aS)=true:=cH (by simp only[bA,aO,aU];omega);simp only[aa.ai,ay.ai,bJ,hk,bg,aA,bz,getD_lt hk,ajJ p2,bp,aX,aV,aO,aU,dI,hc,hc1,hc2,aZ,aR,bw hk (by omega:f.Params.length<2^62)];rfl) (fun g out=>by
  show M.qx [102,117,110,99,40] f.Params (f.Params.length:Int) (g+1) _ f out=_
  rw[M.qx];simp[ay.ai])
 unfold M.CO;simp only[kP]at e;simp only[aa.ai,ay.ai];rw[e];have hh:(bif f.Async then[(97:UInt8),115,121,110,99,32,102,117,110,99,40]else[102,117,110,99,40])=pL f.Async:=rfl;have c1:aW (pL f.Async) (jn (f.Params.map jP)++[41])=true:=cH (by simp only[bA,aO,aU];omega);have c2:aW (jn (f.Params.map jP)) [41]=true:=cH (by simp only[aO,aU];omega);have c3:aW (pL f.Async++(jn (f.Params.map jP)++[41])) ([45,62]++txt f.Result)=true:=cH (by simp only[bA,aO,aU];omega);have c4:aW [45,62] (txt f.Result)=true:=cH (by simp only[aO,aU];omega);simp only[hh,PX _ (show az List.length (f.Params.map jP)<=1073741824 by omega),ajJ h3,aV,aX,c1,c2,c3,c4,ajI,aZ,aR,bZ,aA];unfold ub;simp
theorem aBe{f:ay}(h:fJ f=true):M.Ci f=some (ub f):=by
 obtain⟨h1,h2,h3⟩:=KW h;have hs:=Pv h;have hj:=nt (f.Params.map jP);have hr:=zJ h3;have hhd:=Pq f.Async;have e:=PY (F:=fun g s i=>M.ov g s i f) (h:=fun s=>some (s,f)) (f.Params.map jP) (by rw[cr];omega) (pL f.Async) (fun g k s hk hls=>by
  rw[cr]at hk
  show M.ov (g+1) s (k:Int) f=_
  rw[M.ov];have hcl:=P1 k s;have hp:=h2 _ (bG hk);obtain⟨p1,p2,p3⟩:=P6 hp;have hn:=qT p1;have ht:=zJ p2;have hc1:aW f.Params[k].Name [58]=true:=cH (by simp only[aO,aU];omega);have hc2:aW (f.Params[k].Name++[58]) (txt f.Params[k].aS)=true:=cH (by simp only[bA,aO,aU];omega);have hc3:aW (if 0<k then s++[44]else s) (f.Params[k].Name++[58]++txt f.Params[k].aS)=true:=cH (by simp only[bA,aO,aU];omega);have es:=ajG f.Params[k].aS (by have:=E7 p2;omega) p2;simp only[aa.ai,ay.ai,bJ,hk,bg,aA,bz,bp,P0,P2 k (show s.length<=1000000000 by omega),P3 k (show s.length<=1000000000 by omega),getD_lt hk,es,aV,aX,hc1,hc2,hc3,aZ,aR,bw hk (by omega:f.Params.length<2^62),uK];rfl) (fun g s=>by
  show M.ov (g+1) s _ f=_
  rw[cr,M.ov];simp[ay.ai])
 have e':M.ov af (pL f.Async) 0 f=_:=e;have es:=ajG f.Result (by have:=E7 h3;omega) h3;unfold M.Ci;have hh:(bif f.Async then[(97:UInt8),115,121,110,99,32,102,117,110,99,40]else[102,117,110,99,40])=pL f.Async:=rfl;simp only[aa.ai,ay.ai,hh];rw[e'];have c1:aW (pL f.Async++jn (f.Params.map jP)) [41]=true:=cH (by simp only[bA,aO,aU];omega);have c3:aW (pL f.Async++jn (f.Params.map jP)++[41]) ([45,62]++txt f.Result)=true:=cH (by simp only[bA,aO,aU];omega);have c4:aW [45,62] (txt f.Result)=true:=cH (by simp only[aO,aU];omega);simp only[es,aV,aX,c1,c3,c4,jD,ajI,aZ,aR,bZ,aA];unfold ub;simp
end M
namespace M
open Go.V (inB cF aW af bV lQ lR)
theorem KX(k:Nat)(h:k<10):lQ (Go.IntKind.wrap .u8 (Go.IntKind.wrap .i64 ((48:Int)+(k:Int))))=true/\lR (Go.IntKind.wrap .u8 (Go.IntKind.wrap .i64 ((48:Int)+(k:Int))))=UInt8.ofNat (48+k):=by
 have:∀j:Fin 10,lQ (Go.IntKind.wrap .u8 (Go.IntKind.wrap .i64 ((48:Int)+((j.val:Nat):Int))))=true/\lR (Go.IntKind.wrap .u8 (Go.IntKind.wrap .i64 ((48:Int)+((j.val:Nat):Int))))=UInt8.ofNat (48+j.val):=by decide+kernel
 exact this ⟨k,h⟩
theorem Px{u:Nat}(h:¬u<10):Go.Lib.decDigits u=Go.Lib.decDigits (u/10)++[UInt8.ofNat (48+u%10)]:=by rw[Go.Lib.decDigits,uD h]
theorem zL:∀(g u:Nat),u<10^(g+1)->(Go.Lib.decDigits u).length<=g+1
 |0,u,h=>by rw[Go.Lib.decDigits_one (by simpa using h)];simp
 |g+1,u,h=>by
  by_cases h1:u<10
  ·rw[Go.Lib.decDigits_one h1];simp
  ·have:=zL g (u/10) (by rw[Nat.div_lt_iff_lt_mul (by omega)];rw[Nat.pow_succ]at h;exact h);rw[Px h1,bA];simp only[aO,aU];omega
theorem P7:∀(g m u:Nat),u<10^(g+1)->g<=20->u<9223372036854775808->g<m->M.vv m (u:Int)=some (Go.Lib.decDigits u)
 |g,0,u,_,_,_,h=>by omega
 |g,m+1,u,hu,hg,h63,hm=>by
  show M.yG (M.vv m) (u:Int)=_
  unfold M.yG;rw[iS (show ¬((u:Nat):Int)<0 by omega)];simp only[bN];by_cases h1:u<10
  ·obtain⟨d1,d2⟩:=KX u h1;rw[fK (show((u:Nat):Int)<10 by omega),Go.Lib.decDigits_one h1];simp only[aA,d1,d2,cK,eu,List.map_nil]
  ·match g,hu with
   |0,hu=>simp at hu;omega
   |g+1,hu=>
    have hq:u/10<10^(g+1):=by rw[Nat.div_lt_iff_lt_mul (by omega)];rw[Nat.pow_succ]at hu;exact hu
    have ih:=P7 g m (u/10) hq (by omega) (by omega) (by omega);have w1:Go.IntKind.wrap Go.IntKind.i64 (Int.tdiv ((u:Nat):Int) 10)=((u/10:Nat):Int):=by
     have:Int.tdiv ((u:Nat):Int) 10=((u/10:Nat):Int):=by rw[Int.tdiv_eq_ediv_of_nonneg (by omega)];omega
     rw[this,wrap_i64 (by omega) (by omega)]
    have w2:Int.tmod ((u:Nat):Int) 10=((u%10:Nat):Int):=by rw[Int.tmod_eq_emod_of_nonneg (by omega)];omega
    obtain⟨d1,d2⟩:=KX (u%10) (by omega);have hl:=zL g (u/10) hq;have hc:aW (Go.Lib.decDigits (u/10)) [UInt8.ofNat (48+u%10)]=true:=cH (by simp only[aO,aU];omega);have h10:((10:Int) !=0)=true:=rfl;rw[iS (show ¬((u:Nat):Int)<10 by omega)];simp only[bN,w1,w2,ih,d1,d2,hc,h10,aV,aX,cK,eu,List.map_nil,aA];rw[Px h1]
theorem aiz(n:Int)(h1: -9223372036854775808<=n)(h2:n<=9223372036854775807):M.mQ n=some (Go.Lib.itoa n):=by
 obtain⟨g,hg⟩:∃g,af=(g+20)+1:=⟨af-21,by have:=bV;omega⟩;have p19:(9223372036854775808:Nat)<10^(18+1):=by decide
 unfold M.mQ Go.Lib.itoa;by_cases hn:n<0
 ·rw[aE hn,hg]
  show M.yG (M.vv (g+20)) n=_
  unfold M.yG;rw[fK hn];simp only[aA];by_cases hm:n= -9223372036854775808
  ·subst hm;have e:((-9223372036854775808:Int)==(-(9223372036854775808:Int)))=true:=rfl;rw[e];simp only[aA];have:(45:UInt8)::Go.Lib.decDigits (Int.natAbs (-9223372036854775808))=[(45:UInt8),(57:UInt8),(50:UInt8),(50:UInt8),(51:UInt8),(51:UInt8),(55:UInt8),(50:UInt8),(48:UInt8),(51:UInt8),(54:UInt8),(56:UInt8),(53:UInt8),(52:UInt8),(55:UInt8),(55:UInt8),(53:UInt8),(56:UInt8),(48:UInt8),(56:UInt8)]:=by decide+kernel
   rw[this]
  ·have e:(n==(-(9223372036854775808:Int)))=false:=by rw[dS];omega
   have w:Go.IntKind.wrap Go.IntKind.i64 ((0:Int)-n)=((n.natAbs:Nat):Int):=by rw[wrap_i64 (by omega) (by omega)];omega
   have hq:n.natAbs<10^(18+1):=by omega
   have ih:=P7 18 (g+20) n.natAbs hq (by omega) (by omega) (by omega);have hl:=zL 18 n.natAbs hq;have hc:aW [(45:UInt8)] (Go.Lib.decDigits n.natAbs)=true:=cH (by simp only[aO,aU];omega);rw[e];simp only[bN,w,ih,hc,aV,aX,cK,aA];rfl
 ·rw[av hn,hg];have:=P7 18 (g+20+1) n.toNat (by omega) (by omega) (by omega) (by omega);rw[show((n.toNat:Nat):Int)=n by omega]at this;exact this
theorem KU(n:Int)(h1: -9223372036854775808<=n)(h2:n<=9223372036854775807):(Go.Lib.itoa n).length<=20:=by
 have p19:(9223372036854775808:Nat)<10^(18+1):=by decide
 unfold Go.Lib.itoa;by_cases hn:n<0
 ·rw[aE hn];have:=zL 18 n.natAbs (by omega);rw[aO];omega
 ·rw[av hn];have:=zL 18 n.toNat (by omega);omega
end M
