/-
  NAMES BOUND ONCE: names that are all among some distinct words are distinct and as many as these just where each word is met once.
-/
import Derived.Test.YtjgokmknlclpgaaGreatDoorXEpl3
import Derived.Test.YtjgokmknlclpgaaGreatDoorXEpl4
import Derived.Test.YtjgokmknlclpgaaGreatDoorXEFF
import Derived.Test.YtjgokmknlclpgaaGreatDoorXEMM
import Derived.Test.YtjgokmknlclpgaaGreatDoorXETP
set_option linter.unusedVariables false
namespace M
def smN(f:List UInt8->Nat):List (List UInt8)->Nat
 |[]=>0
 |i::r=>f i+smN f r
theorem azD(f g:List UInt8->Nat):∀l,smN (fun i=>f i+g i) l=smN f l+smN g l
 |[]=>rfl
 |i::r=>by simp only[smN,azD f g r];omega
theorem aoC(f:List UInt8->Nat):∀l,(∀i∈l,f i=0)->smN f l=0
 |[],_=>rfl
 |i::r,h=>by simp only[smN,h i (by simp),aoC f r fun j hj=>h j (by simp[hj])]
theorem azE(f:List UInt8->Nat):∀l,(∀i∈l,f i=1)->smN f l=l.length
 |[],_=>rfl
 |i::r,h=>by simp only[smN,h i (by simp),azE f r fun j hj=>h j (by simp[hj]),jA];omega
theorem aBZ(f:List UInt8->Nat):∀l,(∀i∈l,f i<=1)->smN f l<=l.length/\(smN f l=l.length->∀i∈l,f i=1)
 |[],_=>⟨iM _,fun _ i hi=>absurd hi (by simp)⟩
 |i::r,h=>by
  obtain⟨h1,h2⟩:=aBZ f r fun j hj=>h j (by simp[hj])
  have h3:=h i (by simp);simp only[smN,jA];refine⟨by omega,fun e j hj=>?_⟩;rcases AB.1 hj with rfl|hj
  ·omega
  ·exact h2 (by omega) j hj
def hit(x i:List UInt8):Nat:=if x==i then 1 else 0
theorem azF(x:List UInt8):∀l:List (List UInt8),l.Nodup->x∈l->smN (hit x) l=1
 |[],_,h=>absurd h (by simp)
 |i::r,hn,hm=>by
  rw[ap4]at hn;by_cases e:x=i
  ·subst e;have:smN (hit x) r=0:=aoC _ r fun j hj=>by
    unfold hit;rw[bu];simp only[sD];rintro rfl;exact hn.1 hj
   simp only[smN,this,hit,aoD,Fh]
  ·have h1:x∈r:=by simpa [e]using hm
   have:=azF x r hn.2 h1;have h2:hit x i=0:=by unfold hit;rw[bu];simpa using e
   simp only[smN,this,h2]
theorem YU(x i:List UInt8)(r:List (List UInt8)):(x::r).count i=hit x i+r.count i:=by
 rw[List.count_cons];unfold hit;omega
theorem ata:∀(names Kz:List (List UInt8)),Kz.Nodup->(∀x∈names,x∈Kz)->smN (fun i=>names.count i) Kz=names.length
 |[],Kz,_,_=>by rw[aoC _ Kz fun i _=>by simp];rfl
 |x::r,Kz,hn,h=>by
  have e:(fun i=>(x::r).count i)=fun i=>hit x i+r.count i:=funext fun i=>YU x i r
  rw[e,azD,azF x Kz hn (h x (by simp)),ata r Kz hn fun y hy=>h y (by simp[hy]),jA];omega
theorem alM:∀l:List (List UInt8),(∀x∈l,l.count x<=1)->l.Nodup
 |[],_=>List.nodup_nil
 |x::r,h=>by
  rw[ap4];constructor
  ·intro hm;have h1:=h x (by simp);have h2:0<r.count x:=List.count_pos_iff.2 hm;rw[List.count_cons_self]at h1;omega
  ·exact alM r fun y hy=>by
    have:=h y (by simp[hy]);rw[YU]at this;omega
theorem alN:∀l:List (List UInt8),l.Nodup->∀x,l.count x<=1
 |[],_,x=>by simp
 |y::r,h,x=>by
  rw[ap4]at h;rw[YU];by_cases e:y=x
  ·subst e;have:r.count y=0:=List.count_eq_zero.2 h.1;unfold hit;rw[bI (by simp)];omega
  ·have:=alN r h.2 x;unfold hit;rw[bu (by simpa using e)];omega
theorem aB0(names Kz:List (List UInt8))(hn:Kz.Nodup)(h:∀x∈names,x∈Kz):
 (nodupB names&&(names.length==Kz.length))=Kz.all fun i=>names.count i==1:=by
 have hs:=ata names Kz hn h;rw[KA];simp only[lS,HY,sD,zG];constructor
 ·rintro ⟨h1,h2⟩
  have:=aBZ (fun i=>names.count i) Kz fun i _=>alN names h1 i
  exact this.2 (by omega)
 ·intro h1;have h2:=azE (fun i=>names.count i) Kz h1;refine⟨alM names fun x hx=>?_,by omega⟩;rw[h1 x (h x hx)];exact iM _
end M
namespace M
open Go.V (inB yx az bU)
def pre{α β:Type}(ok:α->β->Bool):List α->List β->Bool
 |[],_=>true
 |_::_,[]=>false
 |w::ws,x::xs=>ok w x&&pre ok ws xs
theorem aoE{α β:Type}(ok:α->β->Bool):∀(a b:List α)(l:List β),pre ok (a++b) l=(pre ok a l&&pre ok b (l.drop a.length))
 |[],b,l=>by simp[pre]
 |w::ws,b,[]=>by simp[pre]
 |w::ws,b,x::xs=>by simp only[Hw,pre,aoE ok ws b xs,jA,List.drop_succ_cons,Bool.and_assoc]
theorem ajK{α β:Type}(ok:α->β->Bool)(dw:α)(dl:β):∀(ws:List α)(ls:List β),ws.length=ls.length->((List.range ls.length).all fun k=>ok (ws.getD k dw) (ls.getD k dl))=pre ok ws ls
 |[],[],_=>rfl
 |[],_::_,h=>by simp at h
 |_::_,[],h=>by simp at h
 |w::ws,x::xs,h=>by
  have:=ajK ok dw dl ws xs (by simpa using h);rw[jA,List.range_succ_eq_map,P8,pre,<-this,azG];rfl
theorem drop_cons{α:Type}{l:List α}{n:Nat}(h:n<l.length):l.drop n=l[n]::l.drop (n+1):=jb h
theorem aoF{α β Y E:Type}(ok:α->β->Bool)(ws:List α)(ls:List β)(hw:ws.length<=1048576)(hl:ls.length<=1048576){F:Nat->Int->Int->Option (Y⊕E)}{b:Y}{fin:Int->E}
 (step:∀f k n,∀hk:k<ws.length,F (f+1) (k:Int) ((n:Nat):Int)=if h:n<ls.length then(if ok ws[k] ls[n]then F f ((k+1:Nat):Int) ((n+1:Nat):Int)else some (.inl b))else some (.inl b))
 (stop:∀f n,F (f+1) (ws.length:Int) n=some (.inr (fin n))) (n0:Nat):
 F az 0 (n0:Int)=some (if pre ok ws (ls.drop n0)then .inr (fin ((n0+ws.length:Nat):Int))else .inl b):=by
 have key:∀f k n,k<=ws.length->ws.length-k<f->F f (k:Int) ((n:Nat):Int)=some (if pre ok (ws.drop k) (ls.drop n)then .inr (fin ((n+(ws.length-k):Nat):Int))else .inl b):=by
  intro f
  induction f with
  |zero=>intro k n h1 h2;omega
  |succ f ih=>
   intro k n h1 h2;rcases kF k ws.length with hk|hk
   ·rw[step f k n hk,jb hk];by_cases hn:n<ls.length
    ·rw[dif_pos hn,drop_cons hn,ih (k+1) (n+1) (by omega) (by omega)];rw[show n+1+(ws.length-(k+1))=n+(ws.length-k) by omega];simp only[pre];by_cases ho:ok ws[k] ls[n]=true
     ·rw[bI ho];simp only[ho,dY]
     ·rw[bu ho];simp only[ho,ati];rfl
    ·rw[dif_neg hn,show ls.drop n=[]from List.drop_eq_nil_of_le (by omega)];rfl
   ·have:k=ws.length:=by omega
    subst this;rw[stop,Sl,ad3];simp[pre]
 have:=key az 0 n0 (oG _) (by have:=bU;omega);simpa using this
theorem aoG{α β Y E:Type}(ok:α->β->Bool)(wss:List (List α))(ls:List β)(hw:wss.length<=1048576){G:Nat->Int->Int->Option (Y⊕E)}{b:Y}{fin:Int->E}
 (step:∀f i n,∀hi:i<wss.length,G (f+1) (i:Int) ((n:Nat):Int)=if pre ok wss[i] (ls.drop n)then G f ((i+1:Nat):Int) ((n+wss[i].length:Nat):Int)else some (.inl b))
 (stop:∀f n,G (f+1) (wss.length:Int) n=some (.inr (fin n))):
 G az 0 0=some (if pre ok wss.flatten ls then .inr (fin ((wss.flatten.length:Nat):Int))else .inl b):=by
 have key:∀f i n,i<=wss.length->wss.length-i<f->G f (i:Int) ((n:Nat):Int)=some (if pre ok (wss.drop i).flatten (ls.drop n)then .inr (fin ((n+(wss.drop i).flatten.length:Nat):Int))else .inl b):=by
  intro f
  induction f with
  |zero=>intro i n h1 h2;omega
  |succ f ih=>
   intro i n h1 h2;rcases kF i wss.length with hi|hi
   ·rw[step f i n hi,jb hi,List.flatten_cons,aoE,azI,ih (i+1) _ (by omega) (by omega),zH,<-YW];by_cases ho:pre ok wss[i] (ls.drop n)=true
    ·rw[bI ho];simp only[ho,dY]
    ·rw[bu ho];simp only[ho,ati];rfl
   ·have:i=wss.length:=by omega
    subst this;rw[stop,Sl];simp[pre]
 have:=key az 0 0 (oG _) (by have:=bU;omega);simpa using this
end M
set_option linter.unusedSimpArgs false
namespace M
open Go.V (inB yx az bU)
def KC(f:aI):List fD:=f.Funcs.map fun x=>fD.mk (jy f) x.Name x.aZ
def yz(l:List aI):List fD:=(l.map KC).flatten
def afJ(m:aK)(n:List UInt8):Option Nat:=m.bz.findIdx? fun c=>c.Name==n
def P9(m:aK)(n:List UInt8):Option Nat:=m.aj.findIdx? fun c=>c.Name==n
def Fj(m:aK)(w:fD)(x:dn):Bool:=(x.dE==w.am8&&x.Func==w.name)&&(match afJ m x.Core with
 |some j=>(m.bz.getD j aH.zero).Params==(P7 w.shape).1&&(m.bz.getD j aH.zero).Result==(P7 w.shape).2.1
 |none=>false)
def KD(m:aK)(w:fD)(x:bF):Bool:=(x.dE==w.am8&&x.Func==w.name)&&(match P9 m x.Import with
 |some j=>(m.aj.getD j aB.zero).Params==(P7 w.shape).1&&(m.aj.getD j aB.zero).Result==(P7 w.shape).2.1
 |none=>false)
def afK(c:aA):Bool:=pre (Fj c.Module) (yz c.bT) c.gW&&(yz c.bT).length==c.gW.length
def ad2(c:aA):Bool:=pre (KD c.Module) (yz c.aj) c.dI&&(yz c.aj).length==c.dI.length
def Ea(l:List aI)(am8 res:List UInt8):Bool:=match l.findIdx? (fun f=>jy f==am8)with
 |some j=>(l.getD j aI.zero).aT.any fun y=>y==res
 |none=>false
def Jj(c:aA)(b:aN):Bool:=((decide (1<=b.Kind)&&decide (b.Kind<=3))&&(Ea c.bT b.dE b.fQ||(b.Kind==3&&Ea c.aj b.dE b.fQ)))&&(match P9 c.Module b.Import with
 |some j=>(c.Module.aj.getD j aB.zero).Params==1&& !((c.Module.aj.getD j aB.zero).Result==(b.Kind==3))
 |none=>false)
def IA(c:aA):Bool:=decide (c.Builtins.length<=12)&&c.Builtins.all (Jj c)
def wordsOf(c:aA):List (List UInt8):=c.dI.map bF.Import++c.Builtins.map aN.Import
def ajL(c:aA):Bool:=nodupB (wordsOf c)&&(wordsOf c).length==c.Module.aj.length
def aha(c:aA):Bool:=(c.Module.aj.map aB.Name).all fun i=>(wordsOf c).count i==1
theorem azJ{α β:Type}{ok:α->β->Bool}:∀{ws:List α}{ls:List β},pre ok ws ls=true->ws.length=ls.length->∀x∈ls,∃w∈ws,ok w x=true
 |[],[],_,_,x,hx=>absurd hx (by simp)
 |[],_::_,_,h,_,_=>by simp at h
 |_::_,[],_,_,x,hx=>absurd hx (by simp)
 |w::ws,y::ys,h,hl,x,hx=>by
  simp only[pre,lS]at h;rcases AB.1 hx with rfl|hx
  ·exact⟨w,by simp,h.1⟩
  ·obtain⟨v,hv,e⟩:=azJ h.2 (by simpa using hl) x hx;exact⟨v,by simp[hv],e⟩
theorem atb{m:aK}{n:List UInt8}{j:Nat}(h:P9 m n=some j):n∈m.aj.map aB.Name:=by
 unfold P9 at h;rw[List.findIdx?_eq_some_iff_getElem]at h;obtain⟨hj,h1,-⟩:=h;have e:(m.aj[j]).Name=n:=by simpa using h1
 exact ajM.2 ⟨m.aj[j],gp hj,e⟩
theorem aB1{c:aA}(h1:ad2 c=true)(h2:IA c=true):∀x∈wordsOf c,x∈c.Module.aj.map aB.Name:=by
 intro x hx;unfold wordsOf at hx;rcases qC.1 hx with hx|hx
 ·obtain⟨y,hy,rfl⟩:=ajM.1 hx;unfold ad2 at h1;simp only[lS,sD]at h1;obtain⟨w,-,e⟩:=azJ h1.1 h1.2 y hy;unfold KD at e;rw[lS]at e;cases ha:P9 c.Module y.Import with
  |none=>rw[ha]at e;exact absurd e.2 (by simp)
  |some j=>exact atb ha
 ·obtain⟨y,hy,rfl⟩:=ajM.1 hx;unfold IA at h2;simp only[lS,zG]at h2;have e:=h2.2 y hy;unfold Jj at e;rw[lS]at e;cases ha:P9 c.Module y.Import with
  |none=>rw[ha]at e;exact absurd e.2 (by simp)
  |some j=>exact atb ha
theorem ax8{c:aA}(hm:YC c.Module=true)(h1:ad2 c=true)(h2:IA c=true):ajL c=aha c:=by
 have hn:(c.Module.aj.map aB.Name).Nodup:=by
  unfold YC ajN at hm;simp only[lS]at hm;exact(HY _).1 hm.2.2.1.1
 have:=aB0 (wordsOf c) _ hn (aB1 h1 h2);unfold ajL aha;rw[<-this,xE]
end M
namespace M
open Go.V (inB yx az bU)
def ixO(o:Option Nat):Int:=match o with
 |some j=>(j:Int)
 |none=> -1
theorem aB2(m:aK)(n:List UInt8)(h:m.bz.length<=1048576):M.Tc m n=some (ixO (afJ m n)):=by
 have e:=iL (p:=fun c:aH=>c.Name==n) (F:=M.yS n m) (e:=()) (fun k=>k) m.bz (by omega) (fun f k hk=>by
  rw[M.yS];simp only[getD_lt hk,kE,bn,gZ,hk,eG,bQ,dY,jg,dB hk (dO h)]) (fun f=>by rw[M.yS];simp)
 unfold M.Tc afJ ixO;rw[e];cases m.bz.findIdx? fun c=>c.Name==n<;>rfl
theorem azK(m:aK)(n:List UInt8)(h:m.aj.length<=1048576):M.AL m n=some (ixO (P9 m n)):=by
 have e:=iL (p:=fun c:aB=>c.Name==n) (F:=M.sQ n m) (e:=()) (fun k=>k) m.aj (by omega) (fun f k hk=>by
  rw[M.sQ];simp only[getD_lt hk,kE,bn,gZ,hk,eG,bQ,dY,jg,dB hk (dO h)]) (fun f=>by rw[M.sQ];simp)
 unfold M.AL P9 ixO;rw[e];cases m.aj.findIdx? fun c=>c.Name==n<;>rfl
theorem alP{α:Type}{p:α->Bool}{l:List α}{j:Nat}(h:l.findIdx? p=some j):j<l.length:=by
 rw[List.findIdx?_eq_some_iff_getElem]at h;exact h.1
theorem aB3{f:aI}(h:Sm f=true):∀x∈f.Funcs,fOk x.aZ=true:=by
 unfold Sm at h;simp only[lS,zG]at h;intro x hx;have:=h.2.2.1 x hx;unfold arG at this;simp only[lS]at this;exact this.1.2
theorem acN{l:List aI}(h:uw l=true):∀f∈l,∀x∈f.Funcs,fOk x.aZ=true:=by
 unfold uw at h;simp only[lS,zG]at h;intro f hf;have:=h.2.1 f hf;unfold arH at this;rw[lS]at this;exact aB3 this.1
theorem Fp(f:aI):(KC f).length=f.Funcs.length:=by unfold KC;rw[xE]
theorem avP(f:aI){k:Nat}(hk:k<(KC f).length):(KC f)[k]=fD.mk (jy f) (f.Funcs[k]'(by rw[Fp]at hk;exact hk)).Name (f.Funcs[k]'(by rw[Fp]at hk;exact hk)).aZ:=by
 simp only[KC,avQ]
structure CSz (c:aA):Prop where
 name:c.Name.length<=1048576
 ver:c.Version.length<=1048576
 Kz:eF aI.sz c.aj<=1048576
 auh:eF aI.sz c.bT<=1048576
 mod:c.Module.sz<=1048576
 lifts:eF dn.sz c.gW<=1048576
 aD7:eF bF.sz c.dI<=1048576
 aui:eF aN.sz c.Builtins<=1048576
 both:eF bF.sz c.dI+eF aN.sz c.Builtins<=1048576
theorem CSz.of{c:aA}(h:c.sz<=1048576):CSz c:=by
 rw[aA.dN]at h;exact⟨by omega,by omega,by omega,by omega,by omega,by omega,by omega,by omega,by omega⟩
theorem Td{m:aK}(h:m.sz<=1048576):m.aj.length<=1048576/\m.bz.length<=1048576:=by
 rw[aK.dN]at h;have:=dh aB.sz m.aj;have:=dh aH.sz m.bz;omega
theorem LQ{l:List aI}(h:eF aI.sz l<=1048576){f:aI}(hf:f∈l):f.sz<=1048576/\f.Funcs.length<=1048576/\∀x∈f.Funcs,x.aZ.sz<=1048576:=by
 have h1:=eY aI.sz l f hf;have h2:=aI.dN f;have h3:=dh aQ.sz f.Funcs;refine⟨by omega,by omega,fun x hx=>?_⟩;have h4:=eY aQ.sz f.Funcs x hx;have h5:=aQ.dN x;omega
theorem azL(n m:Nat):decide (((m:Nat):Int)<=((n:Nat):Int))= !decide (n<m):=by
 rw[KA];simp only[EY,jX,AO];omega
theorem avS{c:aA}(hc:CSz c)(hE:uw c.bT=true){i:Nat}(hi:i<c.bT.length)(n0:Nat):
 M.kD c (i:Int) az (n0:Int) 0=some (if pre (Fj c.Module) (KC c.bT[i]) (c.gW.drop n0)then .inr (c,((n0+(KC c.bT[i]).length:Nat):Int),(i:Int))else .inl false):=by
 have hfs:=LQ hc.auh (gp hi);have hL:=lH (dh dn.sz c.gW) hc.lifts;have hm:=Td hc.mod;refine aoF (Fj c.Module) (KC c.bT[i]) c.gW (by rw[Fp];exact hfs.2.1) hL (F:=fun f k n=>M.kD c (i:Int) f n k) (b:=false) (fin:=fun n=>(c,n,(i:Int))) (fun f k n hk=>?_) (fun f n=>?_) n0
 ·show M.kD c (i:Int) (f+1) ((n:Nat):Int) (k:Int)=_
  rw[M.kD,avP c.bT[i] hk];rw[Fp]at hk;have hx:=hfs.2.2 _ (gp hk);have hok:=acN hE _ (gp hi) _ (gp hk);have hn:M.jS c.bT[i]=some (jy c.bT[i]):=acO _ hfs.1;have hs:=alQ hx hok;by_cases hnl:n<c.gW.length
  ·have hw:=dB hnl (dO hL);rw[dif_pos hnl];unfold Fj;simp only[ah.aF,getD_lt hi,getD_lt hk,getD_lt hnl,hn,hs,aB2 c.Module _ hm.2,azL,kE,bn,gZ,hk,hi,hnl,eG,bQ,Ad,NT,dY,jg,jc,hw,dB hk (dO hfs.2.1),jR,jY];cases (c.gW[n].dE==jy c.bT[i])
   ·simp
   ·cases (c.gW[n].Func==c.bT[i].Funcs[k].Name)
    ·simp
    ·cases ha:afJ c.Module c.gW[n].Core with
     |none=>simp[ixO]
     |some j=>
      have hj:j<c.Module.bz.length:=alP ha;have e1:¬((j:Int)<0):=by omega
      have e0:decide ((j:Int)<0)=false:=by rw[AO];omega
      simp only[ixO,e0,getD_lt hj,hj,kE,bn,eG,Ad,NT,aoH,dY,jc,jg,gG,uY];cases (c.Module.bz[j].Params==(P7 c.bT[i].Funcs[k].aZ).1)<;>cases (c.Module.bz[j].Result==(P7 c.bT[i].Funcs[k].aZ).2.1)<;>simp[e1]
  ·rw[dif_neg hnl];simp only[ah.aF,getD_lt hi,getD_lt hk,hn,azL,kE,bn,gZ,hk,hi,hnl,eG,ad4,bQ,Ad,am9,NT,dY,jg,jc,alR,jR,jY];simp
 ·show M.kD c (i:Int) (f+1) n (((KC c.bT[i]).length:Nat):Int)=_
  rw[M.kD,Fp];simp only[getD_lt hi,kE,bn,hi,eG];simp
theorem aD8{c:aA}(hc:CSz c)(hE:uw c.bT=true):M.NU c=some (afK c):=by
 have hx:=lH (dh aI.sz c.bT) hc.auh;have e:=aoG (Fj c.Module) (c.bT.map KC) c.gW (by rw[xE];exact hx) (G:=fun f i n=>M.lW f c n i) (b:=false) (fin:=fun n=>(c,n)) (fun f i n hi=>by
  rw[xE]at hi
  show M.lW (f+1) c ((n:Nat):Int) (i:Int)=_
  rw[M.lW,avS hc hE hi,avQ];simp only[gZ,hi,eG,bQ];cases pre (Fj c.Module) (KC c.bT[i]) (c.gW.drop n)
  ·rfl
  ·simp only[Fh,dB hi (dO hx)]) (fun f n=>by
  show M.lW (f+1) c n (((c.bT.map KC).length:Nat):Int)=_
  rw[M.lW,xE];simp)
 have e':M.lW az c 0 0=_:=e;unfold M.NU;rw[e'];unfold afK yz;cases pre (Fj c.Module) (c.bT.map KC).flatten c.gW
 ·rfl
 ·simp only[Fh,dY];congr 1;rw[KA,sD,sD];omega
theorem ax9{c:aA}(hc:CSz c)(hE:uw c.aj=true){i:Nat}(hi:i<c.aj.length)(n0:Nat):
 M.jH c (i:Int) az (n0:Int) 0=some (if pre (KD c.Module) (KC c.aj[i]) (c.dI.drop n0)then .inr (c,((n0+(KC c.aj[i]).length:Nat):Int),(i:Int))else .inl false):=by
 have hfs:=LQ hc.Kz (gp hi);have hL:=lH (dh bF.sz c.dI) hc.aD7;have hm:=Td hc.mod;refine aoF (KD c.Module) (KC c.aj[i]) c.dI (by rw[Fp];exact hfs.2.1) hL (F:=fun f k n=>M.jH c (i:Int) f n k) (b:=false) (fin:=fun n=>(c,n,(i:Int))) (fun f k n hk=>?_) (fun f n=>?_) n0
 ·show M.jH c (i:Int) (f+1) ((n:Nat):Int) (k:Int)=_
  rw[M.jH,avP c.aj[i] hk];rw[Fp]at hk;have hx:=hfs.2.2 _ (gp hk);have hok:=acN hE _ (gp hi) _ (gp hk);have hn:M.jS c.aj[i]=some (jy c.aj[i]):=acO _ hfs.1;have hs:=alQ hx hok;by_cases hnl:n<c.dI.length
  ·have hw:=dB hnl (dO hL);rw[dif_pos hnl];unfold KD;simp only[ah.aF,getD_lt hi,getD_lt hk,getD_lt hnl,hn,hs,azK c.Module _ hm.1,azL,kE,bn,gZ,hk,hi,hnl,eG,bQ,Ad,NT,dY,jg,jc,hw,dB hk (dO hfs.2.1),jR,jY];cases (c.dI[n].dE==jy c.aj[i])
   ·simp
   ·cases (c.dI[n].Func==c.aj[i].Funcs[k].Name)
    ·simp
    ·cases ha:P9 c.Module c.dI[n].Import with
     |none=>simp[ixO]
     |some j=>
      have hj:j<c.Module.aj.length:=alP ha;have e1:¬((j:Int)<0):=by omega
      have e0:decide ((j:Int)<0)=false:=by rw[AO];omega
      simp only[ixO,e0,getD_lt hj,hj,kE,bn,eG,Ad,NT,aoH,dY,jc,jg,gG,uY];cases (c.Module.aj[j].Params==(P7 c.aj[i].Funcs[k].aZ).1)<;>cases (c.Module.aj[j].Result==(P7 c.aj[i].Funcs[k].aZ).2.1)<;>simp[e1]
  ·rw[dif_neg hnl];simp only[ah.aF,getD_lt hi,getD_lt hk,hn,azL,kE,bn,gZ,hk,hi,hnl,eG,ad4,bQ,Ad,am9,NT,dY,jg,jc,alR,jR,jY];simp
 ·show M.jH c (i:Int) (f+1) n (((KC c.aj[i]).length:Nat):Int)=_
  rw[M.jH,Fp];simp only[getD_lt hi,kE,bn,hi,eG];simp
theorem aHl{c:aA}(hc:CSz c)(hE:uw c.aj=true):M.Jk c=some (ad2 c):=by
 have hx:=lH (dh aI.sz c.aj) hc.Kz;have e:=aoG (KD c.Module) (c.aj.map KC) c.dI (by rw[xE];exact hx) (G:=fun f i n=>M.kT f c n i) (b:=false) (fin:=fun n=>(c,n)) (fun f i n hi=>by
  rw[xE]at hi
  show M.kT (f+1) c ((n:Nat):Int) (i:Int)=_
  rw[M.kT,ax9 hc hE hi,avQ];simp only[gZ,hi,eG,bQ];cases pre (KD c.Module) (KC c.aj[i]) (c.dI.drop n)
  ·rfl
  ·simp only[Fh,dB hi (dO hx)]) (fun f n=>by
  show M.kT (f+1) c n (((c.aj.map KC).length:Nat):Int)=_
  rw[M.kT,xE];simp)
 have e':M.kT az c 0 0=_:=e;unfold M.Jk;rw[e'];unfold ad2 yz;cases pre (KD c.Module) (c.aj.map KC).flatten c.dI
 ·rfl
 ·simp only[Fh,dY];congr 1;rw[KA,sD,sD];omega
end M
namespace M
open Go.V (inB yx az bU)
theorem aya{a b:Nat}(h:a+b<=1073741824):decide (a+b<=1073741824)=true:=by rw[jX];exact h
theorem aB4{m:aK}(n:List UInt8)(h:m.sz<=1048576)(hm:YC m=true):M.YX m n=some (match afJ m n with
 |some j=>((j:Int),true)
 |none=>(0,false)):=by
 have hl:=Td h;have e:=iL (p:=fun c:aH=>c.Name==n) (F:=M.gI m.bz n (m.bz.length:Int)) (e:=()) (fun k=>k) m.bz (by omega) (fun f k hk=>by
  rw[M.gI];simp only[getD_lt hk,kE,bn,gZ,hk,eG,bQ,dY,jg,dB hk (dO hl.2)]) (fun f=>by rw[M.gI];simp)
 unfold M.YX M.mG afJ;rw[e,ajO m h,hm];cases m.bz.findIdx? fun c=>c.Name==n with
 |none=>rfl
 |some j=>
  have e0:decide ((j:Int)<0)=false:=by rw[AO];omega
  simp only[jR,jY,e0,Ad,NT,jc,gG,bQ,pq,dY,jg]
theorem azM{m:aK}(n:List UInt8)(h:m.sz<=1048576)(hm:YC m=true):M.Eb m n=some (match P9 m n with
 |some j=>((j:Int),true)
 |none=>(0,false)):=by
 have hl:=Td h;have e:=iL (p:=fun c:aB=>c.Name==n) (F:=M.fE m.aj n (m.aj.length:Int)) (e:=()) (fun k=>k) m.aj (by omega) (fun f k hk=>by
  rw[M.fE];simp only[getD_lt hk,kE,bn,gZ,hk,eG,bQ,dY,jg,dB hk (dO hl.1)]) (fun f=>by rw[M.fE];simp)
 unfold M.Eb M.kG P9;rw[e,ajO m h,hm];cases m.aj.findIdx? fun c=>c.Name==n with
 |none=>rfl
 |some j=>
  have e0:decide ((j:Int)<0)=false:=by rw[AO];omega
  simp only[jR,jY,e0,Ad,NT,jc,gG,bQ,pq,dY,jg]
theorem aon{α β Y:Type}{F:Nat->Int->List β->Option Y}{h:List β->Option Y}(g:α->List β)(l:List α)(hn:l.length<=1048576)(ana:List β)
 (step:∀f k out,∀hk:k<l.length,out=ana++((l.take k).map g).flatten->F (f+1) (k:Int) out=F f ((k+1:Nat):Int) (out++g l[k]))
 (stop:∀f out,F (f+1) (l.length:Int) out=h out):F az 0 ana=h (ana++(l.map g).flatten):=by
 have key:∀f k out,k<=l.length->l.length-k<f->out=ana++((l.take k).map g).flatten->F f (k:Int) out=h (ana++(l.map g).flatten):=by
  intro f
  induction f with
  |zero=>intro k out h1 h2;omega
  |succ f ih=>
   intro k out h1 h2 ho;rcases kF k l.length with hk|hk
   ·rw[step f k out hk ho,ih (k+1) _ (by omega) (by omega)];rw[ho,ajP,wH hk,Option.toList_some,auj,List.flatten_append,aoI];simp
   ·have:k=l.length:=by omega
    subst this;rw[stop,ho,atz]
 exact key az 0 ana (oG _) (by have:=bU;omega) (by simp)
theorem NV{α β:Type}(g:α->β):∀l:List α,(l.map fun x=>[g x]).flatten=l.map g
 |[]=>rfl
 |x::r=>by simp only[YY,List.flatten_cons,NV g r,List.singleton_append]
theorem avT:∀l:List aI,(yz l).length<=eF aI.sz l
 |[]=>iM _
 |f::r=>by
  have h1:=avT r;have h2:=aI.dN f;have h3:=dh aQ.sz f.Funcs;unfold yz at*;simp only[YY,List.flatten_cons,zH,Fp,eF];omega
theorem take_len(l:List aI)(k:Nat):(((l.take k).map KC).flatten).length<=eF aI.sz l:=by
 have h1:(yz (l.take k)).length<=eF aI.sz (l.take k):=avT _;have h2:∀(l:List aI)(k:Nat),eF aI.sz (l.take k)<=eF aI.sz l:=fun l=>by
  induction l with
  |nil=>intro k;simp[eF]
  |cons x r ih=>intro k;cases k with
   |zero=>simp[eF]
   |succ k=>have:=ih k;simp only[List.take_succ_cons,eF];omega
 exact lH h1 (h2 l k)
theorem aAK(f:aI)(k:Nat):((f.Funcs.take k).map fun x=>[fD.mk (jy f) x.Name x.aZ]).flatten.length<=f.Funcs.length:=by
 rw[NV];simp;omega
theorem avU(l:List aI)(h:eF aI.sz l<=1048576):M.Ec l=some (yz l):=by
 have hl:=lH (dh aI.sz l) h;have inner:∀(a:List aI)(b c:Int)(f:aI)(ana:List fD),f∈l->ana.length<=1048576->M.nJ a b c f.Funcs (f.Funcs.length:Int) f az 0 ana=some (a,b,c,ana++KC f):=fun a b c f ana hf ho=>by
  have hfs:=LQ h hf;have hn:M.lD f=some (jy f):=aoo f hfs.1;have e:=aon (F:=M.nJ a b c f.Funcs (f.Funcs.length:Int) f) (h:=fun out=>some (a,b,c,out)) (fun x=>[fD.mk (jy f) x.Name x.aZ]) f.Funcs hfs.2.1 ana (fun g k out hk ho'=>by
   rw[M.nJ];have ht:=aAK f k;have hc:=aya (a:=out.length) (b:=1) (by rw[ho',zH];omega);simp only[ah.aF,getD_lt hk,hn,kE,bn,gZ,hk,eG,bQ,jA,qh,Ae,hc,dY,jg,dB hk (dO hfs.2.1),jR,jY]) (fun g out=>by rw[M.nJ];simp)
  rw[e,NV];rfl
 have e:=aon (F:=fun g k out=>M.lX g l (l.length:Int) k out) (h:=fun out=>some out) KC l hl [] (fun g k out hk ho=>by
  show M.lX (g+1) l (l.length:Int) (k:Int) out=_
  rw[M.lX];have ht:=take_len l k;have hin:=inner l (l.length:Int) (k:Int) l[k] out (gp hk) (by rw[ho];simp only[aAs];omega);simp only[getD_lt hk,hin,kE,bn,gZ,hk,eG,bQ,dY,jg,dB hk (dO hl)]) (fun g out=>by
  show M.lX (g+1) l (l.length:Int) (l.length:Int) out=_
  rw[M.lX];simp)
 have e':M.lX az l (l.length:Int) 0 []=_:=e;unfold M.Ec;rw[e'];rfl
theorem avV{l:List aI}{w:fD}(h:w∈yz l):∃f∈l,∃x∈f.Funcs,w=fD.mk (jy f) x.Name x.aZ:=by
 unfold yz at h;obtain⟨q,hq,hw⟩:=List.mem_flatten.1 h;obtain⟨f,hf,rfl⟩:=ajM.1 hq;obtain⟨x,hx,rfl⟩:=ajM.1 hw;exact⟨f,hf,x,hx,rfl⟩
theorem aD9{c:aA}(hc:CSz c)(hE:uw c.bT=true)(hm:YC c.Module=true):M.Tf c=some (afK c):=by
 have hL:=lH (dh dn.sz c.gW) hc.lifts;have hb:=avU c.bT hc.auh;unfold M.Tf;rw[hb];simp only[jR,jY,jg,bQ];unfold afK;by_cases hlen:(yz c.bT).length=c.gW.length
 ·have e:=xG (p:=fun k=>Fj c.Module ((yz c.bT).getD k fD.zero) (c.gW.getD k dn.zero)) (F:=M.yT (yz c.bT) c.gW (c.gW.length:Int) c) (e:=()) (b:=false) c.gW.length (by omega) (fun f k hk=>by
   have hk':k<(yz c.bT).length:=by omega
   rw[M.yT];obtain⟨fc,hfc,x,hx,hw⟩:=avV (gp hk');have hsh:M.qZ (yz c.bT)[k].shape=some ((P7 (yz c.bT)[k].shape).1,(P7 (yz c.bT)[k].shape).2.1):=by
    have hok:=acN hE fc hfc x hx;have hs:=(LQ hc.auh hfc).2.2 x hx;rw[hw];exact alS hs hok
   unfold Fj;simp only[ah.aF,getD_lt hk,getD_lt hk',aB4 _ hc.mod hm,hsh,kE,bn,gZ,hk,hk',eG,bQ,dY,jg,jc,dB hk (dO hL),jR,jY];cases (c.gW[k].dE==(yz c.bT)[k].am8)
   ·simp
   ·cases (c.gW[k].Func==(yz c.bT)[k].name)
    ·simp
    ·cases ha:afJ c.Module c.gW[k].Core with
     |none=>simp
     |some j=>
      have hj:j<c.Module.bz.length:=alP ha;simp only[getD_lt hj,hj,kE,bn,eG,Ad,NT,aoH,dY,jc,jg,gG,bQ,uY];cases (c.Module.bz[j].Params==(P7 (yz c.bT)[k].shape).1)<;>cases (c.Module.bz[j].Result==(P7 (yz c.bT)[k].shape).2.1)<;>simp) (fun f=>by rw[M.yT];simp)
  rw[ajK (Fj c.Module) fD.zero dn.zero _ _ hlen]at e;rw[e,hlen];simp only[bne_self_eq_false,gG,aoD,jg];cases pre (Fj c.Module) (yz c.bT) c.gW<;>rfl
 ·have h1:(((c.gW.length:Nat):Int) !=(((yz c.bT).length:Nat):Int))=true:=by rw[Ti];omega
  have h2:((yz c.bT).length==c.gW.length)=false:=by rw[AP];exact hlen
  rw[h1,h2];simp
theorem aHm{c:aA}(hc:CSz c)(hE:uw c.aj=true)(hm:YC c.Module=true):M.NW c=some (ad2 c):=by
 have hL:=lH (dh bF.sz c.dI) hc.aD7;have hb:=avU c.aj hc.Kz;unfold M.NW;rw[hb];simp only[jR,jY,jg,bQ];unfold ad2;by_cases hlen:(yz c.aj).length=c.dI.length
 ·have e:=xG (p:=fun k=>KD c.Module ((yz c.aj).getD k fD.zero) (c.dI.getD k bF.zero)) (F:=M.wI (yz c.aj) c.dI (c.dI.length:Int) c) (e:=()) (b:=false) c.dI.length (by omega) (fun f k hk=>by
   have hk':k<(yz c.aj).length:=by omega
   rw[M.wI];obtain⟨fc,hfc,x,hx,hw⟩:=avV (gp hk');have hsh:M.qZ (yz c.aj)[k].shape=some ((P7 (yz c.aj)[k].shape).1,(P7 (yz c.aj)[k].shape).2.1):=by
    have hok:=acN hE fc hfc x hx;have hs:=(LQ hc.Kz hfc).2.2 x hx;rw[hw];exact alS hs hok
   unfold KD;simp only[ah.aF,getD_lt hk,getD_lt hk',azM _ hc.mod hm,hsh,kE,bn,gZ,hk,hk',eG,bQ,dY,jg,jc,dB hk (dO hL),jR,jY];cases (c.dI[k].dE==(yz c.aj)[k].am8)
   ·simp
   ·cases (c.dI[k].Func==(yz c.aj)[k].name)
    ·simp
    ·cases ha:P9 c.Module c.dI[k].Import with
     |none=>simp
     |some j=>
      have hj:j<c.Module.aj.length:=alP ha;simp only[getD_lt hj,hj,kE,bn,eG,Ad,NT,aoH,dY,jc,jg,gG,bQ,uY];cases (c.Module.aj[j].Params==(P7 (yz c.aj)[k].shape).1)<;>cases (c.Module.aj[j].Result==(P7 (yz c.aj)[k].shape).2.1)<;>simp) (fun f=>by rw[M.wI];simp)
  rw[ajK (KD c.Module) fD.zero bF.zero _ _ hlen]at e;rw[e,hlen];simp only[bne_self_eq_false,gG,aoD,jg];cases pre (KD c.Module) (yz c.aj) c.dI<;>rfl
 ·have h1:(((c.dI.length:Nat):Int) !=(((yz c.aj).length:Nat):Int))=true:=by rw[Ti];omega
  have h2:((yz c.aj).length==c.dI.length)=false:=by rw[AP];exact hlen
  rw[h1,h2];simp
end M
namespace M
open Go.V (inB yx az bU)
theorem aEa(l:List (List UInt8))(v:List UInt8):(l.any fun y=>v==y)=l.any fun y=>y==v:=by
 congr 1;funext y;rw[KA];simp only[sD];exact eq_comm
theorem aEb{l:List aI}(h:eF aI.sz l<=1048576)(n:List UInt8):M.Jl l n=some (match l.findIdx? (fun f=>jy f==n)with
 |some j=>(l.getD j aI.zero,true)
 |none=>(aI.mk [] [] [] [] [],false)):=by
 have hl:=lH (dh aI.sz l) h;have e:=iL (p:=fun f:aI=>jy f==n) (F:=M.sS n l (l.length:Int) [] [] [] [] []) (e:=([],[],[],[],[])) (fun k=>(true,l.getD k.toNat aI.zero)) l (by omega) (fun f k hk=>by
  rw[M.sS];have hn:M.lD l[k]=some (jy l[k]):=aoo _ (LQ h (gp hk)).1;simp only[getD_lt hk,hn,kE,bn,gZ,hk,eG,bQ,dY,jg,dB hk (dO hl),jR,jY]) (fun f=>by rw[M.sS];simp)
 unfold M.Jl;rw[e];cases l.findIdx? fun f=>jy f==n with
 |none=>rfl
 |some j=>simp only[kE]
theorem avW{l:List aI}(h:eF aI.sz l<=1048576)(n r:List UInt8):M.zQ l n r=some (Ea l n r):=by
 have hl:=lH (dh aI.sz l) h;unfold M.zQ Ea;rw[aEb h n];cases hj:l.findIdx? fun f=>jy f==n with
 |none=>
  have e:M.fG [] r=some false:=VW [] r (by simp);simp[e]
 |some j=>
  have hlt:j<l.length:=alP hj;have hs:(l[j]).aT.length<=1048576:=by
   have h1:=(LQ h (gp hlt)).1;rw[aI.dN]at h1;have:=dh List.length (l[j]).aT;omega
  simp only[getD_lt hlt,VW _ r hs,aEa,jR,jY,jc,dY,jg,bQ]
theorem aEc{l:List aI}(h:eF aI.sz l<=1048576)(n:List UInt8):M.Tj l n=some (ixO (l.findIdx? fun f=>jy f==n)):=by
 have hl:=lH (dh aI.sz l) h;have e:=iL (p:=fun f:aI=>jy f==n) (F:=M.yU l n) (e:=()) (fun k=>k) l (by omega) (fun f k hk=>by
  rw[M.yU];have hn:M.jS l[k]=some (jy l[k]):=acO _ (LQ h (gp hk)).1;simp only[getD_lt hk,hn,kE,bn,gZ,hk,eG,bQ,dY,jg,dB hk (dO hl),jR,jY]) (fun f=>by rw[M.yU];simp)
 unfold M.Tj ixO;rw[e];cases l.findIdx? fun f=>jy f==n<;>rfl
theorem aAL{α E:Type}{p:α->Bool}{F:Nat->Int->Option (Bool⊕E)}{e:E}(a:List α)(ha:a.length<2^62)
 (step:∀f k,∀h:k<a.length,F (f+1) (k:Int)=bif p a[k]then some (.inl true)else F f ((k+1:Nat):Int)) (stop:∀f,F (f+1) (a.length:Int)=some (.inr e)):
 F az 0=some (if a.any p then .inl true else .inr e):=by
 have:=YZ (F:=F) (n:=a.length) (res:=fun k=>some (if(a.drop k).any p then .inl true else .inr e)) ha (fun f k hk ih=>by
  rw[step f k hk,ih,avX p hk];cases p a[k]<;>simp) (fun f=>by rw[stop,Sl];rfl)
 simpa using this
theorem aB5{l:List aI}(h:eF aI.sz l<=1048576)(n r:List UInt8):M.NF l n r=some (Ea l n r):=by
 have hl:=lH (dh aI.sz l) h;unfold M.NF Ea;rw[aEc h n];cases hj:l.findIdx? fun f=>jy f==n with
 |none=>rfl
 |some j=>
  have hlt:j<l.length:=alP hj;have hs:(l[j]).aT.length<=1048576:=by
   have h1:=(LQ h (gp hlt)).1;rw[aI.dN]at h1;have:=dh List.length (l[j]).aT;omega
  have e0:decide ((j:Int)<0)=false:=by rw[AO];omega
  have e:=aAL (p:=fun y=>y==r) (F:=M.yV l r (j:Int)) (e:=()) (l[j]).aT (by omega) (fun f k hk=>by
   rw[M.yV];simp only[getD_lt hlt,getD_lt hk,kE,bn,gZ,hk,hlt,eG,bQ,dY,jg,dB hk (dO hs)]) (fun f=>by
   rw[M.yV];simp only[getD_lt hlt,kE,bn,hlt,eG];simp)
  simp only[ixO,jR,e0,gG,e,getD_lt hlt,jY,jg,bQ];cases (l[j]).aT.any fun y=>y==r<;>rfl
theorem aJ3(n:Nat):decide ((12:Int)<((n:Nat):Int))= !decide (n<=12):=gtN n 12
theorem aJ4(n:Nat):decide (((n:Nat):Int)<=12)=decide (n<=12):=by simp only[EZ];omega
theorem aB6{c:aA}(hc:CSz c)(hm:YC c.Module=true):M.Fq c=some (IA c):=by
 have hb:=lH (dh aN.sz c.Builtins) hc.aui;have e:=AQ (p:=Jj c) (F:=M.qE c.Builtins (c.Builtins.length:Int) c) (e:=c) (b:=false) c.Builtins (by omega) (fun f k hk=>by
  rw[M.qE];unfold Jj;simp only[getD_lt hk,avW hc.auh,avW hc.Kz,azM _ hc.mod hm,kE,bn,gZ,hk,eG,bQ,dY,jg,jc,dB hk (dO hb),jR,jY];cases (decide ((1:Int)<=(c.Builtins[k]).Kind)&&decide ((c.Builtins[k]).Kind<=3))
  ·simp
  ·cases (Ea c.bT (c.Builtins[k]).dE (c.Builtins[k]).fQ||((c.Builtins[k]).Kind==3&&Ea c.aj (c.Builtins[k]).dE (c.Builtins[k]).fQ))
   ·simp
   ·cases ha:P9 c.Module (c.Builtins[k]).Import with
    |none=>simp
    |some j=>
     have hj:j<c.Module.aj.length:=alP ha;simp only[getD_lt hj,hj,kE,bn,eG,Ad,NT,aoH,dY,jc,jg,gG,bQ,uY];cases ((c.Module.aj[j]).Params==1)<;>cases ((c.Module.aj[j]).Result==((c.Builtins[k]).Kind==3))<;>simp) (fun f=>by rw[M.qE];simp)
 unfold M.Fq IA;rw[e];cases c.Builtins.all (Jj c)
 ·simp
 ·simp only[Fh,aJ4,jg]
theorem aB7{c:aA}(hc:CSz c):M.CZ c=some (IA c):=by
 have hb:=lH (dh aN.sz c.Builtins) hc.aui;have hml:=Td hc.mod;have e:=AQ (p:=Jj c) (F:=M.nU c) (e:=()) (b:=false) c.Builtins (by omega) (fun f k hk=>by
  rw[M.nU];unfold Jj;simp only[getD_lt hk,aB5 hc.auh,aB5 hc.Kz,azK _ _ hml.1,kE,bn,gZ,hk,eG,bQ,dY,jg,jc,dB hk (dO hb),jR,jY];have eq0:(bif(c.Builtins[k]).Kind==3 then Ea c.bT (c.Builtins[k]).dE (c.Builtins[k]).fQ||Ea c.aj (c.Builtins[k]).dE (c.Builtins[k]).fQ else Ea c.bT (c.Builtins[k]).dE (c.Builtins[k]).fQ)=(Ea c.bT (c.Builtins[k]).dE (c.Builtins[k]).fQ||((c.Builtins[k]).Kind==3&&Ea c.aj (c.Builtins[k]).dE (c.Builtins[k]).fQ)):=by
   cases ((c.Builtins[k]).Kind==3)<;>simp
  rw[eq0];cases (decide ((1:Int)<=(c.Builtins[k]).Kind)&&decide ((c.Builtins[k]).Kind<=3))
  ·cases ((c.Builtins[k]).Kind==3)<;>simp
  ·cases (Ea c.bT (c.Builtins[k]).dE (c.Builtins[k]).fQ||((c.Builtins[k]).Kind==3&&Ea c.aj (c.Builtins[k]).dE (c.Builtins[k]).fQ))
   ·cases ((c.Builtins[k]).Kind==3)<;>simp
   ·cases ha:P9 c.Module (c.Builtins[k]).Import with
    |none=>cases ((c.Builtins[k]).Kind==3)<;>simp[ixO]
    |some j=>
     have hj:j<c.Module.aj.length:=alP ha;have e1:¬((j:Int)<0):=by omega
     have e0:decide ((j:Int)<0)=false:=by rw[AO];omega
     simp only[ixO,e0,getD_lt hj,hj,kE,bn,eG,Ad,NT,aoH,dY,jc,jg,gG,bQ,uY];cases ((c.Module.aj[j]).Params==1)<;>cases (c.Module.aj[j]).Result<;>cases ((c.Builtins[k]).Kind==3)<;>simp[e1]) (fun f=>by rw[M.nU];simp)
 unfold M.CZ IA;rw[e,aJ3];cases decide (c.Builtins.length<=12)
 ·rfl
 ·cases c.Builtins.all (Jj c)<;>rfl
theorem aEd{c:aA}(hc:CSz c):M.AU c=some (ajL c):=by
 have hlo:=lH (dh bF.sz c.dI) hc.aD7;have hbu:=lH (dh aN.sz c.Builtins) hc.aui;have e1:=aon (F:=M.mJ c.dI (c.dI.length:Int) c) (h:=fun out=>some (c,out)) (fun x:bF=>[x.Import]) c.dI hlo [] (fun f k out hk ho=>by
  rw[M.mJ];have hc:=aya (a:=out.length) (b:=1) (by rw[ho,NV];simp;omega);simp only[getD_lt hk,kE,bn,gZ,hk,eG,bQ,jA,qh,Ae,hc,dY,jg,dB hk (dO hlo)]) (fun f out=>by rw[M.mJ];simp)
 have e2:=aon (F:=M.mM c.Builtins (c.Builtins.length:Int) c) (h:=fun out=>some (c,out)) (fun x:aN=>[x.Import]) c.Builtins hbu (c.dI.map bF.Import) (fun f k out hk ho=>by
  rw[M.mM];have hc:=aya (a:=out.length) (b:=1) (by rw[ho,NV];simp;omega);simp only[getD_lt hk,kE,bn,gZ,hk,eG,bQ,jA,qh,Ae,hc,dY,jg,dB hk (dO hbu)]) (fun f out=>by rw[M.mM];simp)
 rw[NV,aAs]at e1;rw[NV]at e2;unfold M.AU;rw[e1];simp only[e2];have hd:=IB (c.dI.map bF.Import++c.Builtins.map aN.Import) (by
  simp only[zH,xE];have:=dh bF.sz c.dI;have:=dh aN.sz c.Builtins;have:=hc.both;omega)
 rw[hd];simp only[jR,jY,jg,bQ];unfold ajL wordsOf;congr 2;rw[KA];simp only[sD];omega
theorem Y0{α:Type}(g:α->List UInt8)(i:List UInt8):∀(l:List α)(n:Int),l.foldl (fun n x=>bif g x==i then n+1 else n) n=n+(((l.map g).count i:Nat):Int)
 |[],n=>by simp
 |x::r,n=>by
  rw[List.foldl_cons,Y0 g i r,YY,List.count_cons];cases (g x==i)<;>simp<;>omega
theorem aEe{c:aA}(hc:CSz c):M.NY c=some (aha c):=by
 have hlo:=lH (dh bF.sz c.dI) hc.aD7;have hbu:=lH (dh aN.sz c.Builtins) hc.aui;have him:=(Td hc.mod).1;have in0:∀(i:Nat)(hi:i<c.Module.aj.length),M.jB c (i:Int) az 0 0=some (c,(i:Int),(((c.dI.map bF.Import).count (c.Module.aj[i]).Name:Nat):Int)):=fun i hi=>by
  have e:=acP (F:=fun f k n=>M.jB c (i:Int) f n k) (g:=fun n (x:bF)=>bif x.Import==(c.Module.aj[i]).Name then n+1 else n) (h:=fun n=>(c,(i:Int),n)) c.dI (by omega) (fun k n=>0<=n/\n<=(k:Int)) (fun f k n hk hI=>by
   have hw:Go.IntKind.wrap .i64 (n+1)=n+1:=wrap_i64 (by omega) (by omega);refine⟨?_,by cases ((c.dI[k]).Import==(c.Module.aj[i]).Name)<;>simp<;>omega⟩
   show M.jB c (i:Int) (f+1) n (k:Int)=_
   rw[M.jB];simp only[getD_lt hk,getD_lt hi,kE,bn,gZ,hk,hi,eG,bQ,dY,jg,jc,pq,dB hk (dO hlo),hw]) (fun f n hI=>by
   show M.jB c (i:Int) (f+1) n (c.dI.length:Int)=_
   rw[M.jB];simp) 0 (by simp)
  have e':M.jB c (i:Int) az 0 0=_:=e;rw[e',Y0 bF.Import,Int.zero_add]
 have in1:∀(i:Nat)(hi:i<c.Module.aj.length)(m:Nat),m<=1048576->M.jC c (i:Int) az (m:Int) 0=some (c,(i:Int),(m:Int)+(((c.Builtins.map aN.Import).count (c.Module.aj[i]).Name:Nat):Int)):=fun i hi m hm=>by
  have e:=acP (F:=fun f k n=>M.jC c (i:Int) f n k) (g:=fun n (x:aN)=>bif x.Import==(c.Module.aj[i]).Name then n+1 else n) (h:=fun n=>(c,(i:Int),n)) c.Builtins (by omega) (fun k n=>0<=n/\n<=(m:Int)+(k:Int)) (fun f k n hk hI=>by
   have hw:Go.IntKind.wrap .i64 (n+1)=n+1:=wrap_i64 (by omega) (by omega);refine⟨?_,by cases ((c.Builtins[k]).Import==(c.Module.aj[i]).Name)<;>simp<;>omega⟩
   show M.jC c (i:Int) (f+1) n (k:Int)=_
   rw[M.jC];simp only[getD_lt hk,getD_lt hi,kE,bn,gZ,hk,hi,eG,bQ,dY,jg,jc,pq,dB hk (dO hbu),hw]) (fun f n hI=>by
   show M.jC c (i:Int) (f+1) n (c.Builtins.length:Int)=_
   rw[M.jC];simp) (m:Int) ⟨by omega,by simp⟩
  have e':M.jC c (i:Int) az (m:Int) 0=_:=e;rw[e',Y0 aN.Import]
 have e:=AQ (p:=fun x:aB=>(wordsOf c).count x.Name==1) (F:=fun f k=>M.lY f c k) (e:=()) (b:=false) c.Module.aj (by omega) (fun f k hk=>by
  show M.lY (f+1) c (k:Int)=_
  rw[M.lY];have hcnt:(c.dI.map bF.Import).count (c.Module.aj[k]).Name<=1048576:=lH List.count_le_length (by rw[xE];exact hlo);simp only[gZ,hk,eG,bQ,in0 k hk,in1 k hk _ hcnt,dB hk (dO him)];have eb:(((((c.dI.map bF.Import).count (c.Module.aj[k]).Name:Nat):Int)+(((c.Builtins.map aN.Import).count (c.Module.aj[k]).Name:Nat):Int)) !=1)= !((wordsOf c).count (c.Module.aj[k]).Name==1):=by
   unfold wordsOf;rw[List.count_append,uY,KA];simp only[EY,AP,ne_eq];omega
  rw[eb];cases ((wordsOf c).count (c.Module.aj[k]).Name==1)<;>rfl) (fun f=>by
  show M.lY (f+1) c (c.Module.aj.length:Int)=_
  rw[M.lY];simp)
 have e':M.lY az c 0=_:=e;unfold M.NY aha;rw[e',azG];have:(c.Module.aj.all ((fun i=>(wordsOf c).count i==1)∘aB.Name))=c.Module.aj.all fun x=>(wordsOf c).count x.Name==1:=rfl
 rw[this];cases c.Module.aj.all fun x=>(wordsOf c).count x.Name==1<;>rfl
end M
namespace M
open Go.V (inB yx az bU)
def aB8(c:aA):Bool:=decide ((1:Int)<=c.Encoding)&&decide (c.Encoding<=(3:Int))
def ayb(c:aA):Bool:=(decide ((0:Int)<=c.kY)&&decide (c.kY<=(1024:Int)))&& !decide (Go.IntKind.wrap Go.IntKind.i64 (c.Module.jI*256)<c.kY)
noncomputable def ayc(m:aK):Bool:=(avY m).2.2==0
theorem aoJ{m:aK}(h:ayc m=true):YC m=true:=by
 unfold ayc avY at h;cases hm:YC m
 ·rw[hm]at h;simp at h
 ·rfl
noncomputable def afL(c:aA):List UInt8:=
 bif !gJ c.Name then[110,97,109,101]
 else bif !Y1 c.Version then[118,101,114,115,105,111,110]
 else bif !uw c.aj then[105,109,112,111,114,116,115]
 else bif !uw c.bT then[101,120,112,111,114,116,115]
 else bif !aB8 c then[101,110,99,111,100,105,110,103]
 else bif !ayc c.Module then[109,111,100,117,108,101]
 else bif !ayb c then[114,101,115,101,114,118,101]
 else bif !afK c then[108,105,102,116,115]
 else bif !ad2 c then[108,111,119,101,114,115]
 else bif !IA c then[98,117,105,108,116,105,110,115]
 else bif !ajL c then[119,111,114,100,115]else[]
theorem aII(c:aA):((!(decide ((0:Int)<=c.kY)&&decide (c.kY<=(1024:Int))))||decide (Go.IntKind.wrap Go.IntKind.i64 (c.Module.jI*256)<c.kY))= !ayb c:=by
 unfold ayb;cases (decide ((0:Int)<=c.kY)&&decide (c.kY<=(1024:Int)))<;>cases decide (Go.IntKind.wrap Go.IntKind.i64 (c.Module.jI*256)<c.kY)<;>rfl
theorem aIJ(c:aA):(!(decide ((0:Int)<=c.kY)&&decide (c.kY<=(bif decide (Go.IntKind.wrap Go.IntKind.i64 (c.Module.jI*256)<(1024:Int))then Go.IntKind.wrap Go.IntKind.i64 (c.Module.jI*256)else(1024:Int)))))= !ayb c:=by
 unfold ayb;generalize Go.IntKind.wrap Go.IntKind.i64 (c.Module.jI*256)=w;congr 1;rw[KA];by_cases h:w<1024
 ·rw[ahb h];simp only[bQ,lS,jX,EY,AO];omega
 ·rw[ajQ h];simp only[gG,lS,jX,EY,AO];omega
theorem aEf{c:aA}(hc:CSz c):M.NZ c=some (afL c):=by
 unfold M.NZ afL;simp only[Jm _ hc.name,atd,azN _ hc.Kz,azN _ hc.auh,aIK _ hc.mod,jR,jY,jg,dY,pq,bQ,aII];cases gJ c.Name
 ·rfl
 cases Y1 c.Version
 ·rfl
 cases hI:uw c.aj
 ·rfl
 cases hE:uw c.bT
 ·rfl
 change(bif !aB8 c then _ else bif !ayc c.Module then _ else _)=_;cases aB8 c
 ·rfl
 cases hM:ayc c.Module
 ·rfl
 cases ayb c
 ·rfl
 simp only[aD8 hc hE,aHl hc hI,aB7 hc,aEe hc,jR,jY,jg,dY,pq,bQ,Ad,gG];cases afK c
 ·rfl
 cases hlo:ad2 c
 ·rfl
 cases hb:IA c
 ·rfl
 rw[ax8 (aoJ hM) hlo hb];cases aha c<;>rfl
theorem aEg{c:aA}(hc:CSz c):M.xH c=some (afL c):=by
 unfold M.xH afL;simp only[Jn _ hc.name,ate _ hc.ver,azO _ hc.Kz,azO _ hc.auh,aIL _ hc.mod,jR,jY,jg,dY,pq,bQ,aIJ];cases gJ c.Name
 ·rfl
 cases Y1 c.Version
 ·rfl
 cases hI:uw c.aj
 ·rfl
 cases hE:uw c.bT
 ·rfl
 change(bif !aB8 c then _ else bif !ayc c.Module then _ else _)=_;cases aB8 c
 ·rfl
 cases hM:ayc c.Module
 ·rfl
 cases ayb c
 ·rfl
 have hm:=aoJ hM;simp only[aD9 hc hE hm,aHm hc hI hm,aB6 hc hm,aEd hc,jR,jY,jg,dY,pq,bQ,Ad,gG];cases afK c
 ·rfl
 cases ad2 c
 ·rfl
 cases IA c
 ·rfl
 cases ajL c<;>rfl
theorem aIM{c:aA}(hc:CSz c):M.C9 c=some (afL c==[]):=by
 unfold M.C9;rw[aEf hc];rfl
theorem aIN{c:aA}(hc:CSz c):M.Dc c=some (afL c==[]):=by
 unfold M.Dc;rw[aEg hc];rfl
theorem aK.eta(m:aK):aK.mk m.jI m.aj m.bz=m:=rfl
theorem aA.eta(c:aA):aA.mk c.Name c.Version c.aj c.bT c.Encoding c.kY c.Module c.gW c.dI c.Builtins=c:=rfl
end M
