/-
  NAMES BOUND ONCE: names that are all among some distinct words are distinct and as many as these just where each word is met once.
-/
import Derived.Test.YtnkkcmdomlkdmaaGreatDoorXEplA
import Derived.Test.YtnkkcmdomlkdmaaGreatDoorXEFF
import Derived.Test.YtnkkcmdomlkdmaaGreatDoorXEMM
import Derived.Test.YtnkkcmdomlkdmaaGreatDoorXETP
set_option linter.unusedVariables false
namespace M
def jO(f:List UInt8->Nat):List (List UInt8)->Nat
 |[]=>0
 |i::r=>f i+jO f r
theorem UF(f g:List UInt8->Nat):∀l,jO (fun i=>f i+g i) l=jO f l+jO g l
 |[]=>rfl
 |i::r=>by simp only[jO,UF f g r];omega
theorem N1(f:List UInt8->Nat):∀l,(∀i∈l,f i=0)->jO f l=0
 |[],_=>rfl
 |i::r,h=>by simp only[jO,h i (by simp),N1 f r fun j hj=>h j (by simp[hj])]
theorem UG(f:List UInt8->Nat):∀l,(∀i∈l,f i=1)->jO f l=l.length
 |[],_=>rfl
 |i::r,h=>by simp only[jO,h i (by simp),UG f r fun j hj=>h j (by simp[hj]),aZ];omega
theorem UH(f:List UInt8->Nat):∀l,(∀i∈l,f i<=1)->jO f l<=l.length/\(jO f l=l.length->∀i∈l,f i=1)
 |[],_=>⟨eL _,fun _ i hi=>absurd hi (by simp)⟩
 |i::r,h=>by
  obtain⟨h1,h2⟩:=UH f r fun j hj=>h j (by simp[hj])
  have h3:=h i (by simp);simp only[jO,aZ];refine⟨by omega,fun e j hj=>?_⟩;rcases gz.1 hj with rfl|hj
  ·omega
  ·exact h2 (by omega) j hj
def hit(x i:List UInt8):Nat:=if x==i then 1 else 0
theorem UI(x:List UInt8):∀l:List (List UInt8),l.Nodup->x∈l->jO (hit x) l=1
 |[],_,h=>absurd h (by simp)
 |i::r,hn,hm=>by
  rw[QO]at hn;by_cases e:x=i
  ·subst e;have:jO (hit x) r=0:=N1 _ r fun j hj=>by
    unfold hit;rw[aw];simp only[hU];rintro rfl;exact hn.1 hj
   simp only[jO,this,hit,mA,fJ]
  ·have h1:x∈r:=by simpa [e]using hm
   have:=UI x r hn.2 h1;have h2:hit x i=0:=by unfold hit;rw[aw];simpa using e
   simp only[jO,this,h2]
theorem N2(x i:List UInt8)(r:List (List UInt8)):(x::r).count i=hit x i+r.count i:=by
 rw[List.count_cons];unfold hit;omega
theorem UJ:∀(names fC:List (List UInt8)),fC.Nodup->(∀x∈names,x∈fC)->jO (fun i=>names.count i) fC=names.length
 |[],fC,_,_=>by rw[N1 _ fC fun i _=>by simp];rfl
 |x::r,fC,hn,h=>by
  have e:(fun i=>(x::r).count i)=fun i=>hit x i+r.count i:=funext fun i=>N2 x i r
  rw[e,UF,UI x fC hn (h x (by simp)),UJ r fC hn fun y hy=>h y (by simp[hy]),aZ];omega
theorem UK:∀l:List (List UInt8),(∀x∈l,l.count x<=1)->l.Nodup
 |[],_=>List.nodup_nil
 |x::r,h=>by
  rw[QO];constructor
  ·intro hm;have h1:=h x (by simp);have h2:0<r.count x:=List.count_pos_iff.2 hm;rw[List.count_cons_self]at h1;omega
  ·exact UK r fun y hy=>by
    have:=h y (by simp[hy]);rw[N2]at this;omega
theorem UL:∀l:List (List UInt8),l.Nodup->∀x,l.count x<=1
 |[],_,x=>by simp
 |y::r,h,x=>by
  rw[QO]at h;rw[N2];by_cases e:y=x
  ·subst e;have:r.count y=0:=List.count_eq_zero.2 h.1;unfold hit;rw[cz (by simp)];omega
  ·have:=UL r h.2 x;unfold hit;rw[aw (by simpa using e)];omega
theorem aoY(names fC:List (List UInt8))(hn:fC.Nodup)(h:∀x∈names,x∈fC):
 (nodupB names&&(names.length==fC.length))=fC.all fun i=>names.count i==1:=by
 have hs:=UJ names fC hn h;rw[gv];simp only[bD,yD,hU,dr];constructor
 ·rintro ⟨h1,h2⟩
  have:=UH (fun i=>names.count i) fC fun i _=>UL names h1 i
  exact this.2 (by omega)
 ·intro h1;have h2:=UG (fun i=>names.count i) fC h1;refine⟨UK names fun x hx=>?_,by omega⟩;rw[h1 x (h x hx)];exact eL _
end M
namespace M
open Go.V (inB cJ af bU)
def pre{α β:Type}(ok:α->β->Bool):List α->List β->Bool
 |[],_=>true
 |_::_,[]=>false
 |w::ws,x::xs=>ok w x&&pre ok ws xs
theorem UM{α β:Type}(ok:α->β->Bool):∀(a b:List α)(l:List β),pre ok (a++b) l=(pre ok a l&&pre ok b (l.drop a.length))
 |[],b,l=>by simp[pre]
 |w::ws,b,[]=>by simp[pre]
 |w::ws,b,x::xs=>by simp only[jB,pre,UM ok ws b xs,aZ,List.drop_succ_cons,Bool.and_assoc]
theorem N3{α β:Type}(ok:α->β->Bool)(dw:α)(dl:β):∀(ws:List α)(ls:List β),ws.length=ls.length->((List.range ls.length).all fun k=>ok (ws.getD k dw) (ls.getD k dl))=pre ok ws ls
 |[],[],_=>rfl
 |[],_::_,h=>by simp at h
 |_::_,[],h=>by simp at h
 |w::ws,x::xs,h=>by
  have:=N3 ok dw dl ws xs (by simpa using h);rw[aZ,List.range_succ_eq_map,xC,pre,<-this,xq];rfl
theorem drop_cons{α:Type}{l:List α}{n:Nat}(h:n<l.length):l.drop n=l[n]::l.drop (n+1):=fa h
theorem UN{α β Y E:Type}(ok:α->β->Bool)(ws:List α)(ls:List β)(hw:ws.length<=1048576)(hl:ls.length<=1048576){F:Nat->Int->Int->Option (Y⊕E)}{b:Y}{fin:Int->E}
 (step:∀f k n,∀hk:k<ws.length,F (f+1) (k:Int) ((n:Nat):Int)=if h:n<ls.length then(if ok ws[k] ls[n]then F f ((k+1:Nat):Int) ((n+1:Nat):Int)else some (.inl b))else some (.inl b))
 (stop:∀f n,F (f+1) (ws.length:Int) n=some (.inr (fin n))) (n0:Nat):
 F af 0 (n0:Int)=some (if pre ok ws (ls.drop n0)then .inr (fin ((n0+ws.length:Nat):Int))else .inl b):=by
 have key:∀f k n,k<=ws.length->ws.length-k<f->F f (k:Int) ((n:Nat):Int)=some (if pre ok (ws.drop k) (ls.drop n)then .inr (fin ((n+(ws.length-k):Nat):Int))else .inl b):=by
  intro f
  induction f with
  |zero=>intro k n h1 h2;omega
  |succ f ih=>
   intro k n h1 h2;rcases cG k ws.length with hk|hk
   ·rw[step f k n hk,fa hk];by_cases hn:n<ls.length
    ·rw[dif_pos hn,drop_cons hn,ih (k+1) (n+1) (by omega) (by omega)];rw[show n+1+(ws.length-(k+1))=n+(ws.length-k) by omega];simp only[pre];by_cases ho:ok ws[k] ls[n]=true
     ·rw[cz ho];simp only[ho,az]
     ·rw[aw ho];simp only[ho,Ai];rfl
    ·rw[dif_neg hn,show ls.drop n=[]from List.drop_eq_nil_of_le (by omega)];rfl
   ·have:k=ws.length:=by omega
    subst this;rw[stop,eB,uo];simp[pre]
 have:=key af 0 n0 (cZ _) (by have:=bU;omega);simpa using this
theorem UO{α β Y E:Type}(ok:α->β->Bool)(lu:List (List α))(ls:List β)(hw:lu.length<=1048576){G:Nat->Int->Int->Option (Y⊕E)}{b:Y}{fin:Int->E}
 (step:∀f i n,∀hi:i<lu.length,G (f+1) (i:Int) ((n:Nat):Int)=if pre ok lu[i] (ls.drop n)then G f ((i+1:Nat):Int) ((n+lu[i].length:Nat):Int)else some (.inl b))
 (stop:∀f n,G (f+1) (lu.length:Int) n=some (.inr (fin n))):
 G af 0 0=some (if pre ok lu.flatten ls then .inr (fin ((lu.flatten.length:Nat):Int))else .inl b):=by
 have key:∀f i n,i<=lu.length->lu.length-i<f->G f (i:Int) ((n:Nat):Int)=some (if pre ok (lu.drop i).flatten (ls.drop n)then .inr (fin ((n+(lu.drop i).flatten.length:Nat):Int))else .inl b):=by
  intro f
  induction f with
  |zero=>intro i n h1 h2;omega
  |succ f ih=>
   intro i n h1 h2;rcases cG i lu.length with hi|hi
   ·rw[step f i n hi,fa hi,List.flatten_cons,UM,FO,ih (i+1) _ (by omega) (by omega),bq,<-kK];by_cases ho:pre ok lu[i] (ls.drop n)=true
    ·rw[cz ho];simp only[ho,az]
    ·rw[aw ho];simp only[ho,Ai];rfl
   ·have:i=lu.length:=by omega
    subst this;rw[stop,eB];simp[pre]
 have:=key af 0 0 (cZ _) (by have:=bU;omega);simpa using this
end M
set_option linter.unusedSimpArgs false
namespace M
open Go.V (inB cJ af bU)
def gA(f:ax):List cQ:=f.Funcs.map fun x=>cQ.mk (dH f) x.Name x.aF
def dV(l:List ax):List cQ:=(l.map gA).flatten
def vt(m:aN)(n:List UInt8):Option Nat:=m.aB.findIdx? fun c=>c.Name==n
def lv(m:aN)(n:List UInt8):Option Nat:=m.al.findIdx? fun c=>c.Name==n
def nf(m:aN)(w:cQ)(x:bF):Bool:=(x.aS==w.mB&&x.Func==w.name)&&(match vt m x.Core with
 |some j=>(m.aB.getD j av.zero).Params==(ir w.shape).1&&(m.aB.getD j av.zero).Result==(ir w.shape).2.1
 |none=>false)
def mC(m:aN)(w:cQ)(x:bC):Bool:=(x.aS==w.mB&&x.Func==w.name)&&(match lv m x.Import with
 |some j=>(m.al.getD j aO.zero).Params==(ir w.shape).1&&(m.al.getD j aO.zero).Result==(ir w.shape).2.1
 |none=>false)
def vu(c:aV):Bool:=pre (nf c.Module) (dV c.bR) c.bZ&&(dV c.bR).length==c.bZ.length
def pn(c:aV):Bool:=pre (mC c.Module) (dV c.al) c.bP&&(dV c.al).length==c.bP.length
def kL(l:List ax)(mB res:List UInt8):Bool:=match l.findIdx? (fun f=>dH f==mB)with
 |some j=>(l.getD j ax.zero).bK.any fun y=>y==res
 |none=>false
def qI(c:aV)(b:bu):Bool:=((decide (1<=b.Kind)&&decide (b.Kind<=3))&&(kL c.bR b.aS b.dG||(b.Kind==3&&kL c.al b.aS b.dG)))&&(match lv c.Module b.Import with
 |some j=>(c.Module.al.getD j aO.zero).Params==1&& !((c.Module.al.getD j aO.zero).Result==(b.Kind==3))
 |none=>false)
def l4(c:aV):Bool:=decide (c.Builtins.length<=12)&&c.Builtins.all (qI c)
def wordsOf(c:aV):List (List UInt8):=c.bP.map bC.Import++c.Builtins.map bu.Import
def yE(c:aV):Bool:=nodupB (wordsOf c)&&(wordsOf c).length==c.Module.al.length
def BV(c:aV):Bool:=(c.Module.al.map aO.Name).all fun i=>(wordsOf c).count i==1
theorem UP{α β:Type}{ok:α->β->Bool}:∀{ws:List α}{ls:List β},pre ok ws ls=true->ws.length=ls.length->∀x∈ls,∃w∈ws,ok w x=true
 |[],[],_,_,x,hx=>absurd hx (by simp)
 |[],_::_,_,h,_,_=>by simp at h
 |_::_,[],_,_,x,hx=>absurd hx (by simp)
 |w::ws,y::ys,h,hl,x,hx=>by
  simp only[pre,bD]at h;rcases gz.1 hx with rfl|hx
  ·exact⟨w,by simp,h.1⟩
  ·obtain⟨v,hv,e⟩:=UP h.2 (by simpa using hl) x hx;exact⟨v,by simp[hv],e⟩
theorem UQ{m:aN}{n:List UInt8}{j:Nat}(h:lv m n=some j):n∈m.al.map aO.Name:=by
 unfold lv at h;rw[List.findIdx?_eq_some_iff_getElem]at h;obtain⟨hj,h1,-⟩:=h;have e:(m.al[j]).Name=n:=by simpa using h1
 exact qh.2 ⟨m.al[j],bA hj,e⟩
theorem aoZ{c:aV}(h1:pn c=true)(h2:l4 c=true):∀x∈wordsOf c,x∈c.Module.al.map aO.Name:=by
 intro x hx;unfold wordsOf at hx;rcases dB.1 hx with hx|hx
 ·obtain⟨y,hy,rfl⟩:=qh.1 hx;unfold pn at h1;simp only[bD,hU]at h1;obtain⟨w,-,e⟩:=UP h1.1 h1.2 y hy;unfold mC at e;rw[bD]at e;cases ha:lv c.Module y.Import with
  |none=>rw[ha]at e;exact absurd e.2 (by simp)
  |some j=>exact UQ ha
 ·obtain⟨y,hy,rfl⟩:=qh.1 hx;unfold l4 at h2;simp only[bD,dr]at h2;have e:=h2.2 y hy;unfold qI at e;rw[bD]at e;cases ha:lv c.Module y.Import with
  |none=>rw[ha]at e;exact absurd e.2 (by simp)
  |some j=>exact UQ ha
theorem ao0{c:aV}(hm:gQ c.Module=true)(h1:pn c=true)(h2:l4 c=true):yE c=BV c:=by
 have hn:(c.Module.al.map aO.Name).Nodup:=by
  unfold gQ vo at hm;simp only[bD]at hm;exact(yD _).1 hm.2.2.1.1
 have:=aoY (wordsOf c) _ hn (aoZ h1 h2);unfold yE BV;rw[<-this,dC]
end M
namespace M
open Go.V (inB cJ af bU)
def l5(o:Option Nat):Int:=match o with
 |some j=>(j:Int)
 |none=> -1
theorem ao1(m:aN)(n:List UInt8)(h:m.aB.length<=1048576):M.BW m n=some (l5 (vt m n)):=by
 have e:=f5 (p:=fun c:av=>c.Name==n) (F:=M.vv n m) (e:=()) (fun k=>k) m.aB (by omega) (fun f k hk=>by
  rw[M.vv];simp only[getD_lt hk,bz,bn,bH,hk,bj,cr,az,aQ,bo hk (cu h)]) (fun f=>by rw[M.vv];simp)
 unfold M.BW vt l5;rw[e];cases m.aB.findIdx? fun c=>c.Name==n<;>rfl
theorem UR(m:aN)(n:List UInt8)(h:m.al.length<=1048576):M.vx m n=some (l5 (lv m n)):=by
 have e:=f5 (p:=fun c:aO=>c.Name==n) (F:=M.vy n m) (e:=()) (fun k=>k) m.al (by omega) (fun f k hk=>by
  rw[M.vy];simp only[getD_lt hk,bz,bn,bH,hk,bj,cr,az,aQ,bo hk (cu h)]) (fun f=>by rw[M.vy];simp)
 unfold M.vx lv l5;rw[e];cases m.al.findIdx? fun c=>c.Name==n<;>rfl
theorem sn{α:Type}{p:α->Bool}{l:List α}{j:Nat}(h:l.findIdx? p=some j):j<l.length:=by
 rw[List.findIdx?_eq_some_iff_getElem]at h;exact h.1
theorem ao2{f:ax}(h:jM f=true):∀x∈f.Funcs,ip x.aF=true:=by
 unfold jM at h;simp only[bD,dr]at h;intro x hx;have:=h.2.2.1 x hx;unfold mZ at this;simp only[bD]at this;exact this.1.2
theorem G7{l:List ax}(h:iq l=true):∀f∈l,∀x∈f.Funcs,ip x.aF=true:=by
 unfold iq at h;simp only[bD,dr]at h;intro f hf;have:=h.2.1 f hf;unfold m6 at this;rw[bD]at this;exact ao2 this.1
theorem qJ(f:ax):(gA f).length=f.Funcs.length:=by unfold gA;rw[dC]
theorem US(f:ax){k:Nat}(hk:k<(gA f).length):(gA f)[k]=cQ.mk (dH f) (f.Funcs[k]'(by rw[qJ]at hk;exact hk)).Name (f.Funcs[k]'(by rw[qJ]at hk;exact hk)).aF:=by
 simp only[gA,Mc]
structure iR (c:aV):Prop where
 name:c.Name.length<=1048576
 NZ:c.Version.length<=1048576
 fC:aK ax.sz c.al<=1048576
 lZ:aK ax.sz c.bR<=1048576
 mod:c.Module.sz<=1048576
 lifts:aK bF.sz c.bZ<=1048576
 yA:aK bC.sz c.bP<=1048576
 yB:aK bu.sz c.Builtins<=1048576
 both:aK bC.sz c.bP+aK bu.sz c.Builtins<=1048576
theorem iR.of{c:aV}(h:c.sz<=1048576):iR c:=by
 rw[aV.bI]at h;exact⟨by omega,by omega,by omega,by omega,by omega,by omega,by omega,by omega,by omega⟩
theorem yF{m:aN}(h:m.sz<=1048576):m.al.length<=1048576/\m.aB.length<=1048576:=by
 rw[aN.bI]at h;have:=bW aO.sz m.al;have:=bW av.sz m.aB;omega
theorem qK{l:List ax}(h:aK ax.sz l<=1048576){f:ax}(hf:f∈l):f.sz<=1048576/\f.Funcs.length<=1048576/\∀x∈f.Funcs,x.aF.sz<=1048576:=by
 have h1:=aC ax.sz l f hf;have h2:=ax.bI f;have h3:=bW aA.sz f.Funcs;refine⟨by omega,by omega,fun x hx=>?_⟩;have h4:=aC aA.sz f.Funcs x hx;have h5:=aA.bI x;omega
theorem G8(n m:Nat):decide (((m:Nat):Int)<=((n:Nat):Int))= !decide (n<m):=by
 rw[gv];simp only[fj,bw,cm];omega
theorem ao3{c:aV}(hc:iR c)(hE:iq c.bR=true){i:Nat}(hi:i<c.bR.length)(n0:Nat):
 M.po c (i:Int) af (n0:Int) 0=some (if pre (nf c.Module) (gA c.bR[i]) (c.bZ.drop n0)then .inr (c,((n0+(gA c.bR[i]).length:Nat):Int),(i:Int))else .inl false):=by
 have hfs:=qK hc.lZ (bA hi);have hL:=cq (bW bF.sz c.bZ) hc.lifts;have hm:=yF hc.mod;refine UN (nf c.Module) (gA c.bR[i]) c.bZ (by rw[qJ];exact hfs.2.1) hL (F:=fun f k n=>M.po c (i:Int) f n k) (b:=false) (fin:=fun n=>(c,n,(i:Int))) (fun f k n hk=>?_) (fun f n=>?_) n0
 ·show M.po c (i:Int) (f+1) ((n:Nat):Int) (k:Int)=_
  rw[M.po,US c.bR[i] hk];rw[qJ]at hk;have hx:=hfs.2.2 _ (bA hk);have hok:=G7 hE _ (bA hi) _ (bA hk);have hn:M.jP c.bR[i]=some (dH c.bR[i]):=BY _ hfs.1;have hs:=UT hx hok;by_cases hnl:n<c.bZ.length
  ·have hw:=bo hnl (cu hL);rw[dif_pos hnl];unfold nf;simp only[aJ.aj,getD_lt hi,getD_lt hk,getD_lt hnl,hn,hs,ao1 c.Module _ hm.2,G8,bz,bn,bH,hk,hi,hnl,bj,cr,eH,nN,az,aQ,cg,hw,bo hk (cu hfs.2.1),aR,aT];cases (c.bZ[n].aS==dH c.bR[i])
   ·simp
   ·cases (c.bZ[n].Func==c.bR[i].Funcs[k].Name)
    ·simp
    ·cases ha:vt c.Module c.bZ[n].Core with
     |none=>simp[l5]
     |some j=>
      have hj:j<c.Module.aB.length:=sn ha;have e1:¬((j:Int)<0):=by omega
      have e0:decide ((j:Int)<0)=false:=by rw[cm];omega
      simp only[l5,e0,getD_lt hj,hj,bz,bn,bj,eH,nN,kJ,az,cg,aQ,ef,lx];cases (c.Module.aB[j].Params==(ir c.bR[i].Funcs[k].aF).1)<;>cases (c.Module.aB[j].Result==(ir c.bR[i].Funcs[k].aF).2.1)<;>simp[e1]
  ·rw[dif_neg hnl];simp only[aJ.aj,getD_lt hi,getD_lt hk,hn,G8,bz,bn,bH,hk,hi,hnl,bj,m9,cr,eH,rq,nN,az,aQ,cg,sf,aR,aT];simp
 ·show M.po c (i:Int) (f+1) n (((gA c.bR[i]).length:Nat):Int)=_
  rw[M.po,qJ];simp only[getD_lt hi,bz,bn,hi,bj];simp
theorem ao4{c:aV}(hc:iR c)(hE:iq c.bR=true):M.BZ c=some (vu c):=by
 have hx:=cq (bW ax.sz c.bR) hc.lZ;have e:=UO (nf c.Module) (c.bR.map gA) c.bZ (by rw[dC];exact hx) (G:=fun f i n=>M.pq f c n i) (b:=false) (fin:=fun n=>(c,n)) (fun f i n hi=>by
  rw[dC]at hi
  show M.pq (f+1) c ((n:Nat):Int) (i:Int)=_
  rw[M.pq,ao3 hc hE hi,Mc];simp only[bH,hi,bj,cr];cases pre (nf c.Module) (gA c.bR[i]) (c.bZ.drop n)
  ·rfl
  ·simp only[fJ,bo hi (cu hx)]) (fun f n=>by
  show M.pq (f+1) c n (((c.bR.map gA).length:Nat):Int)=_
  rw[M.pq,dC];simp)
 have e':M.pq af c 0 0=_:=e;unfold M.BZ;rw[e'];unfold vu dV;cases pre (nf c.Module) (c.bR.map gA).flatten c.bZ
 ·rfl
 ·simp only[fJ,az];congr 1;rw[gv,hU,hU];omega
theorem ao5{c:aV}(hc:iR c)(hE:iq c.al=true){i:Nat}(hi:i<c.al.length)(n0:Nat):
 M.pt c (i:Int) af (n0:Int) 0=some (if pre (mC c.Module) (gA c.al[i]) (c.bP.drop n0)then .inr (c,((n0+(gA c.al[i]).length:Nat):Int),(i:Int))else .inl false):=by
 have hfs:=qK hc.fC (bA hi);have hL:=cq (bW bC.sz c.bP) hc.yA;have hm:=yF hc.mod;refine UN (mC c.Module) (gA c.al[i]) c.bP (by rw[qJ];exact hfs.2.1) hL (F:=fun f k n=>M.pt c (i:Int) f n k) (b:=false) (fin:=fun n=>(c,n,(i:Int))) (fun f k n hk=>?_) (fun f n=>?_) n0
 ·show M.pt c (i:Int) (f+1) ((n:Nat):Int) (k:Int)=_
  rw[M.pt,US c.al[i] hk];rw[qJ]at hk;have hx:=hfs.2.2 _ (bA hk);have hok:=G7 hE _ (bA hi) _ (bA hk);have hn:M.jP c.al[i]=some (dH c.al[i]):=BY _ hfs.1;have hs:=UT hx hok;by_cases hnl:n<c.bP.length
  ·have hw:=bo hnl (cu hL);rw[dif_pos hnl];unfold mC;simp only[aJ.aj,getD_lt hi,getD_lt hk,getD_lt hnl,hn,hs,UR c.Module _ hm.1,G8,bz,bn,bH,hk,hi,hnl,bj,cr,eH,nN,az,aQ,cg,hw,bo hk (cu hfs.2.1),aR,aT];cases (c.bP[n].aS==dH c.al[i])
   ·simp
   ·cases (c.bP[n].Func==c.al[i].Funcs[k].Name)
    ·simp
    ·cases ha:lv c.Module c.bP[n].Import with
     |none=>simp[l5]
     |some j=>
      have hj:j<c.Module.al.length:=sn ha;have e1:¬((j:Int)<0):=by omega
      have e0:decide ((j:Int)<0)=false:=by rw[cm];omega
      simp only[l5,e0,getD_lt hj,hj,bz,bn,bj,eH,nN,kJ,az,cg,aQ,ef,lx];cases (c.Module.al[j].Params==(ir c.al[i].Funcs[k].aF).1)<;>cases (c.Module.al[j].Result==(ir c.al[i].Funcs[k].aF).2.1)<;>simp[e1]
  ·rw[dif_neg hnl];simp only[aJ.aj,getD_lt hi,getD_lt hk,hn,G8,bz,bn,bH,hk,hi,hnl,bj,m9,cr,eH,rq,nN,az,aQ,cg,sf,aR,aT];simp
 ·show M.pt c (i:Int) (f+1) n (((gA c.al[i]).length:Nat):Int)=_
  rw[M.pt,qJ];simp only[getD_lt hi,bz,bn,hi,bj];simp
theorem ao6{c:aV}(hc:iR c)(hE:iq c.al=true):M.B0 c=some (pn c):=by
 have hx:=cq (bW ax.sz c.al) hc.fC;have e:=UO (mC c.Module) (c.al.map gA) c.bP (by rw[dC];exact hx) (G:=fun f i n=>M.pv f c n i) (b:=false) (fin:=fun n=>(c,n)) (fun f i n hi=>by
  rw[dC]at hi
  show M.pv (f+1) c ((n:Nat):Int) (i:Int)=_
  rw[M.pv,ao5 hc hE hi,Mc];simp only[bH,hi,bj,cr];cases pre (mC c.Module) (gA c.al[i]) (c.bP.drop n)
  ·rfl
  ·simp only[fJ,bo hi (cu hx)]) (fun f n=>by
  show M.pv (f+1) c n (((c.al.map gA).length:Nat):Int)=_
  rw[M.pv,dC];simp)
 have e':M.pv af c 0 0=_:=e;unfold M.B0;rw[e'];unfold pn dV;cases pre (mC c.Module) (c.al.map gA).flatten c.bP
 ·rfl
 ·simp only[fJ,az];congr 1;rw[gv,hU,hU];omega
end M
namespace M
open Go.V (inB cJ af bU)
theorem N4{a b:Nat}(h:a+b<=1073741824):decide (a+b<=1073741824)=true:=by rw[bw];exact h
theorem ao7{m:aN}(n:List UInt8)(h:m.sz<=1048576)(hm:gQ m=true):M.B1 m n=some (match vt m n with
 |some j=>((j:Int),true)
 |none=>(0,false)):=by
 have hl:=yF h;have e:=f5 (p:=fun c:av=>c.Name==n) (F:=M.vz m.aB n (m.aB.length:Int)) (e:=()) (fun k=>k) m.aB (by omega) (fun f k hk=>by
  rw[M.vz];simp only[getD_lt hk,bz,bn,bH,hk,bj,cr,az,aQ,bo hk (cu hl.2)]) (fun f=>by rw[M.vz];simp)
 unfold M.B1 M.G9 vt;rw[e,GZ m h,hm];cases m.aB.findIdx? fun c=>c.Name==n with
 |none=>rfl
 |some j=>
  have e0:decide ((j:Int)<0)=false:=by rw[cm];omega
  simp only[aR,aT,e0,eH,nN,cg,ef,cr,bJ,az,aQ]
theorem UU{m:aN}(n:List UInt8)(h:m.sz<=1048576)(hm:gQ m=true):M.vA m n=some (match lv m n with
 |some j=>((j:Int),true)
 |none=>(0,false)):=by
 have hl:=yF h;have e:=f5 (p:=fun c:aO=>c.Name==n) (F:=M.vB m.al n (m.al.length:Int)) (e:=()) (fun k=>k) m.al (by omega) (fun f k hk=>by
  rw[M.vB];simp only[getD_lt hk,bz,bn,bH,hk,bj,cr,az,aQ,bo hk (cu hl.1)]) (fun f=>by rw[M.vB];simp)
 unfold M.vA M.Ha lv;rw[e,GZ m h,hm];cases m.al.findIdx? fun c=>c.Name==n with
 |none=>rfl
 |some j=>
  have e0:decide ((j:Int)<0)=false:=by rw[cm];omega
  simp only[aR,aT,e0,eH,nN,cg,ef,cr,bJ,az,aQ]
theorem He{α β Y:Type}{F:Nat->Int->List β->Option Y}{h:List β->Option Y}(g:α->List β)(l:List α)(hn:l.length<=1048576)(mD:List β)
 (step:∀f k out,∀hk:k<l.length,out=mD++((l.take k).map g).flatten->F (f+1) (k:Int) out=F f ((k+1:Nat):Int) (out++g l[k]))
 (stop:∀f out,F (f+1) (l.length:Int) out=h out):F af 0 mD=h (mD++(l.map g).flatten):=by
 have key:∀f k out,k<=l.length->l.length-k<f->out=mD++((l.take k).map g).flatten->F f (k:Int) out=h (mD++(l.map g).flatten):=by
  intro f
  induction f with
  |zero=>intro k out h1 h2;omega
  |succ f ih=>
   intro k out h1 h2 ho;rcases cG k l.length with hk|hk
   ·rw[step f k out hk ho,ih (k+1) _ (by omega) (by omega)];rw[ho,l6,bG hk,Option.toList_some,xx,List.flatten_append,ib];simp
   ·have:k=l.length:=by omega
    subst this;rw[stop,ho,Aa]
 exact key af 0 mD (cZ _) (by have:=bU;omega) (by simp)
theorem vC{α β:Type}(g:α->β):∀l:List α,(l.map fun x=>[g x]).flatten=l.map g
 |[]=>rfl
 |x::r=>by simp only[fB,List.flatten_cons,vC g r,List.singleton_append]
theorem UW:∀l:List ax,(dV l).length<=aK ax.sz l
 |[]=>eL _
 |f::r=>by
  have h1:=UW r;have h2:=ax.bI f;have h3:=bW aA.sz f.Funcs;unfold dV at*;simp only[fB,List.flatten_cons,bq,qJ,aK];omega
theorem take_len(l:List ax)(k:Nat):(((l.take k).map gA).flatten).length<=aK ax.sz l:=by
 have h1:(dV (l.take k)).length<=aK ax.sz (l.take k):=UW _;have h2:∀(l:List ax)(k:Nat),aK ax.sz (l.take k)<=aK ax.sz l:=fun l=>by
  induction l with
  |nil=>intro k;simp[aK]
  |cons x r ih=>intro k;cases k with
   |zero=>simp[aK]
   |succ k=>have:=ih k;simp only[List.take_succ_cons,aK];omega
 exact cq h1 (h2 l k)
theorem ao8(f:ax)(k:Nat):((f.Funcs.take k).map fun x=>[cQ.mk (dH f) x.Name x.aF]).flatten.length<=f.Funcs.length:=by
 rw[vC];simp;omega
theorem UX(l:List ax)(h:aK ax.sz l<=1048576):M.vD l=some (dV l):=by
 have hl:=cq (bW ax.sz l) h;have inner:∀(a:List ax)(b c:Int)(f:ax)(mD:List cQ),f∈l->mD.length<=1048576->M.so a b c f.Funcs (f.Funcs.length:Int) f af 0 mD=some (a,b,c,mD++gA f):=fun a b c f mD hf ho=>by
  have hfs:=qK h hf;have hn:M.mE f=some (dH f):=N5 f hfs.1;have e:=He (F:=M.so a b c f.Funcs (f.Funcs.length:Int) f) (h:=fun out=>some (a,b,c,out)) (fun x=>[cQ.mk (dH f) x.Name x.aF]) f.Funcs hfs.2.1 mD (fun g k out hk ho'=>by
   rw[M.so];have ht:=ao8 f k;have hc:=N4 (a:=out.length) (b:=1) (by rw[ho',bq];omega);simp only[aJ.aj,getD_lt hk,hn,bz,bn,bH,hk,bj,cr,aZ,bS,gV,hc,az,aQ,bo hk (cu hfs.2.1),aR,aT]) (fun g out=>by rw[M.so];simp)
  rw[e,vC];rfl
 have e:=He (F:=fun g k out=>M.pw g l (l.length:Int) k out) (h:=fun out=>some out) gA l hl [] (fun g k out hk ho=>by
  show M.pw (g+1) l (l.length:Int) (k:Int) out=_
  rw[M.pw];have ht:=take_len l k;have hin:=inner l (l.length:Int) (k:Int) l[k] out (bA hk) (by rw[ho];simp only[jb];omega);simp only[getD_lt hk,hin,bz,bn,bH,hk,bj,cr,az,aQ,bo hk (cu hl)]) (fun g out=>by
  show M.pw (g+1) l (l.length:Int) (l.length:Int) out=_
  rw[M.pw];simp)
 have e':M.pw af l (l.length:Int) 0 []=_:=e;unfold M.vD;rw[e'];rfl
theorem UY{l:List ax}{w:cQ}(h:w∈dV l):∃f∈l,∃x∈f.Funcs,w=cQ.mk (dH f) x.Name x.aF:=by
 unfold dV at h;obtain⟨q,hq,hw⟩:=List.mem_flatten.1 h;obtain⟨f,hf,rfl⟩:=qh.1 hq;obtain⟨x,hx,rfl⟩:=qh.1 hw;exact⟨f,hf,x,hx,rfl⟩
theorem ao9{c:aV}(hc:iR c)(hE:iq c.bR=true)(hm:gQ c.Module=true):M.B2 c=some (vu c):=by
 have hL:=cq (bW bF.sz c.bZ) hc.lifts;have hb:=UX c.bR hc.lZ;unfold M.B2;rw[hb];simp only[aR,aT,aQ,cr];unfold vu;by_cases hlen:(dV c.bR).length=c.bZ.length
 ·have e:=l7 (p:=fun k=>nf c.Module ((dV c.bR).getD k cQ.zero) (c.bZ.getD k bF.zero)) (F:=M.vE (dV c.bR) c.bZ (c.bZ.length:Int) c) (e:=()) (b:=false) c.bZ.length (by omega) (fun f k hk=>by
   have hk':k<(dV c.bR).length:=by omega
   rw[M.vE];obtain⟨fc,hfc,x,hx,hw⟩:=UY (bA hk');have hsh:M.px (dV c.bR)[k].shape=some ((ir (dV c.bR)[k].shape).1,(ir (dV c.bR)[k].shape).2.1):=by
    have hok:=G7 hE fc hfc x hx;have hs:=(qK hc.lZ hfc).2.2 x hx;rw[hw];exact UZ hs hok
   unfold nf;simp only[aJ.aj,getD_lt hk,getD_lt hk',ao7 _ hc.mod hm,hsh,bz,bn,bH,hk,hk',bj,cr,az,aQ,cg,bo hk (cu hL),aR,aT];cases (c.bZ[k].aS==(dV c.bR)[k].mB)
   ·simp
   ·cases (c.bZ[k].Func==(dV c.bR)[k].name)
    ·simp
    ·cases ha:vt c.Module c.bZ[k].Core with
     |none=>simp
     |some j=>
      have hj:j<c.Module.aB.length:=sn ha;simp only[getD_lt hj,hj,bz,bn,bj,eH,nN,kJ,az,cg,aQ,ef,cr,lx];cases (c.Module.aB[j].Params==(ir (dV c.bR)[k].shape).1)<;>cases (c.Module.aB[j].Result==(ir (dV c.bR)[k].shape).2.1)<;>simp) (fun f=>by rw[M.vE];simp)
  rw[N3 (nf c.Module) cQ.zero bF.zero _ _ hlen]at e;rw[e,hlen];simp only[bne_self_eq_false,ef,mA,aQ];cases pre (nf c.Module) (dV c.bR) c.bZ<;>rfl
 ·have h1:(((c.bZ.length:Nat):Int) !=(((dV c.bR).length:Nat):Int))=true:=by rw[qj];omega
  have h2:((dV c.bR).length==c.bZ.length)=false:=by rw[d6];exact hlen
  rw[h1,h2];simp
theorem apa{c:aV}(hc:iR c)(hE:iq c.al=true)(hm:gQ c.Module=true):M.B5 c=some (pn c):=by
 have hL:=cq (bW bC.sz c.bP) hc.yA;have hb:=UX c.al hc.fC;unfold M.B5;rw[hb];simp only[aR,aT,aQ,cr];unfold pn;by_cases hlen:(dV c.al).length=c.bP.length
 ·have e:=l7 (p:=fun k=>mC c.Module ((dV c.al).getD k cQ.zero) (c.bP.getD k bC.zero)) (F:=M.vF (dV c.al) c.bP (c.bP.length:Int) c) (e:=()) (b:=false) c.bP.length (by omega) (fun f k hk=>by
   have hk':k<(dV c.al).length:=by omega
   rw[M.vF];obtain⟨fc,hfc,x,hx,hw⟩:=UY (bA hk');have hsh:M.px (dV c.al)[k].shape=some ((ir (dV c.al)[k].shape).1,(ir (dV c.al)[k].shape).2.1):=by
    have hok:=G7 hE fc hfc x hx;have hs:=(qK hc.fC hfc).2.2 x hx;rw[hw];exact UZ hs hok
   unfold mC;simp only[aJ.aj,getD_lt hk,getD_lt hk',UU _ hc.mod hm,hsh,bz,bn,bH,hk,hk',bj,cr,az,aQ,cg,bo hk (cu hL),aR,aT];cases (c.bP[k].aS==(dV c.al)[k].mB)
   ·simp
   ·cases (c.bP[k].Func==(dV c.al)[k].name)
    ·simp
    ·cases ha:lv c.Module c.bP[k].Import with
     |none=>simp
     |some j=>
      have hj:j<c.Module.al.length:=sn ha;simp only[getD_lt hj,hj,bz,bn,bj,eH,nN,kJ,az,cg,aQ,ef,cr,lx];cases (c.Module.al[j].Params==(ir (dV c.al)[k].shape).1)<;>cases (c.Module.al[j].Result==(ir (dV c.al)[k].shape).2.1)<;>simp) (fun f=>by rw[M.vF];simp)
  rw[N3 (mC c.Module) cQ.zero bC.zero _ _ hlen]at e;rw[e,hlen];simp only[bne_self_eq_false,ef,mA,aQ];cases pre (mC c.Module) (dV c.al) c.bP<;>rfl
 ·have h1:(((c.bP.length:Nat):Int) !=(((dV c.al).length:Nat):Int))=true:=by rw[qj];omega
  have h2:((dV c.al).length==c.bP.length)=false:=by rw[d6];exact hlen
  rw[h1,h2];simp
end M
namespace M
open Go.V (inB cJ af bU)
theorem apb(l:List (List UInt8))(v:List UInt8):(l.any fun y=>v==y)=l.any fun y=>y==v:=by
 congr 1;funext y;rw[gv];simp only[hU];exact eq_comm
theorem apc{l:List ax}(h:aK ax.sz l<=1048576)(n:List UInt8):M.B6 l n=some (match l.findIdx? (fun f=>dH f==n)with
 |some j=>(l.getD j ax.zero,true)
 |none=>(ax.mk [] [] [] [] [],false)):=by
 have hl:=cq (bW ax.sz l) h;have e:=f5 (p:=fun f:ax=>dH f==n) (F:=M.vG n l (l.length:Int) [] [] [] [] []) (e:=([],[],[],[],[])) (fun k=>(true,l.getD k.toNat ax.zero)) l (by omega) (fun f k hk=>by
  rw[M.vG];have hn:M.mE l[k]=some (dH l[k]):=N5 _ (qK h (bA hk)).1;simp only[getD_lt hk,hn,bz,bn,bH,hk,bj,cr,az,aQ,bo hk (cu hl),aR,aT]) (fun f=>by rw[M.vG];simp)
 unfold M.B6;rw[e];cases l.findIdx? fun f=>dH f==n with
 |none=>rfl
 |some j=>simp only[bz]
theorem U0{l:List ax}(h:aK ax.sz l<=1048576)(n r:List UInt8):M.yH l n r=some (kL l n r):=by
 have hl:=cq (bW ax.sz l) h;unfold M.yH kL;rw[apc h n];cases hj:l.findIdx? fun f=>dH f==n with
 |none=>
  have e:M.sq [] r=some false:=N6 [] r (by simp);simp[e]
 |some j=>
  have hlt:j<l.length:=sn hj;have hs:(l[j]).bK.length<=1048576:=by
   have h1:=(qK h (bA hlt)).1;rw[ax.bI]at h1;have:=bW List.length (l[j]).bK;omega
  simp only[getD_lt hlt,N6 _ r hs,apb,aR,aT,cg,az,aQ,cr]
theorem apd{l:List ax}(h:aK ax.sz l<=1048576)(n:List UInt8):M.B7 l n=some (l5 (l.findIdx? fun f=>dH f==n)):=by
 have hl:=cq (bW ax.sz l) h;have e:=f5 (p:=fun f:ax=>dH f==n) (F:=M.vH l n) (e:=()) (fun k=>k) l (by omega) (fun f k hk=>by
  rw[M.vH];have hn:M.jP l[k]=some (dH l[k]):=BY _ (qK h (bA hk)).1;simp only[getD_lt hk,hn,bz,bn,bH,hk,bj,cr,az,aQ,bo hk (cu hl),aR,aT]) (fun f=>by rw[M.vH];simp)
 unfold M.B7 l5;rw[e];cases l.findIdx? fun f=>dH f==n<;>rfl
theorem ape{α E:Type}{p:α->Bool}{F:Nat->Int->Option (Bool⊕E)}{e:E}(a:List α)(ha:a.length<2^62)
 (step:∀f k,∀h:k<a.length,F (f+1) (k:Int)=bif p a[k]then some (.inl true)else F f ((k+1:Nat):Int)) (stop:∀f,F (f+1) (a.length:Int)=some (.inr e)):
 F af 0=some (if a.any p then .inl true else .inr e):=by
 have:=B8 (F:=F) (n:=a.length) (res:=fun k=>some (if(a.drop k).any p then .inl true else .inr e)) ha (fun f k hk ih=>by
  rw[step f k hk,ih,U1 p hk];cases p a[k]<;>simp) (fun f=>by rw[stop,eB];rfl)
 simpa using this
theorem U2{l:List ax}(h:aK ax.sz l<=1048576)(n r:List UInt8):M.yI l n r=some (kL l n r):=by
 have hl:=cq (bW ax.sz l) h;unfold M.yI kL;rw[apd h n];cases hj:l.findIdx? fun f=>dH f==n with
 |none=>rfl
 |some j=>
  have hlt:j<l.length:=sn hj;have hs:(l[j]).bK.length<=1048576:=by
   have h1:=(qK h (bA hlt)).1;rw[ax.bI]at h1;have:=bW List.length (l[j]).bK;omega
  have e0:decide ((j:Int)<0)=false:=by rw[cm];omega
  have e:=ape (p:=fun y=>y==r) (F:=M.vI l r (j:Int)) (e:=()) (l[j]).bK (by omega) (fun f k hk=>by
   rw[M.vI];simp only[getD_lt hlt,getD_lt hk,bz,bn,bH,hk,hlt,bj,cr,az,aQ,bo hk (cu hs)]) (fun f=>by
   rw[M.vI];simp only[getD_lt hlt,bz,bn,hlt,bj];simp)
  simp only[l5,aR,e0,ef,e,getD_lt hlt,aT,aQ,cr];cases (l[j]).bK.any fun y=>y==r<;>rfl
theorem apf(n:Nat):decide ((12:Int)<((n:Nat):Int))= !decide (n<=12):=Hg n 12
theorem apg(n:Nat):decide (((n:Nat):Int)<=12)=decide (n<=12):=by simp only[ka];omega
theorem aph{c:aV}(hc:iR c)(hm:gQ c.Module=true):M.B9 c=some (l4 c):=by
 have hb:=cq (bW bu.sz c.Builtins) hc.yB;have e:=ng (p:=qI c) (F:=M.vJ c.Builtins (c.Builtins.length:Int) c) (e:=c) (b:=false) c.Builtins (by omega) (fun f k hk=>by
  rw[M.vJ];unfold qI;simp only[getD_lt hk,U0 hc.lZ,U0 hc.fC,UU _ hc.mod hm,bz,bn,bH,hk,bj,cr,az,aQ,cg,bo hk (cu hb),aR,aT];cases (decide ((1:Int)<=(c.Builtins[k]).Kind)&&decide ((c.Builtins[k]).Kind<=3))
  ·simp
  ·cases (kL c.bR (c.Builtins[k]).aS (c.Builtins[k]).dG||((c.Builtins[k]).Kind==3&&kL c.al (c.Builtins[k]).aS (c.Builtins[k]).dG))
   ·simp
   ·cases ha:lv c.Module (c.Builtins[k]).Import with
    |none=>simp
    |some j=>
     have hj:j<c.Module.al.length:=sn ha;simp only[getD_lt hj,hj,bz,bn,bj,eH,nN,kJ,az,cg,aQ,ef,cr,lx];cases ((c.Module.al[j]).Params==1)<;>cases ((c.Module.al[j]).Result==((c.Builtins[k]).Kind==3))<;>simp) (fun f=>by rw[M.vJ];simp)
 unfold M.B9 l4;rw[e];cases c.Builtins.all (qI c)
 ·simp
 ·simp only[fJ,apg,aQ]
theorem api{c:aV}(hc:iR c):M.Cb c=some (l4 c):=by
 have hb:=cq (bW bu.sz c.Builtins) hc.yB;have hml:=yF hc.mod;have e:=ng (p:=qI c) (F:=M.vK c) (e:=()) (b:=false) c.Builtins (by omega) (fun f k hk=>by
  rw[M.vK];unfold qI;simp only[getD_lt hk,U2 hc.lZ,U2 hc.fC,UR _ _ hml.1,bz,bn,bH,hk,bj,cr,az,aQ,cg,bo hk (cu hb),aR,aT];have eq0:(bif(c.Builtins[k]).Kind==3 then kL c.bR (c.Builtins[k]).aS (c.Builtins[k]).dG||kL c.al (c.Builtins[k]).aS (c.Builtins[k]).dG else kL c.bR (c.Builtins[k]).aS (c.Builtins[k]).dG)=(kL c.bR (c.Builtins[k]).aS (c.Builtins[k]).dG||((c.Builtins[k]).Kind==3&&kL c.al (c.Builtins[k]).aS (c.Builtins[k]).dG)):=by
   cases ((c.Builtins[k]).Kind==3)<;>simp
  rw[eq0];cases (decide ((1:Int)<=(c.Builtins[k]).Kind)&&decide ((c.Builtins[k]).Kind<=3))
  ·cases ((c.Builtins[k]).Kind==3)<;>simp
  ·cases (kL c.bR (c.Builtins[k]).aS (c.Builtins[k]).dG||((c.Builtins[k]).Kind==3&&kL c.al (c.Builtins[k]).aS (c.Builtins[k]).dG))
   ·cases ((c.Builtins[k]).Kind==3)<;>simp
   ·cases ha:lv c.Module (c.Builtins[k]).Import with
    |none=>cases ((c.Builtins[k]).Kind==3)<;>simp[l5]
    |some j=>
     have hj:j<c.Module.al.length:=sn ha;have e1:¬((j:Int)<0):=by omega
     have e0:decide ((j:Int)<0)=false:=by rw[cm];omega
     simp only[l5,e0,getD_lt hj,hj,bz,bn,bj,eH,nN,kJ,az,cg,aQ,ef,cr,lx];cases ((c.Module.al[j]).Params==1)<;>cases (c.Module.al[j]).Result<;>cases ((c.Builtins[k]).Kind==3)<;>simp[e1]) (fun f=>by rw[M.vK];simp)
 unfold M.Cb l4;rw[e,apf];cases decide (c.Builtins.length<=12)
 ·rfl
 ·cases c.Builtins.all (qI c)<;>rfl
theorem apk{c:aV}(hc:iR c):M.Cc c=some (yE c):=by
 have hlo:=cq (bW bC.sz c.bP) hc.yA;have hbu:=cq (bW bu.sz c.Builtins) hc.yB;have e1:=He (F:=M.vL c.bP (c.bP.length:Int) c) (h:=fun out=>some (c,out)) (fun x:bC=>[x.Import]) c.bP hlo [] (fun f k out hk ho=>by
  rw[M.vL];have hc:=N4 (a:=out.length) (b:=1) (by rw[ho,vC];simp;omega);simp only[getD_lt hk,bz,bn,bH,hk,bj,cr,aZ,bS,gV,hc,az,aQ,bo hk (cu hlo)]) (fun f out=>by rw[M.vL];simp)
 have e2:=He (F:=M.vM c.Builtins (c.Builtins.length:Int) c) (h:=fun out=>some (c,out)) (fun x:bu=>[x.Import]) c.Builtins hbu (c.bP.map bC.Import) (fun f k out hk ho=>by
  rw[M.vM];have hc:=N4 (a:=out.length) (b:=1) (by rw[ho,vC];simp;omega);simp only[getD_lt hk,bz,bn,bH,hk,bj,cr,aZ,bS,gV,hc,az,aQ,bo hk (cu hbu)]) (fun f out=>by rw[M.vM];simp)
 rw[vC,jb]at e1;rw[vC]at e2;unfold M.Cc;rw[e1];simp only[e2];have hd:=Hh (c.bP.map bC.Import++c.Builtins.map bu.Import) (by
  simp only[bq,dC];have:=bW bC.sz c.bP;have:=bW bu.sz c.Builtins;have:=hc.both;omega)
 rw[hd];simp only[aR,aT,aQ,cr];unfold yE wordsOf;congr 2;rw[gv];simp only[hU];omega
theorem N7{α:Type}(g:α->List UInt8)(i:List UInt8):∀(l:List α)(n:Int),l.foldl (fun n x=>bif g x==i then n+1 else n) n=n+(((l.map g).count i:Nat):Int)
 |[],n=>by simp
 |x::r,n=>by
  rw[List.foldl_cons,N7 g i r,fB,List.count_cons];cases (g x==i)<;>simp<;>omega
theorem apl{c:aV}(hc:iR c):M.Cd c=some (BV c):=by
 have hlo:=cq (bW bC.sz c.bP) hc.yA;have hbu:=cq (bW bu.sz c.Builtins) hc.yB;have him:=(yF hc.mod).1;have in0:∀(i:Nat)(hi:i<c.Module.al.length),M.nj c (i:Int) af 0 0=some (c,(i:Int),(((c.bP.map bC.Import).count (c.Module.al[i]).Name:Nat):Int)):=fun i hi=>by
  have e:=NJ (F:=fun f k n=>M.nj c (i:Int) f n k) (g:=fun n (x:bC)=>bif x.Import==(c.Module.al[i]).Name then n+1 else n) (h:=fun n=>(c,(i:Int),n)) c.bP (by omega) (fun k n=>0<=n/\n<=(k:Int)) (fun f k n hk hI=>by
   have hw:Go.IntKind.wrap .i64 (n+1)=n+1:=wrap_i64 (by omega) (by omega);refine⟨?_,by cases ((c.bP[k]).Import==(c.Module.al[i]).Name)<;>simp<;>omega⟩
   show M.nj c (i:Int) (f+1) n (k:Int)=_
   rw[M.nj];simp only[getD_lt hk,getD_lt hi,bz,bn,bH,hk,hi,bj,cr,az,aQ,cg,bJ,bo hk (cu hlo),hw]) (fun f n hI=>by
   show M.nj c (i:Int) (f+1) n (c.bP.length:Int)=_
   rw[M.nj];simp) 0 (by simp)
  have e':M.nj c (i:Int) af 0 0=_:=e;rw[e',N7 bC.Import,Int.zero_add]
 have in1:∀(i:Nat)(hi:i<c.Module.al.length)(m:Nat),m<=1048576->M.nk c (i:Int) af (m:Int) 0=some (c,(i:Int),(m:Int)+(((c.Builtins.map bu.Import).count (c.Module.al[i]).Name:Nat):Int)):=fun i hi m hm=>by
  have e:=NJ (F:=fun f k n=>M.nk c (i:Int) f n k) (g:=fun n (x:bu)=>bif x.Import==(c.Module.al[i]).Name then n+1 else n) (h:=fun n=>(c,(i:Int),n)) c.Builtins (by omega) (fun k n=>0<=n/\n<=(m:Int)+(k:Int)) (fun f k n hk hI=>by
   have hw:Go.IntKind.wrap .i64 (n+1)=n+1:=wrap_i64 (by omega) (by omega);refine⟨?_,by cases ((c.Builtins[k]).Import==(c.Module.al[i]).Name)<;>simp<;>omega⟩
   show M.nk c (i:Int) (f+1) n (k:Int)=_
   rw[M.nk];simp only[getD_lt hk,getD_lt hi,bz,bn,bH,hk,hi,bj,cr,az,aQ,cg,bJ,bo hk (cu hbu),hw]) (fun f n hI=>by
   show M.nk c (i:Int) (f+1) n (c.Builtins.length:Int)=_
   rw[M.nk];simp) (m:Int) ⟨by omega,by simp⟩
  have e':M.nk c (i:Int) af (m:Int) 0=_:=e;rw[e',N7 bu.Import]
 have e:=ng (p:=fun x:aO=>(wordsOf c).count x.Name==1) (F:=fun f k=>M.py f c k) (e:=()) (b:=false) c.Module.al (by omega) (fun f k hk=>by
  show M.py (f+1) c (k:Int)=_
  rw[M.py];have hcnt:(c.bP.map bC.Import).count (c.Module.al[k]).Name<=1048576:=cq List.count_le_length (by rw[dC];exact hlo);simp only[bH,hk,bj,cr,in0 k hk,in1 k hk _ hcnt,bo hk (cu him)];have eb:(((((c.bP.map bC.Import).count (c.Module.al[k]).Name:Nat):Int)+(((c.Builtins.map bu.Import).count (c.Module.al[k]).Name:Nat):Int)) !=1)= !((wordsOf c).count (c.Module.al[k]).Name==1):=by
   unfold wordsOf;rw[List.count_append,lx,gv];simp only[fj,d6,ne_eq];omega
  rw[eb];cases ((wordsOf c).count (c.Module.al[k]).Name==1)<;>rfl) (fun f=>by
  show M.py (f+1) c (c.Module.al.length:Int)=_
  rw[M.py];simp)
 have e':M.py af c 0=_:=e;unfold M.Cd BV;rw[e',xq];have:(c.Module.al.all ((fun i=>(wordsOf c).count i==1)∘aO.Name))=c.Module.al.all fun x=>(wordsOf c).count x.Name==1:=rfl
 rw[this];cases c.Module.al.all fun x=>(wordsOf c).count x.Name==1<;>rfl
end M
namespace M
open Go.V (inB cJ af bU)
def si(c:aV):Bool:=decide ((1:Int)<=c.Encoding)&&decide (c.Encoding<=(3:Int))
def oS(c:aV):Bool:=(decide ((0:Int)<=c.fk)&&decide (c.fk<=(1024:Int)))&& !decide (Go.IntKind.wrap Go.IntKind.i64 (c.Module.cU*256)<c.fk)
noncomputable def vN(m:aN):Bool:=(sr m).2.2==0
theorem NW{m:aN}(h:vN m=true):gQ m=true:=by
 unfold vN sr at h;cases hm:gQ m
 ·rw[hm]at h;simp at h
 ·rfl
noncomputable def qH(c:aV):List UInt8:=
 bif !dj c.Name then[110,97,109,101]
 else bif !nq c.Version then[118,101,114,115,105,111,110]
 else bif !iq c.al then[105,109,112,111,114,116,115]
 else bif !iq c.bR then[101,120,112,111,114,116,115]
 else bif !si c then[101,110,99,111,100,105,110,103]
 else bif !vN c.Module then[109,111,100,117,108,101]
 else bif !oS c then[114,101,115,101,114,118,101]
 else bif !vu c then[108,105,102,116,115]
 else bif !pn c then[108,111,119,101,114,115]
 else bif !l4 c then[98,117,105,108,116,105,110,115]
 else bif !yE c then[119,111,114,100,115]else[]
theorem apn(c:aV):((!(decide ((0:Int)<=c.fk)&&decide (c.fk<=(1024:Int))))||decide (Go.IntKind.wrap Go.IntKind.i64 (c.Module.cU*256)<c.fk))= !oS c:=by
 unfold oS;cases (decide ((0:Int)<=c.fk)&&decide (c.fk<=(1024:Int)))<;>cases decide (Go.IntKind.wrap Go.IntKind.i64 (c.Module.cU*256)<c.fk)<;>rfl
theorem apo(c:aV):(!(decide ((0:Int)<=c.fk)&&decide (c.fk<=(bif decide (Go.IntKind.wrap Go.IntKind.i64 (c.Module.cU*256)<(1024:Int))then Go.IntKind.wrap Go.IntKind.i64 (c.Module.cU*256)else(1024:Int)))))= !oS c:=by
 unfold oS;generalize Go.IntKind.wrap Go.IntKind.i64 (c.Module.cU*256)=w;congr 1;rw[gv];by_cases h:w<1024
 ·rw[du h];simp only[cr,bD,bw,fj,cm];omega
 ·rw[eD h];simp only[ef,bD,bw,fj,cm];omega
theorem apq{c:aV}(hc:iR c):M.Ce c=some (qH c):=by
 unfold M.Ce qH;simp only[su _ hc.name,U3,U4 _ hc.fC,U4 _ hc.lZ,apr _ hc.mod,aR,aT,aQ,az,bJ,cr,apn];cases dj c.Name
 ·rfl
 cases nq c.Version
 ·rfl
 cases hI:iq c.al
 ·rfl
 cases hE:iq c.bR
 ·rfl
 change(bif !si c then _ else bif !vN c.Module then _ else _)=_;cases si c
 ·rfl
 cases hM:vN c.Module
 ·rfl
 cases oS c
 ·rfl
 simp only[ao4 hc hE,ao6 hc hI,api hc,apl hc,aR,aT,aQ,az,bJ,cr,eH,ef];cases vu c
 ·rfl
 cases hlo:pn c
 ·rfl
 cases hb:l4 c
 ·rfl
 rw[ao0 (NW hM) hlo hb];cases BV c<;>rfl
theorem aps{c:aV}(hc:iR c):M.Cf c=some (qH c):=by
 unfold M.Cf qH;simp only[sw _ hc.name,U5 _ hc.NZ,U6 _ hc.fC,U6 _ hc.lZ,apt _ hc.mod,aR,aT,aQ,az,bJ,cr,apo];cases dj c.Name
 ·rfl
 cases nq c.Version
 ·rfl
 cases hI:iq c.al
 ·rfl
 cases hE:iq c.bR
 ·rfl
 change(bif !si c then _ else bif !vN c.Module then _ else _)=_;cases si c
 ·rfl
 cases hM:vN c.Module
 ·rfl
 cases oS c
 ·rfl
 have hm:=NW hM;simp only[ao9 hc hE hm,apa hc hI hm,aph hc hm,apk hc,aR,aT,aQ,az,bJ,cr,eH,ef];cases vu c
 ·rfl
 cases pn c
 ·rfl
 cases l4 c
 ·rfl
 cases yE c<;>rfl
theorem UE{c:aV}(hc:iR c):M.Ci c=some (qH c==[]):=by
 unfold M.Ci;rw[apq hc];rfl
theorem UD{c:aV}(hc:iR c):M.Cj c=some (qH c==[]):=by
 unfold M.Cj;rw[aps hc];rfl
theorem aN.eta(m:aN):aN.mk m.cU m.al m.aB=m:=rfl
theorem aV.eta(c:aV):aV.mk c.Name c.Version c.al c.bR c.Encoding c.fk c.Module c.bZ c.bP c.Builtins=c:=rfl
end M
