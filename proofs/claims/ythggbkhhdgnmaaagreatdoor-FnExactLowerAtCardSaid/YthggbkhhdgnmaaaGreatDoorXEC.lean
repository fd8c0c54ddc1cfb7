/-
  NAMES BOUND ONCE: names that are all among some distinct words are distinct and as many as these just where each word is met once.
-/
import Derived.Test.YthggbkhhdgnmaaaGreatDoorXEpl3
import Derived.Test.YthggbkhhdgnmaaaGreatDoorXEpl4
import Derived.Test.YthggbkhhdgnmaaaGreatDoorXEFF
import Derived.Test.YthggbkhhdgnmaaaGreatDoorXEMM
import Derived.Test.YthggbkhhdgnmaaaGreatDoorXETP
set_option linter.unusedVariables false
namespace M
def jn(f:List UInt8->Nat):List (List UInt8)->Nat
 |[]=>0
 |i::r=>f i+jn f r
theorem RD(f g:List UInt8->Nat):∀l,jn (fun i=>f i+g i) l=jn f l+jn g l
 |[]=>rfl
 |i::r=>by simp only[jn,RD f g r];omega
theorem LD(f:List UInt8->Nat):∀l,(∀i∈l,f i=0)->jn f l=0
 |[],_=>rfl
 |i::r,h=>by simp only[jn,h i (by simp),LD f r fun j hj=>h j (by simp[hj])]
theorem RE(f:List UInt8->Nat):∀l,(∀i∈l,f i=1)->jn f l=l.length
 |[],_=>rfl
 |i::r,h=>by simp only[jn,h i (by simp),RE f r fun j hj=>h j (by simp[hj]),cD];omega
theorem RF(f:List UInt8->Nat):∀l,(∀i∈l,f i<=1)->jn f l<=l.length/\(jn f l=l.length->∀i∈l,f i=1)
 |[],_=>⟨cr _,fun _ i hi=>absurd hi (by simp)⟩
 |i::r,h=>by
  obtain⟨h1,h2⟩:=RF f r fun j hj=>h j (by simp[hj])
  have h3:=h i (by simp);simp only[jn,cD];refine⟨by omega,fun e j hj=>?_⟩;rcases eH.1 hj with rfl|hj
  ·omega
  ·exact h2 (by omega) j hj
def hit(x i:List UInt8):Nat:=if x==i then 1 else 0
theorem RG(x:List UInt8):∀l:List (List UInt8),l.Nodup->x∈l->jn (hit x) l=1
 |[],_,h=>absurd h (by simp)
 |i::r,hn,hm=>by
  rw[qZ]at hn;by_cases e:x=i
  ·subst e;have:jn (hit x) r=0:=LD _ r fun j hj=>by
    unfold hit;rw[ax];simp only[dx];rintro rfl;exact hn.1 hj
   simp only[jn,this,hit,js,pt]
  ·have h1:x∈r:=by simpa [e]using hm
   have:=RG x r hn.2 h1;have h2:hit x i=0:=by unfold hit;rw[ax];simpa using e
   simp only[jn,this,h2]
theorem LF(x i:List UInt8)(r:List (List UInt8)):(x::r).count i=hit x i+r.count i:=by
 rw[List.count_cons];unfold hit;omega
theorem RH:∀(names gi:List (List UInt8)),gi.Nodup->(∀x∈names,x∈gi)->jn (fun i=>names.count i) gi=names.length
 |[],gi,_,_=>by rw[LD _ gi fun i _=>by simp];rfl
 |x::r,gi,hn,h=>by
  have e:(fun i=>(x::r).count i)=fun i=>hit x i+r.count i:=funext fun i=>LF x i r
  rw[e,RD,RG x gi hn (h x (by simp)),RH r gi hn fun y hy=>h y (by simp[hy]),cD];omega
theorem RJ:∀l:List (List UInt8),(∀x∈l,l.count x<=1)->l.Nodup
 |[],_=>List.nodup_nil
 |x::r,h=>by
  rw[qZ];constructor
  ·intro hm;have h1:=h x (by simp);have h2:0<r.count x:=List.count_pos_iff.2 hm;rw[List.count_cons_self]at h1;omega
  ·exact RJ r fun y hy=>by
    have:=h y (by simp[hy]);rw[LF]at this;omega
theorem RL:∀l:List (List UInt8),l.Nodup->∀x,l.count x<=1
 |[],_,x=>by simp
 |y::r,h,x=>by
  rw[qZ]at h;rw[LF];by_cases e:y=x
  ·subst e;have:r.count y=0:=List.count_eq_zero.2 h.1;unfold hit;rw[aF (by simp)];omega
  ·have:=RL r h.2 x;unfold hit;rw[ax (by simpa using e)];omega
theorem alW(names gi:List (List UInt8))(hn:gi.Nodup)(h:∀x∈names,x∈gi):
 (nodupB names&&(names.length==gi.length))=gi.all fun i=>names.count i==1:=by
 have hs:=RH names gi hn h;rw[gj];simp only[bJ,xt,dx,ee];constructor
 ·rintro ⟨h1,h2⟩
  have:=RF (fun i=>names.count i) gi fun i _=>RL names h1 i
  exact this.2 (by omega)
 ·intro h1;have h2:=RE (fun i=>names.count i) gi h1;refine⟨RJ names fun x hx=>?_,by omega⟩;rw[h1 x (h x hx)];exact cr _
end M
namespace M
open Go.V (inB cA ae bS)
def pre{α β:Type}(ok:α->β->Bool):List α->List β->Bool
 |[],_=>true
 |_::_,[]=>false
 |w::ws,x::xs=>ok w x&&pre ok ws xs
theorem RN{α β:Type}(ok:α->β->Bool):∀(a b:List α)(l:List β),pre ok (a++b) l=(pre ok a l&&pre ok b (l.drop a.length))
 |[],b,l=>by simp[pre]
 |w::ws,b,[]=>by simp[pre]
 |w::ws,b,x::xs=>by simp only[mM,pre,RN ok ws b xs,cD,List.drop_succ_cons,Bool.and_assoc]
theorem LG{α β:Type}(ok:α->β->Bool)(dw:α)(dl:β):∀(ws:List α)(ls:List β),ws.length=ls.length->((List.range ls.length).all fun k=>ok (ws.getD k dw) (ls.getD k dl))=pre ok ws ls
 |[],[],_=>rfl
 |[],_::_,h=>by simp at h
 |_::_,[],h=>by simp at h
 |w::ws,x::xs,h=>by
  have:=LG ok dw dl ws xs (by simpa using h);rw[cD,List.range_succ_eq_map,kD,pre,<-this,Fh];rfl
theorem drop_cons{α:Type}{l:List α}{n:Nat}(h:n<l.length):l.drop n=l[n]::l.drop (n+1):=eD h
theorem RO{α β Y E:Type}(ok:α->β->Bool)(ws:List α)(ls:List β)(hw:ws.length<=1048576)(hl:ls.length<=1048576){F:Nat->Int->Int->Option (Y⊕E)}{b:Y}{fin:Int->E}
 (step:∀f k n,∀hk:k<ws.length,F (f+1) (k:Int) ((n:Nat):Int)=if h:n<ls.length then(if ok ws[k] ls[n]then F f ((k+1:Nat):Int) ((n+1:Nat):Int)else some (.inl b))else some (.inl b))
 (stop:∀f n,F (f+1) (ws.length:Int) n=some (.inr (fin n))) (n0:Nat):
 F ae 0 (n0:Int)=some (if pre ok ws (ls.drop n0)then .inr (fin ((n0+ws.length:Nat):Int))else .inl b):=by
 have key:∀f k n,k<=ws.length->ws.length-k<f->F f (k:Int) ((n:Nat):Int)=some (if pre ok (ws.drop k) (ls.drop n)then .inr (fin ((n+(ws.length-k):Nat):Int))else .inl b):=by
  intro f
  induction f with
  |zero=>intro k n h1 h2;omega
  |succ f ih=>
   intro k n h1 h2;rcases cJ k ws.length with hk|hk
   ·rw[step f k n hk,eD hk];by_cases hn:n<ls.length
    ·rw[dif_pos hn,drop_cons hn,ih (k+1) (n+1) (by omega) (by omega)];rw[show n+1+(ws.length-(k+1))=n+(ws.length-k) by omega];simp only[pre];by_cases ho:ok ws[k] ls[n]=true
     ·rw[aF ho];simp only[ho,bj]
     ·rw[ax ho];simp only[ho,rf];rfl
    ·rw[dif_neg hn,show ls.drop n=[]from List.drop_eq_nil_of_le (by omega)];rfl
   ·have:k=ws.length:=by omega
    subst this;rw[stop,gG,nQ];simp[pre]
 have:=key ae 0 n0 (cU _) (by have:=bS;omega);simpa using this
theorem RP{α β Y E:Type}(ok:α->β->Bool)(kE:List (List α))(ls:List β)(hw:kE.length<=1048576){G:Nat->Int->Int->Option (Y⊕E)}{b:Y}{fin:Int->E}
 (step:∀f i n,∀hi:i<kE.length,G (f+1) (i:Int) ((n:Nat):Int)=if pre ok kE[i] (ls.drop n)then G f ((i+1:Nat):Int) ((n+kE[i].length:Nat):Int)else some (.inl b))
 (stop:∀f n,G (f+1) (kE.length:Int) n=some (.inr (fin n))):
 G ae 0 0=some (if pre ok kE.flatten ls then .inr (fin ((kE.flatten.length:Nat):Int))else .inl b):=by
 have key:∀f i n,i<=kE.length->kE.length-i<f->G f (i:Int) ((n:Nat):Int)=some (if pre ok (kE.drop i).flatten (ls.drop n)then .inr (fin ((n+(kE.drop i).flatten.length:Nat):Int))else .inl b):=by
  intro f
  induction f with
  |zero=>intro i n h1 h2;omega
  |succ f ih=>
   intro i n h1 h2;rcases cJ i kE.length with hi|hi
   ·rw[step f i n hi,eD hi,List.flatten_cons,RN,Fj,ih (i+1) _ (by omega) (by omega),ek,<-ny];by_cases ho:pre ok kE[i] (ls.drop n)=true
    ·rw[aF ho];simp only[ho,bj]
    ·rw[ax ho];simp only[ho,rf];rfl
   ·have:i=kE.length:=by omega
    subst this;rw[stop,gG];simp[pre]
 have:=key ae 0 0 (cU _) (by have:=bS;omega);simpa using this
end M
set_option linter.unusedSimpArgs false
namespace M
open Go.V (inB cA ae bS)
def gk(f:ar):List cO:=f.Funcs.map fun x=>cO.mk (di f) x.Name x.aI
def dT(l:List ar):List cO:=(l.map gk).flatten
def ud(m:aR)(n:List UInt8):Option Nat:=m.aP.findIdx? fun c=>c.Name==n
def kF(m:aR)(n:List UInt8):Option Nat:=m.ay.findIdx? fun c=>c.Name==n
def mb(m:aR)(w:cO)(x:bk):Bool:=(x.aQ==w.eY&&x.Func==w.name)&&(match ud m x.Core with
 |some j=>(m.aP.getD j aw.zero).Params==(g9 w.shape).1&&(m.aP.getD j aw.zero).Result==(g9 w.shape).2.1
 |none=>false)
def mc(m:aR)(w:cO)(x:bh):Bool:=(x.aQ==w.eY&&x.Func==w.name)&&(match kF m x.Import with
 |some j=>(m.ay.getD j aM.zero).Params==(g9 w.shape).1&&(m.ay.getD j aM.zero).Result==(g9 w.shape).2.1
 |none=>false)
def mN(c:aX):Bool:=pre (mb c.Module) (dT c.bP) c.bV&&(dT c.bP).length==c.bV.length
def md(c:aX):Bool:=pre (mc c.Module) (dT c.ay) c.cg&&(dT c.ay).length==c.cg.length
def jY(l:List ar)(eY res:List UInt8):Bool:=match l.findIdx? (fun f=>di f==eY)with
 |some j=>(l.getD j ar.zero).bQ.any fun y=>y==res
 |none=>false
def rh(c:aX)(b:bg):Bool:=((decide (1<=b.Kind)&&decide (b.Kind<=3))&&(jY c.bP b.aQ b.eu||(b.Kind==3&&jY c.ay b.aQ b.eu)))&&(match kF c.Module b.Import with
 |some j=>(c.Module.ay.getD j aM.zero).Params==1&& !((c.Module.ay.getD j aM.zero).Result==(b.Kind==3))
 |none=>false)
def nR(c:aX):Bool:=decide (c.Builtins.length<=12)&&c.Builtins.all (rh c)
def wordsOf(c:aX):List (List UInt8):=c.cg.map bh.Import++c.Builtins.map bg.Import
def xu(c:aX):Bool:=nodupB (wordsOf c)&&(wordsOf c).length==c.Module.ay.length
def zZ(c:aX):Bool:=(c.Module.ay.map aM.Name).all fun i=>(wordsOf c).count i==1
theorem LH{α β:Type}{ok:α->β->Bool}:∀{ws:List α}{ls:List β},pre ok ws ls=true->ws.length=ls.length->∀x∈ls,∃w∈ws,ok w x=true
 |[],[],_,_,x,hx=>absurd hx (by simp)
 |[],_::_,_,h,_,_=>by simp at h
 |_::_,[],_,_,x,hx=>absurd hx (by simp)
 |w::ws,y::ys,h,hl,x,hx=>by
  simp only[pre,bJ]at h;rcases eH.1 hx with rfl|hx
  ·exact⟨w,by simp,h.1⟩
  ·obtain⟨v,hv,e⟩:=LH h.2 (by simpa using hl) x hx;exact⟨v,by simp[hv],e⟩
theorem RQ{m:aR}{n:List UInt8}{j:Nat}(h:kF m n=some j):n∈m.ay.map aM.Name:=by
 unfold kF at h;rw[List.findIdx?_eq_some_iff_getElem]at h;obtain⟨hj,h1,-⟩:=h;have e:(m.ay[j]).Name=n:=by simpa using h1
 exact kG.2 ⟨m.ay[j],bK hj,e⟩
theorem alX{c:aX}(h1:md c=true)(h2:nR c=true):∀x∈wordsOf c,x∈c.Module.ay.map aM.Name:=by
 intro x hx;unfold wordsOf at hx;rcases dy.1 hx with hx|hx
 ·obtain⟨y,hy,rfl⟩:=kG.1 hx;unfold md at h1;simp only[bJ,dx]at h1;obtain⟨w,-,e⟩:=LH h1.1 h1.2 y hy;unfold mc at e;rw[bJ]at e;cases ha:kF c.Module y.Import with
  |none=>rw[ha]at e;exact absurd e.2 (by simp)
  |some j=>exact RQ ha
 ·obtain⟨y,hy,rfl⟩:=kG.1 hx;unfold nR at h2;simp only[bJ,ee]at h2;have e:=h2.2 y hy;unfold rh at e;rw[bJ]at e;cases ha:kF c.Module y.Import with
  |none=>rw[ha]at e;exact absurd e.2 (by simp)
  |some j=>exact RQ ha
theorem alY{c:aX}(hm:iS c.Module=true)(h1:md c=true)(h2:nR c=true):xu c=zZ c:=by
 have hn:(c.Module.ay.map aM.Name).Nodup:=by
  unfold iS xw at hm;simp only[bJ]at hm;exact(xt _).1 hm.2.2.1.1
 have:=alW (wordsOf c) _ hn (alX h1 h2);unfold xu zZ;rw[<-this,dY]
end M
namespace M
open Go.V (inB cA ae bS)
def iT(o:Option Nat):Int:=match o with
 |some j=>(j:Int)
 |none=> -1
theorem alZ(m:aR)(n:List UInt8)(h:m.aP.length<=1048576):M.Aa m n=some (iT (ud m n)):=by
 have e:=ft (p:=fun c:aw=>c.Name==n) (F:=M.ue n m) (e:=()) (fun k=>k) m.aP (by omega) (fun f k hk=>by
  rw[M.ue];simp only[getD_lt hk,bn,bz,bU,hk,bD,aG,bj,aS,bE hk (cu h)]) (fun f=>by rw[M.ue];simp)
 unfold M.Aa ud iT;rw[e];cases m.aP.findIdx? fun c=>c.Name==n<;>rfl
theorem RR(m:aR)(n:List UInt8)(h:m.ay.length<=1048576):M.uf m n=some (iT (kF m n)):=by
 have e:=ft (p:=fun c:aM=>c.Name==n) (F:=M.ug n m) (e:=()) (fun k=>k) m.ay (by omega) (fun f k hk=>by
  rw[M.ug];simp only[getD_lt hk,bn,bz,bU,hk,bD,aG,bj,aS,bE hk (cu h)]) (fun f=>by rw[M.ug];simp)
 unfold M.uf kF iT;rw[e];cases m.ay.findIdx? fun c=>c.Name==n<;>rfl
theorem kH{α:Type}{p:α->Bool}{l:List α}{j:Nat}(h:l.findIdx? p=some j):j<l.length:=by
 rw[List.findIdx?_eq_some_iff_getElem]at h;exact h.1
theorem al0{f:ar}(h:nS f=true):∀x∈f.Funcs,jq x.aI=true:=by
 unfold nS at h;simp only[bJ,ee]at h;intro x hx;have:=h.2.2.1 x hx;unfold nU at this;simp only[bJ]at this;exact this.1.2
theorem Fo{l:List ar}(h:fO l=true):∀f∈l,∀x∈f.Funcs,jq x.aI=true:=by
 unfold fO at h;simp only[bJ,ee]at h;intro f hf;have:=h.2.1 f hf;unfold nV at this;rw[bJ]at this;exact al0 this.1
theorem pM(f:ar):(gk f).length=f.Funcs.length:=by unfold gk;rw[dY]
theorem RU(f:ar){k:Nat}(hk:k<(gk f).length):(gk f)[k]=cO.mk (di f) (f.Funcs[k]'(by rw[pM]at hk;exact hk)).Name (f.Funcs[k]'(by rw[pM]at hk;exact hk)).aI:=by
 simp only[gk,Ab]
structure hC (c:aX):Prop where
 name:c.Name.length<=1048576
 ver:c.Version.length<=1048576
 gi:aB ar.sz c.ay<=1048576
 lA:aB ar.sz c.bP<=1048576
 mod:c.Module.sz<=1048576
 lifts:aB bk.sz c.bV<=1048576
 Fp:aB bh.sz c.cg<=1048576
 Fq:aB bg.sz c.Builtins<=1048576
 both:aB bh.sz c.cg+aB bg.sz c.Builtins<=1048576
theorem hC.of{c:aX}(h:c.sz<=1048576):hC c:=by
 rw[aX.bL]at h;exact⟨by omega,by omega,by omega,by omega,by omega,by omega,by omega,by omega,by omega⟩
theorem xx{m:aR}(h:m.sz<=1048576):m.ay.length<=1048576/\m.aP.length<=1048576:=by
 rw[aR.bL]at h;have:=bW aM.sz m.ay;have:=bW aw.sz m.aP;omega
theorem me{l:List ar}(h:aB ar.sz l<=1048576){f:ar}(hf:f∈l):f.sz<=1048576/\f.Funcs.length<=1048576/\∀x∈f.Funcs,x.aI.sz<=1048576:=by
 have h1:=da ar.sz l f hf;have h2:=ar.bL f;have h3:=bW aD.sz f.Funcs;refine⟨by omega,by omega,fun x hx=>?_⟩;have h4:=da aD.sz f.Funcs x hx;have h5:=aD.bL x;omega
theorem Ft(n m:Nat):decide (((m:Nat):Int)<=((n:Nat):Int))= !decide (n<m):=by
 rw[gj];simp only[fk,bu,ew];omega
theorem al2{c:aX}(hc:hC c)(hE:fO c.bP=true){i:Nat}(hi:i<c.bP.length)(n0:Nat):
 M.nW c (i:Int) ae (n0:Int) 0=some (if pre (mb c.Module) (gk c.bP[i]) (c.bV.drop n0)then .inr (c,((n0+(gk c.bP[i]).length:Nat):Int),(i:Int))else .inl false):=by
 have hfs:=me hc.lA (bK hi);have hL:=cN (bW bk.sz c.bV) hc.lifts;have hm:=xx hc.mod;refine RO (mb c.Module) (gk c.bP[i]) c.bV (by rw[pM];exact hfs.2.1) hL (F:=fun f k n=>M.nW c (i:Int) f n k) (b:=false) (fin:=fun n=>(c,n,(i:Int))) (fun f k n hk=>?_) (fun f n=>?_) n0
 ·show M.nW c (i:Int) (f+1) ((n:Nat):Int) (k:Int)=_
  rw[M.nW,RU c.bP[i] hk];rw[pM]at hk;have hx:=hfs.2.2 _ (bK hk);have hok:=Fo hE _ (bK hi) _ (bK hk);have hn:M.jr c.bP[i]=some (di c.bP[i]):=Ac _ hfs.1;have hs:=RV hx hok;by_cases hnl:n<c.bV.length
  ·have hw:=bE hnl (cu hL);rw[dif_pos hnl];unfold mb;simp only[av.ai,getD_lt hi,getD_lt hk,getD_lt hnl,hn,hs,alZ c.Module _ hm.2,Ft,bn,bz,bU,hk,hi,hnl,bD,aG,dE,gm,bj,aS,cC,hw,bE hk (cu hfs.2.1),aZ,bf];cases (c.bV[n].aQ==di c.bP[i])
   ·simp
   ·cases (c.bV[n].Func==c.bP[i].Funcs[k].Name)
    ·simp
    ·cases ha:ud c.Module c.bV[n].Core with
     |none=>simp[iT]
     |some j=>
      have hj:j<c.Module.aP.length:=kH ha;have e1:¬((j:Int)<0):=by omega
      have e0:decide ((j:Int)<0)=false:=by rw[ew];omega
      simp only[iT,e0,getD_lt hj,hj,bn,bz,bD,dE,gm,mf,bj,cC,aS,bM,kJ];cases (c.Module.aP[j].Params==(g9 c.bP[i].Funcs[k].aI).1)<;>cases (c.Module.aP[j].Result==(g9 c.bP[i].Funcs[k].aI).2.1)<;>simp[e1]
  ·rw[dif_neg hnl];simp only[av.ai,getD_lt hi,getD_lt hk,hn,Ft,bn,bz,bU,hk,hi,hnl,bD,nX,aG,dE,mg,gm,bj,aS,cC,pO,aZ,bf];simp
 ·show M.nW c (i:Int) (f+1) n (((gk c.bP[i]).length:Nat):Int)=_
  rw[M.nW,pM];simp only[getD_lt hi,bn,bz,hi,bD];simp
theorem al3{c:aX}(hc:hC c)(hE:fO c.bP=true):M.Ad c=some (mN c):=by
 have hx:=cN (bW ar.sz c.bP) hc.lA;have e:=RP (mb c.Module) (c.bP.map gk) c.bV (by rw[dY];exact hx) (G:=fun f i n=>M.nY f c n i) (b:=false) (fin:=fun n=>(c,n)) (fun f i n hi=>by
  rw[dY]at hi
  show M.nY (f+1) c ((n:Nat):Int) (i:Int)=_
  rw[M.nY,al2 hc hE hi,Ab];simp only[bU,hi,bD,aG];cases pre (mb c.Module) (gk c.bP[i]) (c.bV.drop n)
  ·rfl
  ·simp only[pt,bE hi (cu hx)]) (fun f n=>by
  show M.nY (f+1) c n (((c.bP.map gk).length:Nat):Int)=_
  rw[M.nY,dY];simp)
 have e':M.nY ae c 0 0=_:=e;unfold M.Ad;rw[e'];unfold mN dT;cases pre (mb c.Module) (c.bP.map gk).flatten c.bV
 ·rfl
 ·simp only[pt,bj];congr 1;rw[gj,dx,dx];omega
theorem al4{c:aX}(hc:hC c)(hE:fO c.ay=true){i:Nat}(hi:i<c.ay.length)(n0:Nat):
 M.nZ c (i:Int) ae (n0:Int) 0=some (if pre (mc c.Module) (gk c.ay[i]) (c.cg.drop n0)then .inr (c,((n0+(gk c.ay[i]).length:Nat):Int),(i:Int))else .inl false):=by
 have hfs:=me hc.gi (bK hi);have hL:=cN (bW bh.sz c.cg) hc.Fp;have hm:=xx hc.mod;refine RO (mc c.Module) (gk c.ay[i]) c.cg (by rw[pM];exact hfs.2.1) hL (F:=fun f k n=>M.nZ c (i:Int) f n k) (b:=false) (fin:=fun n=>(c,n,(i:Int))) (fun f k n hk=>?_) (fun f n=>?_) n0
 ·show M.nZ c (i:Int) (f+1) ((n:Nat):Int) (k:Int)=_
  rw[M.nZ,RU c.ay[i] hk];rw[pM]at hk;have hx:=hfs.2.2 _ (bK hk);have hok:=Fo hE _ (bK hi) _ (bK hk);have hn:M.jr c.ay[i]=some (di c.ay[i]):=Ac _ hfs.1;have hs:=RV hx hok;by_cases hnl:n<c.cg.length
  ·have hw:=bE hnl (cu hL);rw[dif_pos hnl];unfold mc;simp only[av.ai,getD_lt hi,getD_lt hk,getD_lt hnl,hn,hs,RR c.Module _ hm.1,Ft,bn,bz,bU,hk,hi,hnl,bD,aG,dE,gm,bj,aS,cC,hw,bE hk (cu hfs.2.1),aZ,bf];cases (c.cg[n].aQ==di c.ay[i])
   ·simp
   ·cases (c.cg[n].Func==c.ay[i].Funcs[k].Name)
    ·simp
    ·cases ha:kF c.Module c.cg[n].Import with
     |none=>simp[iT]
     |some j=>
      have hj:j<c.Module.ay.length:=kH ha;have e1:¬((j:Int)<0):=by omega
      have e0:decide ((j:Int)<0)=false:=by rw[ew];omega
      simp only[iT,e0,getD_lt hj,hj,bn,bz,bD,dE,gm,mf,bj,cC,aS,bM,kJ];cases (c.Module.ay[j].Params==(g9 c.ay[i].Funcs[k].aI).1)<;>cases (c.Module.ay[j].Result==(g9 c.ay[i].Funcs[k].aI).2.1)<;>simp[e1]
  ·rw[dif_neg hnl];simp only[av.ai,getD_lt hi,getD_lt hk,hn,Ft,bn,bz,bU,hk,hi,hnl,bD,nX,aG,dE,mg,gm,bj,aS,cC,pO,aZ,bf];simp
 ·show M.nZ c (i:Int) (f+1) n (((gk c.ay[i]).length:Nat):Int)=_
  rw[M.nZ,pM];simp only[getD_lt hi,bn,bz,hi,bD];simp
theorem al5{c:aX}(hc:hC c)(hE:fO c.ay=true):M.Ae c=some (md c):=by
 have hx:=cN (bW ar.sz c.ay) hc.gi;have e:=RP (mc c.Module) (c.ay.map gk) c.cg (by rw[dY];exact hx) (G:=fun f i n=>M.od f c n i) (b:=false) (fin:=fun n=>(c,n)) (fun f i n hi=>by
  rw[dY]at hi
  show M.od (f+1) c ((n:Nat):Int) (i:Int)=_
  rw[M.od,al4 hc hE hi,Ab];simp only[bU,hi,bD,aG];cases pre (mc c.Module) (gk c.ay[i]) (c.cg.drop n)
  ·rfl
  ·simp only[pt,bE hi (cu hx)]) (fun f n=>by
  show M.od (f+1) c n (((c.ay.map gk).length:Nat):Int)=_
  rw[M.od,dY];simp)
 have e':M.od ae c 0 0=_:=e;unfold M.Ae;rw[e'];unfold md dT;cases pre (mc c.Module) (c.ay.map gk).flatten c.cg
 ·rfl
 ·simp only[pt,bj];congr 1;rw[gj,dx,dx];omega
end M
namespace M
open Go.V (inB cA ae bS)
theorem Fv{a b:Nat}(h:a+b<=1073741824):decide (a+b<=1073741824)=true:=by rw[bu];exact h
theorem al6{m:aR}(n:List UInt8)(h:m.sz<=1048576)(hm:iS m=true):M.Af m n=some (match ud m n with
 |some j=>((j:Int),true)
 |none=>(0,false)):=by
 have hl:=xx h;have e:=ft (p:=fun c:aw=>c.Name==n) (F:=M.uh m.aP n (m.aP.length:Int)) (e:=()) (fun k=>k) m.aP (by omega) (fun f k hk=>by
  rw[M.uh];simp only[getD_lt hk,bn,bz,bU,hk,bD,aG,bj,aS,bE hk (cu hl.2)]) (fun f=>by rw[M.uh];simp)
 unfold M.Af M.Fz ud;rw[e,LI m h,hm];cases m.aP.findIdx? fun c=>c.Name==n with
 |none=>rfl
 |some j=>
  have e0:decide ((j:Int)<0)=false:=by rw[ew];omega
  simp only[aZ,bf,e0,dE,gm,cC,bM,aG,db,bj,aS]
theorem RX{m:aR}(n:List UInt8)(h:m.sz<=1048576)(hm:iS m=true):M.ui m n=some (match kF m n with
 |some j=>((j:Int),true)
 |none=>(0,false)):=by
 have hl:=xx h;have e:=ft (p:=fun c:aM=>c.Name==n) (F:=M.uj m.ay n (m.ay.length:Int)) (e:=()) (fun k=>k) m.ay (by omega) (fun f k hk=>by
  rw[M.uj];simp only[getD_lt hk,bn,bz,bU,hk,bD,aG,bj,aS,bE hk (cu hl.1)]) (fun f=>by rw[M.uj];simp)
 unfold M.ui M.FA kF;rw[e,LI m h,hm];cases m.ay.findIdx? fun c=>c.Name==n with
 |none=>rfl
 |some j=>
  have e0:decide ((j:Int)<0)=false:=by rw[ew];omega
  simp only[aZ,bf,e0,dE,gm,cC,bM,aG,db,bj,aS]
theorem Ag{α β Y:Type}{F:Nat->Int->List β->Option Y}{h:List β->Option Y}(g:α->List β)(l:List α)(hn:l.length<=1048576)(mh:List β)
 (step:∀f k out,∀hk:k<l.length,out=mh++((l.take k).map g).flatten->F (f+1) (k:Int) out=F f ((k+1:Nat):Int) (out++g l[k]))
 (stop:∀f out,F (f+1) (l.length:Int) out=h out):F ae 0 mh=h (mh++(l.map g).flatten):=by
 have key:∀f k out,k<=l.length->l.length-k<f->out=mh++((l.take k).map g).flatten->F f (k:Int) out=h (mh++(l.map g).flatten):=by
  intro f
  induction f with
  |zero=>intro k out h1 h2;omega
  |succ f ih=>
   intro k out h1 h2 ho;rcases cJ k l.length with hk|hk
   ·rw[step f k out hk ho,ih (k+1) _ (by omega) (by omega)];rw[ho,kK,cw hk,Option.toList_some,pP,List.flatten_append,mO];simp
   ·have:k=l.length:=by omega
    subst this;rw[stop,ho,uk]
 exact key ae 0 mh (cU _) (by have:=bS;omega) (by simp)
theorem ri{α β:Type}(g:α->β):∀l:List α,(l.map fun x=>[g x]).flatten=l.map g
 |[]=>rfl
 |x::r=>by simp only[jo,List.flatten_cons,ri g r,List.singleton_append]
theorem RY:∀l:List ar,(dT l).length<=aB ar.sz l
 |[]=>cr _
 |f::r=>by
  have h1:=RY r;have h2:=ar.bL f;have h3:=bW aD.sz f.Funcs;unfold dT at*;simp only[jo,List.flatten_cons,ek,pM,aB];omega
theorem take_len(l:List ar)(k:Nat):(((l.take k).map gk).flatten).length<=aB ar.sz l:=by
 have h1:(dT (l.take k)).length<=aB ar.sz (l.take k):=RY _;have h2:∀(l:List ar)(k:Nat),aB ar.sz (l.take k)<=aB ar.sz l:=fun l=>by
  induction l with
  |nil=>intro k;simp[aB]
  |cons x r ih=>intro k;cases k with
   |zero=>simp[aB]
   |succ k=>have:=ih k;simp only[List.take_succ_cons,aB];omega
 exact cN h1 (h2 l k)
theorem al7(f:ar)(k:Nat):((f.Funcs.take k).map fun x=>[cO.mk (di f) x.Name x.aI]).flatten.length<=f.Funcs.length:=by
 rw[ri];simp;omega
theorem RZ(l:List ar)(h:aB ar.sz l<=1048576):M.um l=some (dT l):=by
 have hl:=cN (bW ar.sz l) h;have inner:∀(a:List ar)(b c:Int)(f:ar)(mh:List cO),f∈l->mh.length<=1048576->M.rj a b c f.Funcs (f.Funcs.length:Int) f ae 0 mh=some (a,b,c,mh++gk f):=fun a b c f mh hf ho=>by
  have hfs:=me h hf;have hn:M.mi f=some (di f):=LJ f hfs.1;have e:=Ag (F:=M.rj a b c f.Funcs (f.Funcs.length:Int) f) (h:=fun out=>some (a,b,c,out)) (fun x=>[cO.mk (di f) x.Name x.aI]) f.Funcs hfs.2.1 mh (fun g k out hk ho'=>by
   rw[M.rj];have ht:=al7 f k;have hc:=Fv (a:=out.length) (b:=1) (by rw[ho',ek];omega);simp only[av.ai,getD_lt hk,hn,bn,bz,bU,hk,bD,aG,cD,dj,dN,hc,bj,aS,bE hk (cu hfs.2.1),aZ,bf]) (fun g out=>by rw[M.rj];simp)
  rw[e,ri];rfl
 have e:=Ag (F:=fun g k out=>M.oe g l (l.length:Int) k out) (h:=fun out=>some out) gk l hl [] (fun g k out hk ho=>by
  show M.oe (g+1) l (l.length:Int) (k:Int) out=_
  rw[M.oe];have ht:=take_len l k;have hin:=inner l (l.length:Int) (k:Int) l[k] out (bK hk) (by rw[ho];simp only[oh];omega);simp only[getD_lt hk,hin,bn,bz,bU,hk,bD,aG,bj,aS,bE hk (cu hl)]) (fun g out=>by
  show M.oe (g+1) l (l.length:Int) (l.length:Int) out=_
  rw[M.oe];simp)
 have e':M.oe ae l (l.length:Int) 0 []=_:=e;unfold M.um;rw[e'];rfl
theorem LK{l:List ar}{w:cO}(h:w∈dT l):∃f∈l,∃x∈f.Funcs,w=cO.mk (di f) x.Name x.aI:=by
 unfold dT at h;obtain⟨q,hq,hw⟩:=List.mem_flatten.1 h;obtain⟨f,hf,rfl⟩:=kG.1 hq;obtain⟨x,hx,rfl⟩:=kG.1 hw;exact⟨f,hf,x,hx,rfl⟩
theorem al8{c:aX}(hc:hC c)(hE:fO c.bP=true)(hm:iS c.Module=true):M.Ah c=some (mN c):=by
 have hL:=cN (bW bk.sz c.bV) hc.lifts;have hb:=RZ c.bP hc.lA;unfold M.Ah;rw[hb];simp only[aZ,bf,aS,aG];unfold mN;by_cases hlen:(dT c.bP).length=c.bV.length
 ·have e:=lB (p:=fun k=>mb c.Module ((dT c.bP).getD k cO.zero) (c.bV.getD k bk.zero)) (F:=M.uo (dT c.bP) c.bV (c.bV.length:Int) c) (e:=()) (b:=false) c.bV.length (by omega) (fun f k hk=>by
   have hk':k<(dT c.bP).length:=by omega
   rw[M.uo];obtain⟨fc,hfc,x,hx,hw⟩:=LK (bK hk');have hsh:M.oi (dT c.bP)[k].shape=some ((g9 (dT c.bP)[k].shape).1,(g9 (dT c.bP)[k].shape).2.1):=by
    have hok:=Fo hE fc hfc x hx;have hs:=(me hc.lA hfc).2.2 x hx;rw[hw];exact R7 hs hok
   unfold mb;simp only[av.ai,getD_lt hk,getD_lt hk',al6 _ hc.mod hm,hsh,bn,bz,bU,hk,hk',bD,aG,bj,aS,cC,bE hk (cu hL),aZ,bf];cases (c.bV[k].aQ==(dT c.bP)[k].eY)
   ·simp
   ·cases (c.bV[k].Func==(dT c.bP)[k].name)
    ·simp
    ·cases ha:ud c.Module c.bV[k].Core with
     |none=>simp
     |some j=>
      have hj:j<c.Module.aP.length:=kH ha;simp only[getD_lt hj,hj,bn,bz,bD,dE,gm,mf,bj,cC,aS,bM,aG,kJ];cases (c.Module.aP[j].Params==(g9 (dT c.bP)[k].shape).1)<;>cases (c.Module.aP[j].Result==(g9 (dT c.bP)[k].shape).2.1)<;>simp) (fun f=>by rw[M.uo];simp)
  rw[LG (mb c.Module) cO.zero bk.zero _ _ hlen]at e;rw[e,hlen];simp only[bne_self_eq_false,bM,js,aS];cases pre (mb c.Module) (dT c.bP) c.bV<;>rfl
 ·have h1:(((c.bV.length:Nat):Int) !=(((dT c.bP).length:Nat):Int))=true:=by rw[iu];omega
  have h2:((dT c.bP).length==c.bV.length)=false:=by rw[eI];exact hlen
  rw[h1,h2];simp
theorem al9{c:aX}(hc:hC c)(hE:fO c.ay=true)(hm:iS c.Module=true):M.Ai c=some (md c):=by
 have hL:=cN (bW bh.sz c.cg) hc.Fp;have hb:=RZ c.ay hc.gi;unfold M.Ai;rw[hb];simp only[aZ,bf,aS,aG];unfold md;by_cases hlen:(dT c.ay).length=c.cg.length
 ·have e:=lB (p:=fun k=>mc c.Module ((dT c.ay).getD k cO.zero) (c.cg.getD k bh.zero)) (F:=M.uu (dT c.ay) c.cg (c.cg.length:Int) c) (e:=()) (b:=false) c.cg.length (by omega) (fun f k hk=>by
   have hk':k<(dT c.ay).length:=by omega
   rw[M.uu];obtain⟨fc,hfc,x,hx,hw⟩:=LK (bK hk');have hsh:M.oi (dT c.ay)[k].shape=some ((g9 (dT c.ay)[k].shape).1,(g9 (dT c.ay)[k].shape).2.1):=by
    have hok:=Fo hE fc hfc x hx;have hs:=(me hc.gi hfc).2.2 x hx;rw[hw];exact R7 hs hok
   unfold mc;simp only[av.ai,getD_lt hk,getD_lt hk',RX _ hc.mod hm,hsh,bn,bz,bU,hk,hk',bD,aG,bj,aS,cC,bE hk (cu hL),aZ,bf];cases (c.cg[k].aQ==(dT c.ay)[k].eY)
   ·simp
   ·cases (c.cg[k].Func==(dT c.ay)[k].name)
    ·simp
    ·cases ha:kF c.Module c.cg[k].Import with
     |none=>simp
     |some j=>
      have hj:j<c.Module.ay.length:=kH ha;simp only[getD_lt hj,hj,bn,bz,bD,dE,gm,mf,bj,cC,aS,bM,aG,kJ];cases (c.Module.ay[j].Params==(g9 (dT c.ay)[k].shape).1)<;>cases (c.Module.ay[j].Result==(g9 (dT c.ay)[k].shape).2.1)<;>simp) (fun f=>by rw[M.uu];simp)
  rw[LG (mc c.Module) cO.zero bh.zero _ _ hlen]at e;rw[e,hlen];simp only[bne_self_eq_false,bM,js,aS];cases pre (mc c.Module) (dT c.ay) c.cg<;>rfl
 ·have h1:(((c.cg.length:Nat):Int) !=(((dT c.ay).length:Nat):Int))=true:=by rw[iu];omega
  have h2:((dT c.ay).length==c.cg.length)=false:=by rw[eI];exact hlen
  rw[h1,h2];simp
end M
namespace M
open Go.V (inB cA ae bS)
theorem ama(l:List (List UInt8))(v:List UInt8):(l.any fun y=>v==y)=l.any fun y=>y==v:=by
 congr 1;funext y;rw[gj];simp only[dx];exact eq_comm
theorem R9{l:List ar}(h:aB ar.sz l<=1048576)(n:List UInt8):M.uv l n=some (match l.findIdx? (fun f=>di f==n)with
 |some j=>(l.getD j ar.zero,true)
 |none=>(ar.mk [] [] [] [] [],false)):=by
 have hl:=cN (bW ar.sz l) h;have e:=ft (p:=fun f:ar=>di f==n) (F:=M.uw n l (l.length:Int) [] [] [] [] []) (e:=([],[],[],[],[])) (fun k=>(true,l.getD k.toNat ar.zero)) l (by omega) (fun f k hk=>by
  rw[M.uw];have hn:M.mi l[k]=some (di l[k]):=LJ _ (me h (bK hk)).1;simp only[getD_lt hk,hn,bn,bz,bU,hk,bD,aG,bj,aS,bE hk (cu hl),aZ,bf]) (fun f=>by rw[M.uw];simp)
 unfold M.uv;rw[e];cases l.findIdx? fun f=>di f==n with
 |none=>rfl
 |some j=>simp only[bn]
theorem Si{l:List ar}(h:aB ar.sz l<=1048576)(n r:List UInt8):M.xy l n r=some (jY l n r):=by
 have hl:=cN (bW ar.sz l) h;unfold M.xy jY;rw[R9 h n];cases hj:l.findIdx? fun f=>di f==n with
 |none=>
  have e:M.rk [] r=some false:=LL [] r (by simp);simp[e]
 |some j=>
  have hlt:j<l.length:=kH hj;have hs:(l[j]).bQ.length<=1048576:=by
   have h1:=(me h (bK hlt)).1;rw[ar.bL]at h1;have:=bW List.length (l[j]).bQ;omega
  simp only[getD_lt hlt,LL _ r hs,ama,aZ,bf,cC,bj,aS,aG]
theorem Sj{l:List ar}(h:aB ar.sz l<=1048576)(n:List UInt8):M.ux l n=some (iT (l.findIdx? fun f=>di f==n)):=by
 have hl:=cN (bW ar.sz l) h;have e:=ft (p:=fun f:ar=>di f==n) (F:=M.uy l n) (e:=()) (fun k=>k) l (by omega) (fun f k hk=>by
  rw[M.uy];have hn:M.jr l[k]=some (di l[k]):=Ac _ (me h (bK hk)).1;simp only[getD_lt hk,hn,bn,bz,bU,hk,bD,aG,bj,aS,bE hk (cu hl),aZ,bf]) (fun f=>by rw[M.uy];simp)
 unfold M.ux iT;rw[e];cases l.findIdx? fun f=>di f==n<;>rfl
theorem amb{α E:Type}{p:α->Bool}{F:Nat->Int->Option (Bool⊕E)}{e:E}(a:List α)(ha:a.length<2^62)
 (step:∀f k,∀h:k<a.length,F (f+1) (k:Int)=bif p a[k]then some (.inl true)else F f ((k+1:Nat):Int)) (stop:∀f,F (f+1) (a.length:Int)=some (.inr e)):
 F ae 0=some (if a.any p then .inl true else .inr e):=by
 have:=Aj (F:=F) (n:=a.length) (res:=fun k=>some (if(a.drop k).any p then .inl true else .inr e)) ha (fun f k hk ih=>by
  rw[step f k hk,ih,Sl p hk];cases p a[k]<;>simp) (fun f=>by rw[stop,gG];rfl)
 simpa using this
theorem Sm{l:List ar}(h:aB ar.sz l<=1048576)(n r:List UInt8):M.xz l n r=some (jY l n r):=by
 have hl:=cN (bW ar.sz l) h;unfold M.xz jY;rw[Sj h n];cases hj:l.findIdx? fun f=>di f==n with
 |none=>rfl
 |some j=>
  have hlt:j<l.length:=kH hj;have hs:(l[j]).bQ.length<=1048576:=by
   have h1:=(me h (bK hlt)).1;rw[ar.bL]at h1;have:=bW List.length (l[j]).bQ;omega
  have e0:decide ((j:Int)<0)=false:=by rw[ew];omega
  have e:=amb (p:=fun y=>y==r) (F:=M.uz l r (j:Int)) (e:=()) (l[j]).bQ (by omega) (fun f k hk=>by
   rw[M.uz];simp only[getD_lt hlt,getD_lt hk,bn,bz,bU,hk,hlt,bD,aG,bj,aS,bE hk (cu hs)]) (fun f=>by
   rw[M.uz];simp only[getD_lt hlt,bn,bz,hlt,bD];simp)
  simp only[iT,aZ,e0,bM,e,getD_lt hlt,bf,aS,aG];cases (l[j]).bQ.any fun y=>y==r<;>rfl
theorem amc(n:Nat):decide ((12:Int)<((n:Nat):Int))= !decide (n<=12):=FB n 12
theorem amd(n:Nat):decide (((n:Nat):Int)<=12)=decide (n<=12):=by simp only[fl];omega
theorem ame{c:aX}(hc:hC c)(hm:iS c.Module=true):M.Ak c=some (nR c):=by
 have hb:=cN (bW bg.sz c.Builtins) hc.Fq;have e:=mP (p:=rh c) (F:=M.uA c.Builtins (c.Builtins.length:Int) c) (e:=c) (b:=false) c.Builtins (by omega) (fun f k hk=>by
  rw[M.uA];unfold rh;simp only[getD_lt hk,Si hc.lA,Si hc.gi,RX _ hc.mod hm,bn,bz,bU,hk,bD,aG,bj,aS,cC,bE hk (cu hb),aZ,bf];cases (decide ((1:Int)<=(c.Builtins[k]).Kind)&&decide ((c.Builtins[k]).Kind<=3))
  ·simp
  ·cases (jY c.bP (c.Builtins[k]).aQ (c.Builtins[k]).eu||((c.Builtins[k]).Kind==3&&jY c.ay (c.Builtins[k]).aQ (c.Builtins[k]).eu))
   ·simp
   ·cases ha:kF c.Module (c.Builtins[k]).Import with
    |none=>simp
    |some j=>
     have hj:j<c.Module.ay.length:=kH ha;simp only[getD_lt hj,hj,bn,bz,bD,dE,gm,mf,bj,cC,aS,bM,aG,kJ];cases ((c.Module.ay[j]).Params==1)<;>cases ((c.Module.ay[j]).Result==((c.Builtins[k]).Kind==3))<;>simp) (fun f=>by rw[M.uA];simp)
 unfold M.Ak nR;rw[e];cases c.Builtins.all (rh c)
 ·simp
 ·simp only[pt,amd,aS]
theorem amf{c:aX}(hc:hC c):M.Am c=some (nR c):=by
 have hb:=cN (bW bg.sz c.Builtins) hc.Fq;have hml:=xx hc.mod;have e:=mP (p:=rh c) (F:=M.uB c) (e:=()) (b:=false) c.Builtins (by omega) (fun f k hk=>by
  rw[M.uB];unfold rh;simp only[getD_lt hk,Sm hc.lA,Sm hc.gi,RR _ _ hml.1,bn,bz,bU,hk,bD,aG,bj,aS,cC,bE hk (cu hb),aZ,bf];have eq0:(bif(c.Builtins[k]).Kind==3 then jY c.bP (c.Builtins[k]).aQ (c.Builtins[k]).eu||jY c.ay (c.Builtins[k]).aQ (c.Builtins[k]).eu else jY c.bP (c.Builtins[k]).aQ (c.Builtins[k]).eu)=(jY c.bP (c.Builtins[k]).aQ (c.Builtins[k]).eu||((c.Builtins[k]).Kind==3&&jY c.ay (c.Builtins[k]).aQ (c.Builtins[k]).eu)):=by
   cases ((c.Builtins[k]).Kind==3)<;>simp
  rw[eq0];cases (decide ((1:Int)<=(c.Builtins[k]).Kind)&&decide ((c.Builtins[k]).Kind<=3))
  ·cases ((c.Builtins[k]).Kind==3)<;>simp
  ·cases (jY c.bP (c.Builtins[k]).aQ (c.Builtins[k]).eu||((c.Builtins[k]).Kind==3&&jY c.ay (c.Builtins[k]).aQ (c.Builtins[k]).eu))
   ·cases ((c.Builtins[k]).Kind==3)<;>simp
   ·cases ha:kF c.Module (c.Builtins[k]).Import with
    |none=>cases ((c.Builtins[k]).Kind==3)<;>simp[iT]
    |some j=>
     have hj:j<c.Module.ay.length:=kH ha;have e1:¬((j:Int)<0):=by omega
     have e0:decide ((j:Int)<0)=false:=by rw[ew];omega
     simp only[iT,e0,getD_lt hj,hj,bn,bz,bD,dE,gm,mf,bj,cC,aS,bM,aG,kJ];cases ((c.Module.ay[j]).Params==1)<;>cases (c.Module.ay[j]).Result<;>cases ((c.Builtins[k]).Kind==3)<;>simp[e1]) (fun f=>by rw[M.uB];simp)
 unfold M.Am nR;rw[e,amc];cases decide (c.Builtins.length<=12)
 ·rfl
 ·cases c.Builtins.all (rh c)<;>rfl
theorem amh{c:aX}(hc:hC c):M.An c=some (xu c):=by
 have hlo:=cN (bW bh.sz c.cg) hc.Fp;have hbu:=cN (bW bg.sz c.Builtins) hc.Fq;have e1:=Ag (F:=M.uC c.cg (c.cg.length:Int) c) (h:=fun out=>some (c,out)) (fun x:bh=>[x.Import]) c.cg hlo [] (fun f k out hk ho=>by
  rw[M.uC];have hc:=Fv (a:=out.length) (b:=1) (by rw[ho,ri];simp;omega);simp only[getD_lt hk,bn,bz,bU,hk,bD,aG,cD,dj,dN,hc,bj,aS,bE hk (cu hlo)]) (fun f out=>by rw[M.uC];simp)
 have e2:=Ag (F:=M.uD c.Builtins (c.Builtins.length:Int) c) (h:=fun out=>some (c,out)) (fun x:bg=>[x.Import]) c.Builtins hbu (c.cg.map bh.Import) (fun f k out hk ho=>by
  rw[M.uD];have hc:=Fv (a:=out.length) (b:=1) (by rw[ho,ri];simp;omega);simp only[getD_lt hk,bn,bz,bU,hk,bD,aG,cD,dj,dN,hc,bj,aS,bE hk (cu hbu)]) (fun f out=>by rw[M.uD];simp)
 rw[ri,oh]at e1;rw[ri]at e2;unfold M.An;rw[e1];simp only[e2];have hd:=FC (c.cg.map bh.Import++c.Builtins.map bg.Import) (by
  simp only[ek,dY];have:=bW bh.sz c.cg;have:=bW bg.sz c.Builtins;have:=hc.both;omega)
 rw[hd];simp only[aZ,bf,aS,aG];unfold xu wordsOf;congr 2;rw[gj];simp only[dx];omega
theorem LM{α:Type}(g:α->List UInt8)(i:List UInt8):∀(l:List α)(n:Int),l.foldl (fun n x=>bif g x==i then n+1 else n) n=n+(((l.map g).count i:Nat):Int)
 |[],n=>by simp
 |x::r,n=>by
  rw[List.foldl_cons,LM g i r,jo,List.count_cons];cases (g x==i)<;>simp<;>omega
theorem ami{c:aX}(hc:hC c):M.Ao c=some (zZ c):=by
 have hlo:=cN (bW bh.sz c.cg) hc.Fp;have hbu:=cN (bW bg.sz c.Builtins) hc.Fq;have him:=(xx hc.mod).1;have in0:∀(i:Nat)(hi:i<c.Module.ay.length),M.mQ c (i:Int) ae 0 0=some (c,(i:Int),(((c.cg.map bh.Import).count (c.Module.ay[i]).Name:Nat):Int)):=fun i hi=>by
  have e:=Sr (F:=fun f k n=>M.mQ c (i:Int) f n k) (g:=fun n (x:bh)=>bif x.Import==(c.Module.ay[i]).Name then n+1 else n) (h:=fun n=>(c,(i:Int),n)) c.cg (by omega) (fun k n=>0<=n/\n<=(k:Int)) (fun f k n hk hI=>by
   have hw:Go.IntKind.wrap .i64 (n+1)=n+1:=wrap_i64 (by omega) (by omega);refine⟨?_,by cases ((c.cg[k]).Import==(c.Module.ay[i]).Name)<;>simp<;>omega⟩
   show M.mQ c (i:Int) (f+1) n (k:Int)=_
   rw[M.mQ];simp only[getD_lt hk,getD_lt hi,bn,bz,bU,hk,hi,bD,aG,bj,aS,cC,db,bE hk (cu hlo),hw]) (fun f n hI=>by
   show M.mQ c (i:Int) (f+1) n (c.cg.length:Int)=_
   rw[M.mQ];simp) 0 (by simp)
  have e':M.mQ c (i:Int) ae 0 0=_:=e;rw[e',LM bh.Import,Int.zero_add]
 have in1:∀(i:Nat)(hi:i<c.Module.ay.length)(m:Nat),m<=1048576->M.mR c (i:Int) ae (m:Int) 0=some (c,(i:Int),(m:Int)+(((c.Builtins.map bg.Import).count (c.Module.ay[i]).Name:Nat):Int)):=fun i hi m hm=>by
  have e:=Sr (F:=fun f k n=>M.mR c (i:Int) f n k) (g:=fun n (x:bg)=>bif x.Import==(c.Module.ay[i]).Name then n+1 else n) (h:=fun n=>(c,(i:Int),n)) c.Builtins (by omega) (fun k n=>0<=n/\n<=(m:Int)+(k:Int)) (fun f k n hk hI=>by
   have hw:Go.IntKind.wrap .i64 (n+1)=n+1:=wrap_i64 (by omega) (by omega);refine⟨?_,by cases ((c.Builtins[k]).Import==(c.Module.ay[i]).Name)<;>simp<;>omega⟩
   show M.mR c (i:Int) (f+1) n (k:Int)=_
   rw[M.mR];simp only[getD_lt hk,getD_lt hi,bn,bz,bU,hk,hi,bD,aG,bj,aS,cC,db,bE hk (cu hbu),hw]) (fun f n hI=>by
   show M.mR c (i:Int) (f+1) n (c.Builtins.length:Int)=_
   rw[M.mR];simp) (m:Int) ⟨by omega,by simp⟩
  have e':M.mR c (i:Int) ae (m:Int) 0=_:=e;rw[e',LM bg.Import]
 have e:=mP (p:=fun x:aM=>(wordsOf c).count x.Name==1) (F:=fun f k=>M.oj f c k) (e:=()) (b:=false) c.Module.ay (by omega) (fun f k hk=>by
  show M.oj (f+1) c (k:Int)=_
  rw[M.oj];have hcnt:(c.cg.map bh.Import).count (c.Module.ay[k]).Name<=1048576:=cN List.count_le_length (by rw[dY];exact hlo);simp only[bU,hk,bD,aG,in0 k hk,in1 k hk _ hcnt,bE hk (cu him)];have eb:(((((c.cg.map bh.Import).count (c.Module.ay[k]).Name:Nat):Int)+(((c.Builtins.map bg.Import).count (c.Module.ay[k]).Name:Nat):Int)) !=1)= !((wordsOf c).count (c.Module.ay[k]).Name==1):=by
   unfold wordsOf;rw[List.count_append,kJ,gj];simp only[fk,eI,ne_eq];omega
  rw[eb];cases ((wordsOf c).count (c.Module.ay[k]).Name==1)<;>rfl) (fun f=>by
  show M.oj (f+1) c (c.Module.ay.length:Int)=_
  rw[M.oj];simp)
 have e':M.oj ae c 0=_:=e;unfold M.Ao zZ;rw[e',Fh];have:(c.Module.ay.all ((fun i=>(wordsOf c).count i==1)∘aM.Name))=c.Module.ay.all fun x=>(wordsOf c).count x.Name==1:=rfl
 rw[this];cases c.Module.ay.all fun x=>(wordsOf c).count x.Name==1<;>rfl
end M
namespace M
open Go.V (inB cA ae bS)
def xA(c:aX):Bool:=decide ((1:Int)<=c.Encoding)&&decide (c.Encoding<=(3:Int))
def rl(c:aX):Bool:=(decide ((0:Int)<=c.fu)&&decide (c.fu<=(1024:Int)))&& !decide (Go.IntKind.wrap Go.IntKind.i64 (c.Module.dm*256)<c.fu)
noncomputable def rm(m:aR):Bool:=(rn m).2.2==0
theorem Ss{m:aR}(h:rm m=true):iS m=true:=by
 unfold rm rn at h;cases hm:iS m
 ·rw[hm]at h;simp at h
 ·rfl
noncomputable def mj(c:aX):List UInt8:=
 bif !dn c.Name then[110,97,109,101]
 else bif !ml c.Version then[118,101,114,115,105,111,110]
 else bif !fO c.ay then[105,109,112,111,114,116,115]
 else bif !fO c.bP then[101,120,112,111,114,116,115]
 else bif !xA c then[101,110,99,111,100,105,110,103]
 else bif !rm c.Module then[109,111,100,117,108,101]
 else bif !rl c then[114,101,115,101,114,118,101]
 else bif !mN c then[108,105,102,116,115]
 else bif !md c then[108,111,119,101,114,115]
 else bif !nR c then[98,117,105,108,116,105,110,115]
 else bif !xu c then[119,111,114,100,115]else[]
theorem amk(c:aX):((!(decide ((0:Int)<=c.fu)&&decide (c.fu<=(1024:Int))))||decide (Go.IntKind.wrap Go.IntKind.i64 (c.Module.dm*256)<c.fu))= !rl c:=by
 unfold rl;cases (decide ((0:Int)<=c.fu)&&decide (c.fu<=(1024:Int)))<;>cases decide (Go.IntKind.wrap Go.IntKind.i64 (c.Module.dm*256)<c.fu)<;>rfl
theorem aml(c:aX):(!(decide ((0:Int)<=c.fu)&&decide (c.fu<=(bif decide (Go.IntKind.wrap Go.IntKind.i64 (c.Module.dm*256)<(1024:Int))then Go.IntKind.wrap Go.IntKind.i64 (c.Module.dm*256)else(1024:Int)))))= !rl c:=by
 unfold rl;generalize Go.IntKind.wrap Go.IntKind.i64 (c.Module.dm*256)=w;congr 1;rw[gj];by_cases h:w<1024
 ·rw[jt h];simp only[aG,bJ,bu,fk,ew];omega
 ·rw[ly h];simp only[bM,bJ,bu,fk,ew];omega
theorem amm{c:aX}(hc:hC c):M.Ap c=some (mj c):=by
 unfold M.Ap mj;simp only[rq _ hc.name,Su,Sv _ hc.gi,Sv _ hc.lA,amn _ hc.mod,aZ,bf,aS,bj,db,aG,amk];cases dn c.Name
 ·rfl
 cases ml c.Version
 ·rfl
 cases hI:fO c.ay
 ·rfl
 cases hE:fO c.bP
 ·rfl
 change(bif !xA c then _ else bif !rm c.Module then _ else _)=_;cases xA c
 ·rfl
 cases hM:rm c.Module
 ·rfl
 cases rl c
 ·rfl
 simp only[al3 hc hE,al5 hc hI,amf hc,ami hc,aZ,bf,aS,bj,db,aG,dE,bM];cases mN c
 ·rfl
 cases hlo:md c
 ·rfl
 cases hb:nR c
 ·rfl
 rw[alY (Ss hM) hlo hb];cases zZ c<;>rfl
theorem amo{c:aX}(hc:hC c):M.Aq c=some (mj c):=by
 unfold M.Aq mj;simp only[ru _ hc.name,Sz _ hc.ver,SA _ hc.gi,SA _ hc.lA,amq _ hc.mod,aZ,bf,aS,bj,db,aG,aml];cases dn c.Name
 ·rfl
 cases ml c.Version
 ·rfl
 cases hI:fO c.ay
 ·rfl
 cases hE:fO c.bP
 ·rfl
 change(bif !xA c then _ else bif !rm c.Module then _ else _)=_;cases xA c
 ·rfl
 cases hM:rm c.Module
 ·rfl
 cases rl c
 ·rfl
 have hm:=Ss hM;simp only[al8 hc hE hm,al9 hc hI hm,ame hc hm,amh hc,aZ,bf,aS,bj,db,aG,dE,bM];cases mN c
 ·rfl
 cases md c
 ·rfl
 cases nR c
 ·rfl
 cases xu c<;>rfl
theorem amr{c:aX}(hc:hC c):M.Ar c=some (mj c==[]):=by
 unfold M.Ar;rw[amm hc];rfl
theorem ams{c:aX}(hc:hC c):M.As c=some (mj c==[]):=by
 unfold M.As;rw[amo hc];rfl
theorem aR.eta(m:aR):aR.mk m.dm m.ay m.aP=m:=rfl
theorem aX.eta(c:aX):aX.mk c.Name c.Version c.ay c.bP c.Encoding c.fu c.Module c.bV c.cg c.Builtins=c:=rfl
end M
