/-
  NAMES BOUND ONCE: names that are all among some distinct words are distinct and as many as these just where each word is met once.
-/
import Derived.Test.YtdehjkmaaljlpaaGreatDoorXEplA
import Derived.Test.YtdehjkmaaljlpaaGreatDoorXEFF
import Derived.Test.YtdehjkmaaljlpaaGreatDoorXEMM
import Derived.Test.YtdehjkmaaljlpaaGreatDoorXETP
set_option linter.unusedVariables false
namespace M
def jq(f:List UInt8->Nat):List (List UInt8)->Nat
 |[]=>0
 |i::r=>f i+jq f r
theorem Ta(f g:List UInt8->Nat):∀l,jq (fun i=>f i+g i) l=jq f l+jq g l
 |[]=>rfl
 |i::r=>by simp only[jq,Ta f g r];omega
theorem MC(f:List UInt8->Nat):∀l,(∀i∈l,f i=0)->jq f l=0
 |[],_=>rfl
 |i::r,h=>by simp only[jq,h i (by simp),MC f r fun j hj=>h j (by simp[hj])]
theorem Tc(f:List UInt8->Nat):∀l,(∀i∈l,f i=1)->jq f l=l.length
 |[],_=>rfl
 |i::r,h=>by simp only[jq,h i (by simp),Tc f r fun j hj=>h j (by simp[hj]),aO];omega
theorem Td(f:List UInt8->Nat):∀l,(∀i∈l,f i<=1)->jq f l<=l.length/\(jq f l=l.length->∀i∈l,f i=1)
 |[],_=>⟨bY _,fun _ i hi=>absurd hi (by simp)⟩
 |i::r,h=>by
  obtain⟨h1,h2⟩:=Td f r fun j hj=>h j (by simp[hj])
  have h3:=h i (by simp);simp only[jq,aO];refine⟨by omega,fun e j hj=>?_⟩;rcases fi.1 hj with rfl|hj
  ·omega
  ·exact h2 (by omega) j hj
def hit(x i:List UInt8):Nat:=if x==i then 1 else 0
theorem Tf(x:List UInt8):∀l:List (List UInt8),l.Nodup->x∈l->jq (hit x) l=1
 |[],_,h=>absurd h (by simp)
 |i::r,hn,hm=>by
  rw[AM]at hn;by_cases e:x=i
  ·subst e;have:jq (hit x) r=0:=MC _ r fun j hj=>by
    unfold hit;rw[av];simp only[de];rintro rfl;exact hn.1 hj
   simp only[jq,this,hit,lF,eY]
  ·have h1:x∈r:=by simpa [e]using hm
   have:=Tf x r hn.2 h1;have h2:hit x i=0:=by unfold hit;rw[av];simpa using e
   simp only[jq,this,h2]
theorem MD(x i:List UInt8)(r:List (List UInt8)):(x::r).count i=hit x i+r.count i:=by
 rw[List.count_cons];unfold hit;omega
theorem Ti:∀(names fm:List (List UInt8)),fm.Nodup->(∀x∈names,x∈fm)->jq (fun i=>names.count i) fm=names.length
 |[],fm,_,_=>by rw[MC _ fm fun i _=>by simp];rfl
 |x::r,fm,hn,h=>by
  have e:(fun i=>(x::r).count i)=fun i=>hit x i+r.count i:=funext fun i=>MD x i r
  rw[e,Ta,Tf x fm hn (h x (by simp)),Ti r fm hn fun y hy=>h y (by simp[hy]),aO];omega
theorem Tj:∀l:List (List UInt8),(∀x∈l,l.count x<=1)->l.Nodup
 |[],_=>List.nodup_nil
 |x::r,h=>by
  rw[AM];constructor
  ·intro hm;have h1:=h x (by simp);have h2:0<r.count x:=List.count_pos_iff.2 hm;rw[List.count_cons_self]at h1;omega
  ·exact Tj r fun y hy=>by
    have:=h y (by simp[hy]);rw[MD]at this;omega
theorem Tm:∀l:List (List UInt8),l.Nodup->∀x,l.count x<=1
 |[],_,x=>by simp
 |y::r,h,x=>by
  rw[AM]at h;rw[MD];by_cases e:y=x
  ·subst e;have:r.count y=0:=List.count_eq_zero.2 h.1;unfold hit;rw[aE (by simp)];omega
  ·have:=Tm r h.2 x;unfold hit;rw[av (by simpa using e)];omega
theorem amM(names fm:List (List UInt8))(hn:fm.Nodup)(h:∀x∈names,x∈fm):
 (nodupB names&&(names.length==fm.length))=fm.all fun i=>names.count i==1:=by
 have hs:=Ti names fm hn h;rw[fW];simp only[bC,xO,de,dz];constructor
 ·rintro ⟨h1,h2⟩
  have:=Td (fun i=>names.count i) fm fun i _=>Tm names h1 i
  exact this.2 (by omega)
 ·intro h1;have h2:=Tc (fun i=>names.count i) fm h1;refine⟨Tj names fun x hx=>?_,by omega⟩;rw[h1 x (h x hx)];exact bY _
end M
namespace M
open Go.V (inB cF af bV)
def pre{α β:Type}(ok:α->β->Bool):List α->List β->Bool
 |[],_=>true
 |_::_,[]=>false
 |w::ws,x::xs=>ok w x&&pre ok ws xs
theorem Tn{α β:Type}(ok:α->β->Bool):∀(a b:List α)(l:List β),pre ok (a++b) l=(pre ok a l&&pre ok b (l.drop a.length))
 |[],b,l=>by simp[pre]
 |w::ws,b,[]=>by simp[pre]
 |w::ws,b,x::xs=>by simp only[kJ,pre,Tn ok ws b xs,aO,List.drop_succ_cons,Bool.and_assoc]
theorem ME{α β:Type}(ok:α->β->Bool)(dw:α)(dl:β):∀(ws:List α)(ls:List β),ws.length=ls.length->((List.range ls.length).all fun k=>ok (ws.getD k dw) (ls.getD k dl))=pre ok ws ls
 |[],[],_=>rfl
 |[],_::_,h=>by simp at h
 |_::_,[],h=>by simp at h
 |w::ws,x::xs,h=>by
  have:=ME ok dw dl ws xs (by simpa using h);rw[aO,List.range_succ_eq_map,kK,pre,<-this,Gi];rfl
theorem drop_cons{α:Type}{l:List α}{n:Nat}(h:n<l.length):l.drop n=l[n]::l.drop (n+1):=fu h
theorem To{α β Y E:Type}(ok:α->β->Bool)(ws:List α)(ls:List β)(hw:ws.length<=1048576)(hl:ls.length<=1048576){F:Nat->Int->Int->Option (Y⊕E)}{b:Y}{fin:Int->E}
 (step:∀f k n,∀hk:k<ws.length,F (f+1) (k:Int) ((n:Nat):Int)=if h:n<ls.length then(if ok ws[k] ls[n]then F f ((k+1:Nat):Int) ((n+1:Nat):Int)else some (.inl b))else some (.inl b))
 (stop:∀f n,F (f+1) (ws.length:Int) n=some (.inr (fin n))) (n0:Nat):
 F af 0 (n0:Int)=some (if pre ok ws (ls.drop n0)then .inr (fin ((n0+ws.length:Nat):Int))else .inl b):=by
 have key:∀f k n,k<=ws.length->ws.length-k<f->F f (k:Int) ((n:Nat):Int)=some (if pre ok (ws.drop k) (ls.drop n)then .inr (fin ((n+(ws.length-k):Nat):Int))else .inl b):=by
  intro f
  induction f with
  |zero=>intro k n h1 h2;omega
  |succ f ih=>
   intro k n h1 h2;rcases cA k ws.length with hk|hk
   ·rw[step f k n hk,fu hk];by_cases hn:n<ls.length
    ·rw[xP hn,drop_cons hn,ih (k+1) (n+1) (by omega) (by omega)];rw[show n+1+(ws.length-(k+1))=n+(ws.length-k) by omega];simp only[pre];by_cases ho:ok ws[k] ls[n]=true
     ·rw[aE ho];simp only[ho,aZ]
     ·rw[av ho];simp only[ho,mE];rfl
    ·rw[uD hn,show ls.drop n=[]from List.drop_eq_nil_of_le (by omega)];rfl
   ·have:k=ws.length:=by omega
    subst this;rw[stop,gP,rF];simp[pre]
 have:=key af 0 n0 (abo _) (by have:=bV;omega);simpa using this
theorem Tq{α β Y E:Type}(ok:α->β->Bool)(kL:List (List α))(ls:List β)(hw:kL.length<=1048576){G:Nat->Int->Int->Option (Y⊕E)}{b:Y}{fin:Int->E}
 (step:∀f i n,∀hi:i<kL.length,G (f+1) (i:Int) ((n:Nat):Int)=if pre ok kL[i] (ls.drop n)then G f ((i+1:Nat):Int) ((n+kL[i].length:Nat):Int)else some (.inl b))
 (stop:∀f n,G (f+1) (kL.length:Int) n=some (.inr (fin n))):
 G af 0 0=some (if pre ok kL.flatten ls then .inr (fin ((kL.flatten.length:Nat):Int))else .inl b):=by
 have key:∀f i n,i<=kL.length->kL.length-i<f->G f (i:Int) ((n:Nat):Int)=some (if pre ok (kL.drop i).flatten (ls.drop n)then .inr (fin ((n+(kL.drop i).flatten.length:Nat):Int))else .inl b):=by
  intro f
  induction f with
  |zero=>intro i n h1 h2;omega
  |succ f ih=>
   intro i n h1 h2;rcases cA i kL.length with hi|hi
   ·rw[step f i n hi,fu hi,List.flatten_cons,Tn,Gj,ih (i+1) _ (by omega) (by omega),bA,<-jY];by_cases ho:pre ok kL[i] (ls.drop n)=true
    ·rw[aE ho];simp only[ho,aZ]
    ·rw[av ho];simp only[ho,mE];rfl
   ·have:i=kL.length:=by omega
    subst this;rw[stop,gP];simp[pre]
 have:=key af 0 0 (abo _) (by have:=bV;omega);simpa using this
end M
set_option linter.unusedSimpArgs false
namespace M
open Go.V (inB cF af bV)
def fX(f:ar):List cO:=f.Funcs.map fun x=>cO.mk (dB f) x.Name x.aS
def dQ(l:List ar):List cO:=(l.map fX).flatten
def uE(m:aM)(n:List UInt8):Option Nat:=m.aI.findIdx? fun c=>c.Name==n
def kM(m:aM)(n:List UInt8):Option Nat:=m.al.findIdx? fun c=>c.Name==n
def mF(m:aM)(w:cO)(x:bK):Bool:=(x.aT==w.l8&&x.Func==w.name)&&(match uE m x.Core with
 |some j=>(m.aI.getD j an.zero).Params==(gQ w.shape).1&&(m.aI.getD j an.zero).Result==(gQ w.shape).2.1
 |none=>false)
def l9(m:aM)(w:cO)(x:bH):Bool:=(x.aT==w.l8&&x.Func==w.name)&&(match kM m x.Import with
 |some j=>(m.al.getD j aN.zero).Params==(gQ w.shape).1&&(m.al.getD j aN.zero).Result==(gQ w.shape).2.1
 |none=>false)
def uF(c:aP):Bool:=pre (mF c.Module) (dQ c.bM) c.bT&&(dQ c.bM).length==c.bT.length
def nS(c:aP):Bool:=pre (l9 c.Module) (dQ c.al) c.bL&&(dQ c.al).length==c.bL.length
def jZ(l:List ar)(l8 res:List UInt8):Bool:=match l.findIdx? (fun f=>dB f==l8)with
 |some j=>(l.getD j ar.zero).bI.any fun y=>y==res
 |none=>false
def qd(c:aP)(b:bF):Bool:=((decide (1<=b.Kind)&&decide (b.Kind<=3))&&(jZ c.bM b.aT b.dX||(b.Kind==3&&jZ c.al b.aT b.dX)))&&(match kM c.Module b.Import with
 |some j=>(c.Module.al.getD j aN.zero).Params==1&& !((c.Module.al.getD j aN.zero).Result==(b.Kind==3))
 |none=>false)
def lG(c:aP):Bool:=decide (c.Builtins.length<=12)&&c.Builtins.all (qd c)
def wordsOf(c:aP):List (List UInt8):=c.bL.map bH.Import++c.Builtins.map bF.Import
def xQ(c:aP):Bool:=nodupB (wordsOf c)&&(wordsOf c).length==c.Module.al.length
def AN(c:aP):Bool:=(c.Module.al.map aN.Name).all fun i=>(wordsOf c).count i==1
theorem Tt{α β:Type}{ok:α->β->Bool}:∀{ws:List α}{ls:List β},pre ok ws ls=true->ws.length=ls.length->∀x∈ls,∃w∈ws,ok w x=true
 |[],[],_,_,x,hx=>absurd hx (by simp)
 |[],_::_,_,h,_,_=>by simp at h
 |_::_,[],_,_,x,hx=>absurd hx (by simp)
 |w::ws,y::ys,h,hl,x,hx=>by
  simp only[pre,bC]at h;rcases fi.1 hx with rfl|hx
  ·exact⟨w,by simp,h.1⟩
  ·obtain⟨v,hv,e⟩:=Tt h.2 (by simpa using hl) x hx;exact⟨v,by simp[hv],e⟩
theorem Tu{m:aM}{n:List UInt8}{j:Nat}(h:kM m n=some j):n∈m.al.map aN.Name:=by
 unfold kM at h;rw[List.findIdx?_eq_some_iff_getElem]at h;obtain⟨hj,h1,-⟩:=h;have e:(m.al[j]).Name=n:=by simpa using h1
 exact jB.2 ⟨m.al[j],bG hj,e⟩
theorem amN{c:aP}(h1:nS c=true)(h2:lG c=true):∀x∈wordsOf c,x∈c.Module.al.map aN.Name:=by
 intro x hx;unfold wordsOf at hx;rcases dx.1 hx with hx|hx
 ·obtain⟨y,hy,rfl⟩:=jB.1 hx;unfold nS at h1;simp only[bC,de]at h1;obtain⟨w,-,e⟩:=Tt h1.1 h1.2 y hy;unfold l9 at e;rw[bC]at e;cases ha:kM c.Module y.Import with
  |none=>rw[ha]at e;exact absurd e.2 (by simp)
  |some j=>exact Tu ha
 ·obtain⟨y,hy,rfl⟩:=jB.1 hx;unfold lG at h2;simp only[bC,dz]at h2;have e:=h2.2 y hy;unfold qd at e;rw[bC]at e;cases ha:kM c.Module y.Import with
  |none=>rw[ha]at e;exact absurd e.2 (by simp)
  |some j=>exact Tu ha
theorem amO{c:aP}(hm:hZ c.Module=true)(h1:nS c=true)(h2:lG c=true):xQ c=AN c:=by
 have hn:(c.Module.al.map aN.Name).Nodup:=by
  unfold hZ uG at hm;simp only[bC]at hm;exact(xO _).1 hm.2.2.1.1
 have:=amM (wordsOf c) _ hn (amN h1 h2);unfold xQ AN;rw[<-this,cr]
end M
namespace M
open Go.V (inB cF af bV)
def lH(o:Option Nat):Int:=match o with
 |some j=>(j:Int)
 |none=> -1
theorem amP(m:aM)(n:List UInt8)(h:m.aI.length<=1048576):M.AO m n=some (lH (uE m n)):=by
 have e:=fY (p:=fun c:an=>c.Name==n) (F:=M.uH n m) (e:=()) (fun k=>k) m.aI (by omega) (fun f k hk=>by
  rw[M.uH];simp only[getD_lt hk,bz,bp,bJ,hk,bg,aA,aZ,aR,bw hk (cC h)]) (fun f=>by rw[M.uH];simp)
 unfold M.AO uE lH;rw[e];cases m.aI.findIdx? fun c=>c.Name==n<;>rfl
theorem Tv(m:aM)(n:List UInt8)(h:m.al.length<=1048576):M.uI m n=some (lH (kM m n)):=by
 have e:=fY (p:=fun c:aN=>c.Name==n) (F:=M.uJ n m) (e:=()) (fun k=>k) m.al (by omega) (fun f k hk=>by
  rw[M.uJ];simp only[getD_lt hk,bz,bp,bJ,hk,bg,aA,aZ,aR,bw hk (cC h)]) (fun f=>by rw[M.uJ];simp)
 unfold M.uI kM lH;rw[e];cases m.al.findIdx? fun c=>c.Name==n<;>rfl
theorem rG{α:Type}{p:α->Bool}{l:List α}{j:Nat}(h:l.findIdx? p=some j):j<l.length:=by
 rw[List.findIdx?_eq_some_iff_getElem]at h;exact h.1
theorem amQ{f:ar}(h:lI f=true):∀x∈f.Funcs,fJ x.aS=true:=by
 unfold lI at h;simp only[bC,dz]at h;intro x hx;have:=h.2.2.1 x hx;unfold mG at this;simp only[bC]at this;exact this.1.2
theorem Gk{l:List ar}(h:gU l=true):∀f∈l,∀x∈f.Funcs,fJ x.aS=true:=by
 unfold gU at h;simp only[bC,dz]at h;intro f hf;have:=h.2.1 f hf;unfold mH at this;rw[bC]at this;exact amQ this.1
theorem qe(f:ar):(fX f).length=f.Funcs.length:=by unfold fX;rw[cr]
theorem Tz(f:ar){k:Nat}(hk:k<(fX f).length):(fX f)[k]=cO.mk (dB f) (f.Funcs[k]'(by rw[qe]at hk;exact hk)).Name (f.Funcs[k]'(by rw[qe]at hk;exact hk)).aS:=by
 simp only[fX,uK]
structure iG (c:aP):Prop where
 name:c.Name.length<=1048576
 TB:c.Version.length<=1048576
 fm:az ar.sz c.al<=1048576
 mI:az ar.sz c.bM<=1048576
 mod:c.Module.sz<=1048576
 lifts:az bK.sz c.bT<=1048576
 AP:az bH.sz c.bL<=1048576
 AQ:az bF.sz c.Builtins<=1048576
 both:az bH.sz c.bL+az bF.sz c.Builtins<=1048576
theorem iG.of{c:aP}(h:c.sz<=1048576):iG c:=by
 rw[aP.bQ]at h;exact⟨by omega,by omega,by omega,by omega,by omega,by omega,by omega,by omega,by omega⟩
theorem xR{m:aM}(h:m.sz<=1048576):m.al.length<=1048576/\m.aI.length<=1048576:=by
 rw[aM.bQ]at h;have:=cm aN.sz m.al;have:=cm an.sz m.aI;omega
theorem qf{l:List ar}(h:az ar.sz l<=1048576){f:ar}(hf:f∈l):f.sz<=1048576/\f.Funcs.length<=1048576/\∀x∈f.Funcs,x.aS.sz<=1048576:=by
 have h1:=dr ar.sz l f hf;have h2:=ar.bQ f;have h3:=cm aF.sz f.Funcs;refine⟨by omega,by omega,fun x hx=>?_⟩;have h4:=dr aF.sz f.Funcs x hx;have h5:=aF.bQ x;omega
theorem Gl(n m:Nat):decide (((m:Nat):Int)<=((n:Nat):Int))= !decide (n<m):=by
 rw[fW];simp only[eL,bq,dR];omega
theorem amR{c:aP}(hc:iG c)(hE:gU c.bM=true){i:Nat}(hi:i<c.bM.length)(n0:Nat):
 M.nU c (i:Int) af (n0:Int) 0=some (if pre (mF c.Module) (fX c.bM[i]) (c.bT.drop n0)then .inr (c,((n0+(fX c.bM[i]).length:Nat):Int),(i:Int))else .inl false):=by
 have hfs:=qf hc.mI (bG hi);have hL:=cD (cm bK.sz c.bT) hc.lifts;have hm:=xR hc.mod;refine To (mF c.Module) (fX c.bM[i]) c.bT (by rw[qe];exact hfs.2.1) hL (F:=fun f k n=>M.nU c (i:Int) f n k) (b:=false) (fin:=fun n=>(c,n,(i:Int))) (fun f k n hk=>?_) (fun f n=>?_) n0
 ·show M.nU c (i:Int) (f+1) ((n:Nat):Int) (k:Int)=_
  rw[M.nU,Tz c.bM[i] hk];rw[qe]at hk;have hx:=hfs.2.2 _ (bG hk);have hok:=Gk hE _ (bG hi) _ (bG hk);have hn:M.jr c.bM[i]=some (dB c.bM[i]):=AS _ hfs.1;have hs:=TC hx hok;by_cases hnl:n<c.bT.length
  ·have hw:=bw hnl (cC hL);rw[xP hnl];unfold mF;simp only[ay.ai,getD_lt hi,getD_lt hk,getD_lt hnl,hn,hs,amP c.Module _ hm.2,Gl,bz,bp,bJ,hk,hi,hnl,bg,aA,dE,gq,aZ,aR,bZ,hw,bw hk (cC hfs.2.1),aV,aX];cases (c.bT[n].aT==dB c.bM[i])
   ·simp
   ·cases (c.bT[n].Func==c.bM[i].Funcs[k].Name)
    ·simp
    ·cases ha:uE c.Module c.bT[n].Core with
     |none=>simp[lH]
     |some j=>
      have hj:j<c.Module.aI.length:=rG ha;have e1:¬((j:Int)<0):=by omega
      have e0:decide ((j:Int)<0)=false:=by rw[dR];omega
      simp only[lH,e0,getD_lt hj,hj,bz,bp,bg,dE,gq,jC,aZ,bZ,aR,bN,jD];cases (c.Module.aI[j].Params==(gQ c.bM[i].Funcs[k].aS).1)<;>cases (c.Module.aI[j].Result==(gQ c.bM[i].Funcs[k].aS).2.1)<;>simp[e1]
  ·rw[uD hnl];simp only[ay.ai,getD_lt hi,getD_lt hk,hn,Gl,bz,bp,bJ,hk,hi,hnl,bg,j0,aA,dE,iP,gq,aZ,aR,bZ,kN,aV,aX];simp
 ·show M.nU c (i:Int) (f+1) n (((fX c.bM[i]).length:Nat):Int)=_
  rw[M.nU,qe];simp only[getD_lt hi,bz,bp,hi,bg];simp
theorem amS{c:aP}(hc:iG c)(hE:gU c.bM=true):M.AT c=some (uF c):=by
 have hx:=cD (cm ar.sz c.bM) hc.mI;have e:=Tq (mF c.Module) (c.bM.map fX) c.bT (by rw[cr];exact hx) (G:=fun f i n=>M.nV f c n i) (b:=false) (fin:=fun n=>(c,n)) (fun f i n hi=>by
  rw[cr]at hi
  show M.nV (f+1) c ((n:Nat):Int) (i:Int)=_
  rw[M.nV,amR hc hE hi,uK];simp only[bJ,hi,bg,aA];cases pre (mF c.Module) (fX c.bM[i]) (c.bT.drop n)
  ·rfl
  ·simp only[eY,bw hi (cC hx)]) (fun f n=>by
  show M.nV (f+1) c n (((c.bM.map fX).length:Nat):Int)=_
  rw[M.nV,cr];simp)
 have e':M.nV af c 0 0=_:=e;unfold M.AT;rw[e'];unfold uF dQ;cases pre (mF c.Module) (c.bM.map fX).flatten c.bT
 ·rfl
 ·simp only[eY,aZ];congr 1;rw[fW,de,de];omega
theorem amT{c:aP}(hc:iG c)(hE:gU c.al=true){i:Nat}(hi:i<c.al.length)(n0:Nat):
 M.nW c (i:Int) af (n0:Int) 0=some (if pre (l9 c.Module) (fX c.al[i]) (c.bL.drop n0)then .inr (c,((n0+(fX c.al[i]).length:Nat):Int),(i:Int))else .inl false):=by
 have hfs:=qf hc.fm (bG hi);have hL:=cD (cm bH.sz c.bL) hc.AP;have hm:=xR hc.mod;refine To (l9 c.Module) (fX c.al[i]) c.bL (by rw[qe];exact hfs.2.1) hL (F:=fun f k n=>M.nW c (i:Int) f n k) (b:=false) (fin:=fun n=>(c,n,(i:Int))) (fun f k n hk=>?_) (fun f n=>?_) n0
 ·show M.nW c (i:Int) (f+1) ((n:Nat):Int) (k:Int)=_
  rw[M.nW,Tz c.al[i] hk];rw[qe]at hk;have hx:=hfs.2.2 _ (bG hk);have hok:=Gk hE _ (bG hi) _ (bG hk);have hn:M.jr c.al[i]=some (dB c.al[i]):=AS _ hfs.1;have hs:=TC hx hok;by_cases hnl:n<c.bL.length
  ·have hw:=bw hnl (cC hL);rw[xP hnl];unfold l9;simp only[ay.ai,getD_lt hi,getD_lt hk,getD_lt hnl,hn,hs,Tv c.Module _ hm.1,Gl,bz,bp,bJ,hk,hi,hnl,bg,aA,dE,gq,aZ,aR,bZ,hw,bw hk (cC hfs.2.1),aV,aX];cases (c.bL[n].aT==dB c.al[i])
   ·simp
   ·cases (c.bL[n].Func==c.al[i].Funcs[k].Name)
    ·simp
    ·cases ha:kM c.Module c.bL[n].Import with
     |none=>simp[lH]
     |some j=>
      have hj:j<c.Module.al.length:=rG ha;have e1:¬((j:Int)<0):=by omega
      have e0:decide ((j:Int)<0)=false:=by rw[dR];omega
      simp only[lH,e0,getD_lt hj,hj,bz,bp,bg,dE,gq,jC,aZ,bZ,aR,bN,jD];cases (c.Module.al[j].Params==(gQ c.al[i].Funcs[k].aS).1)<;>cases (c.Module.al[j].Result==(gQ c.al[i].Funcs[k].aS).2.1)<;>simp[e1]
  ·rw[uD hnl];simp only[ay.ai,getD_lt hi,getD_lt hk,hn,Gl,bz,bp,bJ,hk,hi,hnl,bg,j0,aA,dE,iP,gq,aZ,aR,bZ,kN,aV,aX];simp
 ·show M.nW c (i:Int) (f+1) n (((fX c.al[i]).length:Nat):Int)=_
  rw[M.nW,qe];simp only[getD_lt hi,bz,bp,hi,bg];simp
theorem amU{c:aP}(hc:iG c)(hE:gU c.al=true):M.AU c=some (nS c):=by
 have hx:=cD (cm ar.sz c.al) hc.fm;have e:=Tq (l9 c.Module) (c.al.map fX) c.bL (by rw[cr];exact hx) (G:=fun f i n=>M.nX f c n i) (b:=false) (fin:=fun n=>(c,n)) (fun f i n hi=>by
  rw[cr]at hi
  show M.nX (f+1) c ((n:Nat):Int) (i:Int)=_
  rw[M.nX,amT hc hE hi,uK];simp only[bJ,hi,bg,aA];cases pre (l9 c.Module) (fX c.al[i]) (c.bL.drop n)
  ·rfl
  ·simp only[eY,bw hi (cC hx)]) (fun f n=>by
  show M.nX (f+1) c n (((c.al.map fX).length:Nat):Int)=_
  rw[M.nX,cr];simp)
 have e':M.nX af c 0 0=_:=e;unfold M.AU;rw[e'];unfold nS dQ;cases pre (l9 c.Module) (c.al.map fX).flatten c.bL
 ·rfl
 ·simp only[eY,aZ];congr 1;rw[fW,de,de];omega
end M
namespace M
open Go.V (inB cF af bV)
theorem MF{a b:Nat}(h:a+b<=1073741824):decide (a+b<=1073741824)=true:=by rw[bq];exact h
theorem amV{m:aM}(n:List UInt8)(h:m.sz<=1048576)(hm:hZ m=true):M.AW m n=some (match uE m n with
 |some j=>((j:Int),true)
 |none=>(0,false)):=by
 have hl:=xR h;have e:=fY (p:=fun c:an=>c.Name==n) (F:=M.uL m.aI n (m.aI.length:Int)) (e:=()) (fun k=>k) m.aI (by omega) (fun f k hk=>by
  rw[M.uL];simp only[getD_lt hk,bz,bp,bJ,hk,bg,aA,aZ,aR,bw hk (cC hl.2)]) (fun f=>by rw[M.uL];simp)
 unfold M.AW M.Gm uE;rw[e,MG m h,hm];cases m.aI.findIdx? fun c=>c.Name==n with
 |none=>rfl
 |some j=>
  have e0:decide ((j:Int)<0)=false:=by rw[dR];omega
  simp only[aV,aX,e0,dE,gq,bZ,bN,aA,cK,aZ,aR]
theorem TD{m:aM}(n:List UInt8)(h:m.sz<=1048576)(hm:hZ m=true):M.uM m n=some (match kM m n with
 |some j=>((j:Int),true)
 |none=>(0,false)):=by
 have hl:=xR h;have e:=fY (p:=fun c:aN=>c.Name==n) (F:=M.uN m.al n (m.al.length:Int)) (e:=()) (fun k=>k) m.al (by omega) (fun f k hk=>by
  rw[M.uN];simp only[getD_lt hk,bz,bp,bJ,hk,bg,aA,aZ,aR,bw hk (cC hl.1)]) (fun f=>by rw[M.uN];simp)
 unfold M.uM M.Gn kM;rw[e,MG m h,hm];cases m.al.findIdx? fun c=>c.Name==n with
 |none=>rfl
 |some j=>
  have e0:decide ((j:Int)<0)=false:=by rw[dR];omega
  simp only[aV,aX,e0,dE,gq,bZ,bN,aA,cK,aZ,aR]
theorem Gp{α β Y:Type}{F:Nat->Int->List β->Option Y}{h:List β->Option Y}(g:α->List β)(l:List α)(hn:l.length<=1048576)(iQ:List β)
 (step:∀f k out,∀hk:k<l.length,out=iQ++((l.take k).map g).flatten->F (f+1) (k:Int) out=F f ((k+1:Nat):Int) (out++g l[k]))
 (stop:∀f out,F (f+1) (l.length:Int) out=h out):F af 0 iQ=h (iQ++(l.map g).flatten):=by
 have key:∀f k out,k<=l.length->l.length-k<f->out=iQ++((l.take k).map g).flatten->F f (k:Int) out=h (iQ++(l.map g).flatten):=by
  intro f
  induction f with
  |zero=>intro k out h1 h2;omega
  |succ f ih=>
   intro k out h1 h2 ho;rcases cA k l.length with hk|hk
   ·rw[step f k out hk ho,ih (k+1) _ (by omega) (by omega)];rw[ho,ka,ct hk,Option.toList_some,wQ,List.flatten_append,iR];simp
   ·have:k=l.length:=by omega
    subst this;rw[stop,ho,iJ]
 exact key af 0 iQ (abo _) (by have:=bV;omega) (by simp)
theorem uO{α β:Type}(g:α->β):∀l:List α,(l.map fun x=>[g x]).flatten=l.map g
 |[]=>rfl
 |x::r=>by simp only[eu,List.flatten_cons,uO g r,List.singleton_append]
theorem TE:∀l:List ar,(dQ l).length<=az ar.sz l
 |[]=>bY _
 |f::r=>by
  have h1:=TE r;have h2:=ar.bQ f;have h3:=cm aF.sz f.Funcs;unfold dQ at*;simp only[eu,List.flatten_cons,bA,qe,az];omega
theorem take_len(l:List ar)(k:Nat):(((l.take k).map fX).flatten).length<=az ar.sz l:=by
 have h1:(dQ (l.take k)).length<=az ar.sz (l.take k):=TE _;have h2:∀(l:List ar)(k:Nat),az ar.sz (l.take k)<=az ar.sz l:=fun l=>by
  induction l with
  |nil=>intro k;simp[az]
  |cons x r ih=>intro k;cases k with
   |zero=>simp[az]
   |succ k=>have:=ih k;simp only[List.take_succ_cons,az];omega
 exact cD h1 (h2 l k)
theorem amW(f:ar)(k:Nat):((f.Funcs.take k).map fun x=>[cO.mk (dB f) x.Name x.aS]).flatten.length<=f.Funcs.length:=by
 rw[uO];simp;omega
theorem TF(l:List ar)(h:az ar.sz l<=1048576):M.uP l=some (dQ l):=by
 have hl:=cD (cm ar.sz l) h;have inner:∀(a:List ar)(b c:Int)(f:ar)(iQ:List cO),f∈l->iQ.length<=1048576->M.rI a b c f.Funcs (f.Funcs.length:Int) f af 0 iQ=some (a,b,c,iQ++fX f):=fun a b c f iQ hf ho=>by
  have hfs:=qf h hf;have hn:M.kO f=some (dB f):=Gq f hfs.1;have e:=Gp (F:=M.rI a b c f.Funcs (f.Funcs.length:Int) f) (h:=fun out=>some (a,b,c,out)) (fun x=>[cO.mk (dB f) x.Name x.aS]) f.Funcs hfs.2.1 iQ (fun g k out hk ho'=>by
   rw[M.rI];have ht:=amW f k;have hc:=MF (a:=out.length) (b:=1) (by rw[ho',bA];omega);simp only[ay.ai,getD_lt hk,hn,bz,bp,bJ,hk,bg,aA,aO,aU,dI,hc,aZ,aR,bw hk (cC hfs.2.1),aV,aX]) (fun g out=>by rw[M.rI];simp)
  rw[e,uO];rfl
 have e:=Gp (F:=fun g k out=>M.nY g l (l.length:Int) k out) (h:=fun out=>some out) fX l hl [] (fun g k out hk ho=>by
  show M.nY (g+1) l (l.length:Int) (k:Int) out=_
  rw[M.nY];have ht:=take_len l k;have hin:=inner l (l.length:Int) (k:Int) l[k] out (bG hk) (by rw[ho];simp only[kP];omega);simp only[getD_lt hk,hin,bz,bp,bJ,hk,bg,aA,aZ,aR,bw hk (cC hl)]) (fun g out=>by
  show M.nY (g+1) l (l.length:Int) (l.length:Int) out=_
  rw[M.nY];simp)
 have e':M.nY af l (l.length:Int) 0 []=_:=e;unfold M.uP;rw[e'];rfl
theorem TG{l:List ar}{w:cO}(h:w∈dQ l):∃f∈l,∃x∈f.Funcs,w=cO.mk (dB f) x.Name x.aS:=by
 unfold dQ at h;obtain⟨q,hq,hw⟩:=List.mem_flatten.1 h;obtain⟨f,hf,rfl⟩:=jB.1 hq;obtain⟨x,hx,rfl⟩:=jB.1 hw;exact⟨f,hf,x,hx,rfl⟩
theorem amX{c:aP}(hc:iG c)(hE:gU c.bM=true)(hm:hZ c.Module=true):M.AX c=some (uF c):=by
 have hL:=cD (cm bK.sz c.bT) hc.lifts;have hb:=TF c.bM hc.mI;unfold M.AX;rw[hb];simp only[aV,aX,aR,aA];unfold uF;by_cases hlen:(dQ c.bM).length=c.bT.length
 ·have e:=lJ (p:=fun k=>mF c.Module ((dQ c.bM).getD k cO.zero) (c.bT.getD k bK.zero)) (F:=M.uQ (dQ c.bM) c.bT (c.bT.length:Int) c) (e:=()) (b:=false) c.bT.length (by omega) (fun f k hk=>by
   have hk':k<(dQ c.bM).length:=by omega
   rw[M.uQ];obtain⟨fc,hfc,x,hx,hw⟩:=TG (bG hk');have hsh:M.nZ (dQ c.bM)[k].shape=some ((gQ (dQ c.bM)[k].shape).1,(gQ (dQ c.bM)[k].shape).2.1):=by
    have hok:=Gk hE fc hfc x hx;have hs:=(qf hc.mI hfc).2.2 x hx;rw[hw];exact TI hs hok
   unfold mF;simp only[ay.ai,getD_lt hk,getD_lt hk',amV _ hc.mod hm,hsh,bz,bp,bJ,hk,hk',bg,aA,aZ,aR,bZ,bw hk (cC hL),aV,aX];cases (c.bT[k].aT==(dQ c.bM)[k].l8)
   ·simp
   ·cases (c.bT[k].Func==(dQ c.bM)[k].name)
    ·simp
    ·cases ha:uE c.Module c.bT[k].Core with
     |none=>simp
     |some j=>
      have hj:j<c.Module.aI.length:=rG ha;simp only[getD_lt hj,hj,bz,bp,bg,dE,gq,jC,aZ,bZ,aR,bN,aA,jD];cases (c.Module.aI[j].Params==(gQ (dQ c.bM)[k].shape).1)<;>cases (c.Module.aI[j].Result==(gQ (dQ c.bM)[k].shape).2.1)<;>simp) (fun f=>by rw[M.uQ];simp)
  rw[ME (mF c.Module) cO.zero bK.zero _ _ hlen]at e;rw[e,hlen];simp only[bne_self_eq_false,bN,lF,aR];cases pre (mF c.Module) (dQ c.bM) c.bT<;>rfl
 ·have h1:(((c.bT.length:Nat):Int) !=(((dQ c.bM).length:Nat):Int))=true:=by rw[iq];omega
  have h2:((dQ c.bM).length==c.bT.length)=false:=by rw[dS];exact hlen
  rw[h1,h2];simp
theorem amY{c:aP}(hc:iG c)(hE:gU c.al=true)(hm:hZ c.Module=true):M.AY c=some (nS c):=by
 have hL:=cD (cm bH.sz c.bL) hc.AP;have hb:=TF c.al hc.fm;unfold M.AY;rw[hb];simp only[aV,aX,aR,aA];unfold nS;by_cases hlen:(dQ c.al).length=c.bL.length
 ·have e:=lJ (p:=fun k=>l9 c.Module ((dQ c.al).getD k cO.zero) (c.bL.getD k bH.zero)) (F:=M.uR (dQ c.al) c.bL (c.bL.length:Int) c) (e:=()) (b:=false) c.bL.length (by omega) (fun f k hk=>by
   have hk':k<(dQ c.al).length:=by omega
   rw[M.uR];obtain⟨fc,hfc,x,hx,hw⟩:=TG (bG hk');have hsh:M.nZ (dQ c.al)[k].shape=some ((gQ (dQ c.al)[k].shape).1,(gQ (dQ c.al)[k].shape).2.1):=by
    have hok:=Gk hE fc hfc x hx;have hs:=(qf hc.fm hfc).2.2 x hx;rw[hw];exact TI hs hok
   unfold l9;simp only[ay.ai,getD_lt hk,getD_lt hk',TD _ hc.mod hm,hsh,bz,bp,bJ,hk,hk',bg,aA,aZ,aR,bZ,bw hk (cC hL),aV,aX];cases (c.bL[k].aT==(dQ c.al)[k].l8)
   ·simp
   ·cases (c.bL[k].Func==(dQ c.al)[k].name)
    ·simp
    ·cases ha:kM c.Module c.bL[k].Import with
     |none=>simp
     |some j=>
      have hj:j<c.Module.al.length:=rG ha;simp only[getD_lt hj,hj,bz,bp,bg,dE,gq,jC,aZ,bZ,aR,bN,aA,jD];cases (c.Module.al[j].Params==(gQ (dQ c.al)[k].shape).1)<;>cases (c.Module.al[j].Result==(gQ (dQ c.al)[k].shape).2.1)<;>simp) (fun f=>by rw[M.uR];simp)
  rw[ME (l9 c.Module) cO.zero bH.zero _ _ hlen]at e;rw[e,hlen];simp only[bne_self_eq_false,bN,lF,aR];cases pre (l9 c.Module) (dQ c.al) c.bL<;>rfl
 ·have h1:(((c.bL.length:Nat):Int) !=(((dQ c.al).length:Nat):Int))=true:=by rw[iq];omega
  have h2:((dQ c.al).length==c.bL.length)=false:=by rw[dS];exact hlen
  rw[h1,h2];simp
end M
namespace M
open Go.V (inB cF af bV)
theorem amZ(l:List (List UInt8))(v:List UInt8):(l.any fun y=>v==y)=l.any fun y=>y==v:=by
 congr 1;funext y;rw[fW];simp only[de];exact eq_comm
theorem am0{l:List ar}(h:az ar.sz l<=1048576)(n:List UInt8):M.AZ l n=some (match l.findIdx? (fun f=>dB f==n)with
 |some j=>(l.getD j ar.zero,true)
 |none=>(ar.mk [] [] [] [] [],false)):=by
 have hl:=cD (cm ar.sz l) h;have e:=fY (p:=fun f:ar=>dB f==n) (F:=M.uS n l (l.length:Int) [] [] [] [] []) (e:=([],[],[],[],[])) (fun k=>(true,l.getD k.toNat ar.zero)) l (by omega) (fun f k hk=>by
  rw[M.uS];have hn:M.kO l[k]=some (dB l[k]):=Gq _ (qf h (bG hk)).1;simp only[getD_lt hk,hn,bz,bp,bJ,hk,bg,aA,aZ,aR,bw hk (cC hl),aV,aX]) (fun f=>by rw[M.uS];simp)
 unfold M.AZ;rw[e];cases l.findIdx? fun f=>dB f==n with
 |none=>rfl
 |some j=>simp only[bz]
theorem TJ{l:List ar}(h:az ar.sz l<=1048576)(n r:List UInt8):M.xU l n r=some (jZ l n r):=by
 have hl:=cD (cm ar.sz l) h;unfold M.xU jZ;rw[am0 h n];cases hj:l.findIdx? fun f=>dB f==n with
 |none=>
  have e:M.rJ [] r=some false:=MH [] r (by simp);simp[e]
 |some j=>
  have hlt:j<l.length:=rG hj;have hs:(l[j]).bI.length<=1048576:=by
   have h1:=(qf h (bG hlt)).1;rw[ar.bQ]at h1;have:=cm List.length (l[j]).bI;omega
  simp only[getD_lt hlt,MH _ r hs,amZ,aV,aX,bZ,aZ,aR,aA]
theorem am1{l:List ar}(h:az ar.sz l<=1048576)(n:List UInt8):M.A2 l n=some (lH (l.findIdx? fun f=>dB f==n)):=by
 have hl:=cD (cm ar.sz l) h;have e:=fY (p:=fun f:ar=>dB f==n) (F:=M.uT l n) (e:=()) (fun k=>k) l (by omega) (fun f k hk=>by
  rw[M.uT];have hn:M.jr l[k]=some (dB l[k]):=AS _ (qf h (bG hk)).1;simp only[getD_lt hk,hn,bz,bp,bJ,hk,bg,aA,aZ,aR,bw hk (cC hl),aV,aX]) (fun f=>by rw[M.uT];simp)
 unfold M.A2 lH;rw[e];cases l.findIdx? fun f=>dB f==n<;>rfl
theorem am2{α E:Type}{p:α->Bool}{F:Nat->Int->Option (Bool⊕E)}{e:E}(a:List α)(ha:a.length<2^62)
 (step:∀f k,∀h:k<a.length,F (f+1) (k:Int)=bif p a[k]then some (.inl true)else F f ((k+1:Nat):Int)) (stop:∀f,F (f+1) (a.length:Int)=some (.inr e)):
 F af 0=some (if a.any p then .inl true else .inr e):=by
 have:=A3 (F:=F) (n:=a.length) (res:=fun k=>some (if(a.drop k).any p then .inl true else .inr e)) ha (fun f k hk ih=>by
  rw[step f k hk,ih,TK p hk];cases p a[k]<;>simp) (fun f=>by rw[stop,gP];rfl)
 simpa using this
theorem TL{l:List ar}(h:az ar.sz l<=1048576)(n r:List UInt8):M.xW l n r=some (jZ l n r):=by
 have hl:=cD (cm ar.sz l) h;unfold M.xW jZ;rw[am1 h n];cases hj:l.findIdx? fun f=>dB f==n with
 |none=>rfl
 |some j=>
  have hlt:j<l.length:=rG hj;have hs:(l[j]).bI.length<=1048576:=by
   have h1:=(qf h (bG hlt)).1;rw[ar.bQ]at h1;have:=cm List.length (l[j]).bI;omega
  have e0:decide ((j:Int)<0)=false:=by rw[dR];omega
  have e:=am2 (p:=fun y=>y==r) (F:=M.uU l r (j:Int)) (e:=()) (l[j]).bI (by omega) (fun f k hk=>by
   rw[M.uU];simp only[getD_lt hlt,getD_lt hk,bz,bp,bJ,hk,hlt,bg,aA,aZ,aR,bw hk (cC hs)]) (fun f=>by
   rw[M.uU];simp only[getD_lt hlt,bz,bp,hlt,bg];simp)
  simp only[lH,aV,e0,bN,e,getD_lt hlt,aX,aR,aA];cases (l[j]).bI.any fun y=>y==r<;>rfl
theorem am3(n:Nat):decide ((12:Int)<((n:Nat):Int))= !decide (n<=12):=Gs n 12
theorem am4(n:Nat):decide (((n:Nat):Int)<=12)=decide (n<=12):=by simp only[eZ];omega
theorem am5{c:aP}(hc:iG c)(hm:hZ c.Module=true):M.A4 c=some (lG c):=by
 have hb:=cD (cm bF.sz c.Builtins) hc.AQ;have e:=mJ (p:=qd c) (F:=M.uV c.Builtins (c.Builtins.length:Int) c) (e:=c) (b:=false) c.Builtins (by omega) (fun f k hk=>by
  rw[M.uV];unfold qd;simp only[getD_lt hk,TJ hc.mI,TJ hc.fm,TD _ hc.mod hm,bz,bp,bJ,hk,bg,aA,aZ,aR,bZ,bw hk (cC hb),aV,aX];cases (decide ((1:Int)<=(c.Builtins[k]).Kind)&&decide ((c.Builtins[k]).Kind<=3))
  ·simp
  ·cases (jZ c.bM (c.Builtins[k]).aT (c.Builtins[k]).dX||((c.Builtins[k]).Kind==3&&jZ c.al (c.Builtins[k]).aT (c.Builtins[k]).dX))
   ·simp
   ·cases ha:kM c.Module (c.Builtins[k]).Import with
    |none=>simp
    |some j=>
     have hj:j<c.Module.al.length:=rG ha;simp only[getD_lt hj,hj,bz,bp,bg,dE,gq,jC,aZ,bZ,aR,bN,aA,jD];cases ((c.Module.al[j]).Params==1)<;>cases ((c.Module.al[j]).Result==((c.Builtins[k]).Kind==3))<;>simp) (fun f=>by rw[M.uV];simp)
 unfold M.A4 lG;rw[e];cases c.Builtins.all (qd c)
 ·simp
 ·simp only[eY,am4,aR]
theorem am6{c:aP}(hc:iG c):M.A5 c=some (lG c):=by
 have hb:=cD (cm bF.sz c.Builtins) hc.AQ;have hml:=xR hc.mod;have e:=mJ (p:=qd c) (F:=M.uW c) (e:=()) (b:=false) c.Builtins (by omega) (fun f k hk=>by
  rw[M.uW];unfold qd;simp only[getD_lt hk,TL hc.mI,TL hc.fm,Tv _ _ hml.1,bz,bp,bJ,hk,bg,aA,aZ,aR,bZ,bw hk (cC hb),aV,aX];have eq0:(bif(c.Builtins[k]).Kind==3 then jZ c.bM (c.Builtins[k]).aT (c.Builtins[k]).dX||jZ c.al (c.Builtins[k]).aT (c.Builtins[k]).dX else jZ c.bM (c.Builtins[k]).aT (c.Builtins[k]).dX)=(jZ c.bM (c.Builtins[k]).aT (c.Builtins[k]).dX||((c.Builtins[k]).Kind==3&&jZ c.al (c.Builtins[k]).aT (c.Builtins[k]).dX)):=by
   cases ((c.Builtins[k]).Kind==3)<;>simp
  rw[eq0];cases (decide ((1:Int)<=(c.Builtins[k]).Kind)&&decide ((c.Builtins[k]).Kind<=3))
  ·cases ((c.Builtins[k]).Kind==3)<;>simp
  ·cases (jZ c.bM (c.Builtins[k]).aT (c.Builtins[k]).dX||((c.Builtins[k]).Kind==3&&jZ c.al (c.Builtins[k]).aT (c.Builtins[k]).dX))
   ·cases ((c.Builtins[k]).Kind==3)<;>simp
   ·cases ha:kM c.Module (c.Builtins[k]).Import with
    |none=>cases ((c.Builtins[k]).Kind==3)<;>simp[lH]
    |some j=>
     have hj:j<c.Module.al.length:=rG ha;have e1:¬((j:Int)<0):=by omega
     have e0:decide ((j:Int)<0)=false:=by rw[dR];omega
     simp only[lH,e0,getD_lt hj,hj,bz,bp,bg,dE,gq,jC,aZ,bZ,aR,bN,aA,jD];cases ((c.Module.al[j]).Params==1)<;>cases (c.Module.al[j]).Result<;>cases ((c.Builtins[k]).Kind==3)<;>simp[e1]) (fun f=>by rw[M.uW];simp)
 unfold M.A5 lG;rw[e,am3];cases decide (c.Builtins.length<=12)
 ·rfl
 ·cases c.Builtins.all (qd c)<;>rfl
theorem am8{c:aP}(hc:iG c):M.A6 c=some (xQ c):=by
 have hlo:=cD (cm bH.sz c.bL) hc.AP;have hbu:=cD (cm bF.sz c.Builtins) hc.AQ;have e1:=Gp (F:=M.uX c.bL (c.bL.length:Int) c) (h:=fun out=>some (c,out)) (fun x:bH=>[x.Import]) c.bL hlo [] (fun f k out hk ho=>by
  rw[M.uX];have hc:=MF (a:=out.length) (b:=1) (by rw[ho,uO];simp;omega);simp only[getD_lt hk,bz,bp,bJ,hk,bg,aA,aO,aU,dI,hc,aZ,aR,bw hk (cC hlo)]) (fun f out=>by rw[M.uX];simp)
 have e2:=Gp (F:=M.uY c.Builtins (c.Builtins.length:Int) c) (h:=fun out=>some (c,out)) (fun x:bF=>[x.Import]) c.Builtins hbu (c.bL.map bH.Import) (fun f k out hk ho=>by
  rw[M.uY];have hc:=MF (a:=out.length) (b:=1) (by rw[ho,uO];simp;omega);simp only[getD_lt hk,bz,bp,bJ,hk,bg,aA,aO,aU,dI,hc,aZ,aR,bw hk (cC hbu)]) (fun f out=>by rw[M.uY];simp)
 rw[uO,kP]at e1;rw[uO]at e2;unfold M.A6;rw[e1];simp only[e2];have hd:=Gt (c.bL.map bH.Import++c.Builtins.map bF.Import) (by
  simp only[bA,cr];have:=cm bH.sz c.bL;have:=cm bF.sz c.Builtins;have:=hc.both;omega)
 rw[hd];simp only[aV,aX,aR,aA];unfold xQ wordsOf;congr 2;rw[fW];simp only[de];omega
theorem MI{α:Type}(g:α->List UInt8)(i:List UInt8):∀(l:List α)(n:Int),l.foldl (fun n x=>bif g x==i then n+1 else n) n=n+(((l.map g).count i:Nat):Int)
 |[],n=>by simp
 |x::r,n=>by
  rw[List.foldl_cons,MI g i r,eu,List.count_cons];cases (g x==i)<;>simp<;>omega
theorem am9{c:aP}(hc:iG c):M.A7 c=some (AN c):=by
 have hlo:=cD (cm bH.sz c.bL) hc.AP;have hbu:=cD (cm bF.sz c.Builtins) hc.AQ;have him:=(xR hc.mod).1;have in0:∀(i:Nat)(hi:i<c.Module.al.length),M.mK c (i:Int) af 0 0=some (c,(i:Int),(((c.bL.map bH.Import).count (c.Module.al[i]).Name:Nat):Int)):=fun i hi=>by
  have e:=MJ (F:=fun f k n=>M.mK c (i:Int) f n k) (g:=fun n (x:bH)=>bif x.Import==(c.Module.al[i]).Name then n+1 else n) (h:=fun n=>(c,(i:Int),n)) c.bL (by omega) (fun k n=>0<=n/\n<=(k:Int)) (fun f k n hk hI=>by
   have hw:Go.IntKind.wrap .i64 (n+1)=n+1:=wrap_i64 (by omega) (by omega);refine⟨?_,by cases ((c.bL[k]).Import==(c.Module.al[i]).Name)<;>simp<;>omega⟩
   show M.mK c (i:Int) (f+1) n (k:Int)=_
   rw[M.mK];simp only[getD_lt hk,getD_lt hi,bz,bp,bJ,hk,hi,bg,aA,aZ,aR,bZ,cK,bw hk (cC hlo),hw]) (fun f n hI=>by
   show M.mK c (i:Int) (f+1) n (c.bL.length:Int)=_
   rw[M.mK];simp) 0 (by simp)
  have e':M.mK c (i:Int) af 0 0=_:=e;rw[e',MI bH.Import,Int.zero_add]
 have in1:∀(i:Nat)(hi:i<c.Module.al.length)(m:Nat),m<=1048576->M.mL c (i:Int) af (m:Int) 0=some (c,(i:Int),(m:Int)+(((c.Builtins.map bF.Import).count (c.Module.al[i]).Name:Nat):Int)):=fun i hi m hm=>by
  have e:=MJ (F:=fun f k n=>M.mL c (i:Int) f n k) (g:=fun n (x:bF)=>bif x.Import==(c.Module.al[i]).Name then n+1 else n) (h:=fun n=>(c,(i:Int),n)) c.Builtins (by omega) (fun k n=>0<=n/\n<=(m:Int)+(k:Int)) (fun f k n hk hI=>by
   have hw:Go.IntKind.wrap .i64 (n+1)=n+1:=wrap_i64 (by omega) (by omega);refine⟨?_,by cases ((c.Builtins[k]).Import==(c.Module.al[i]).Name)<;>simp<;>omega⟩
   show M.mL c (i:Int) (f+1) n (k:Int)=_
   rw[M.mL];simp only[getD_lt hk,getD_lt hi,bz,bp,bJ,hk,hi,bg,aA,aZ,aR,bZ,cK,bw hk (cC hbu),hw]) (fun f n hI=>by
   show M.mL c (i:Int) (f+1) n (c.Builtins.length:Int)=_
   rw[M.mL];simp) (m:Int) ⟨by omega,by simp⟩
  have e':M.mL c (i:Int) af (m:Int) 0=_:=e;rw[e',MI bF.Import]
 have e:=mJ (p:=fun x:aN=>(wordsOf c).count x.Name==1) (F:=fun f k=>M.od f c k) (e:=()) (b:=false) c.Module.al (by omega) (fun f k hk=>by
  show M.od (f+1) c (k:Int)=_
  rw[M.od];have hcnt:(c.bL.map bH.Import).count (c.Module.al[k]).Name<=1048576:=cD List.count_le_length (by rw[cr];exact hlo);simp only[bJ,hk,bg,aA,in0 k hk,in1 k hk _ hcnt,bw hk (cC him)];have eb:(((((c.bL.map bH.Import).count (c.Module.al[k]).Name:Nat):Int)+(((c.Builtins.map bF.Import).count (c.Module.al[k]).Name:Nat):Int)) !=1)= !((wordsOf c).count (c.Module.al[k]).Name==1):=by
   unfold wordsOf;rw[List.count_append,jD,fW];simp only[eL,dS,ne_eq];omega
  rw[eb];cases ((wordsOf c).count (c.Module.al[k]).Name==1)<;>rfl) (fun f=>by
  show M.od (f+1) c (c.Module.al.length:Int)=_
  rw[M.od];simp)
 have e':M.od af c 0=_:=e;unfold M.A7 AN;rw[e',Gi];have:(c.Module.al.all ((fun i=>(wordsOf c).count i==1)∘aN.Name))=c.Module.al.all fun x=>(wordsOf c).count x.Name==1:=rfl
 rw[this];cases c.Module.al.all fun x=>(wordsOf c).count x.Name==1<;>rfl
end M
namespace M
open Go.V (inB cF af bV)
def rK(c:aP):Bool:=decide ((1:Int)<=c.Encoding)&&decide (c.Encoding<=(3:Int))
def oe(c:aP):Bool:=(decide ((0:Int)<=c.ew)&&decide (c.ew<=(1024:Int)))&& !decide (Go.IntKind.wrap Go.IntKind.i64 (c.Module.dh*256)<c.ew)
noncomputable def uZ(m:aM):Bool:=(rL m).2.2==0
theorem MK{m:aM}(h:uZ m=true):hZ m=true:=by
 unfold uZ rL at h;cases hm:hZ m
 ·rw[hm]at h;simp at h
 ·rfl
noncomputable def qh(c:aP):List UInt8:=
 bif !cY c.Name then[110,97,109,101]
 else bif !mM c.Version then[118,101,114,115,105,111,110]
 else bif !gU c.al then[105,109,112,111,114,116,115]
 else bif !gU c.bM then[101,120,112,111,114,116,115]
 else bif !rK c then[101,110,99,111,100,105,110,103]
 else bif !uZ c.Module then[109,111,100,117,108,101]
 else bif !oe c then[114,101,115,101,114,118,101]
 else bif !uF c then[108,105,102,116,115]
 else bif !nS c then[108,111,119,101,114,115]
 else bif !lG c then[98,117,105,108,116,105,110,115]
 else bif !xQ c then[119,111,114,100,115]else[]
theorem anb(c:aP):((!(decide ((0:Int)<=c.ew)&&decide (c.ew<=(1024:Int))))||decide (Go.IntKind.wrap Go.IntKind.i64 (c.Module.dh*256)<c.ew))= !oe c:=by
 unfold oe;cases (decide ((0:Int)<=c.ew)&&decide (c.ew<=(1024:Int)))<;>cases decide (Go.IntKind.wrap Go.IntKind.i64 (c.Module.dh*256)<c.ew)<;>rfl
theorem anc(c:aP):(!(decide ((0:Int)<=c.ew)&&decide (c.ew<=(bif decide (Go.IntKind.wrap Go.IntKind.i64 (c.Module.dh*256)<(1024:Int))then Go.IntKind.wrap Go.IntKind.i64 (c.Module.dh*256)else(1024:Int)))))= !oe c:=by
 unfold oe;generalize Go.IntKind.wrap Go.IntKind.i64 (c.Module.dh*256)=w;congr 1;rw[fW];by_cases h:w<1024
 ·rw[fK h];simp only[aA,bC,bq,eL,dR];omega
 ·rw[iS h];simp only[bN,bC,bq,eL,dR];omega
theorem ane{c:aP}(hc:iG c):M.A8 c=some (qh c):=by
 unfold M.A8 qh;simp only[rM _ hc.name,TM,TN _ hc.fm,TN _ hc.mI,anf _ hc.mod,aV,aX,aR,aZ,cK,aA,anb];cases cY c.Name
 ·rfl
 cases mM c.Version
 ·rfl
 cases hI:gU c.al
 ·rfl
 cases hE:gU c.bM
 ·rfl
 change(bif !rK c then _ else bif !uZ c.Module then _ else _)=_;cases rK c
 ·rfl
 cases hM:uZ c.Module
 ·rfl
 cases oe c
 ·rfl
 simp only[amS hc hE,amU hc hI,am6 hc,am9 hc,aV,aX,aR,aZ,cK,aA,dE,bN];cases uF c
 ·rfl
 cases hlo:nS c
 ·rfl
 cases hb:lG c
 ·rfl
 rw[amO (MK hM) hlo hb];cases AN c<;>rfl
theorem ang{c:aP}(hc:iG c):M.A9 c=some (qh c):=by
 unfold M.A9 qh;simp only[rN _ hc.name,TP _ hc.TB,TQ _ hc.fm,TQ _ hc.mI,anh _ hc.mod,aV,aX,aR,aZ,cK,aA,anc];cases cY c.Name
 ·rfl
 cases mM c.Version
 ·rfl
 cases hI:gU c.al
 ·rfl
 cases hE:gU c.bM
 ·rfl
 change(bif !rK c then _ else bif !uZ c.Module then _ else _)=_;cases rK c
 ·rfl
 cases hM:uZ c.Module
 ·rfl
 cases oe c
 ·rfl
 have hm:=MK hM;simp only[amX hc hE hm,amY hc hI hm,am5 hc hm,am8 hc,aV,aX,aR,aZ,cK,aA,dE,bN];cases uF c
 ·rfl
 cases nS c
 ·rfl
 cases lG c
 ·rfl
 cases xQ c<;>rfl
theorem TR{c:aP}(hc:iG c):M.Ba c=some (qh c==[]):=by
 unfold M.Ba;rw[ane hc];rfl
theorem TS{c:aP}(hc:iG c):M.Bc c=some (qh c==[]):=by
 unfold M.Bc;rw[ang hc];rfl
theorem aM.eta(m:aM):aM.mk m.dh m.al m.aI=m:=rfl
theorem aP.eta(c:aP):aP.mk c.Name c.Version c.al c.bM c.Encoding c.ew c.Module c.bT c.bL c.Builtins=c:=rfl
end M
