/-
  THE PARSER, its lists owned or plain: the same reading.
-/
import Derived.Test.YtfeedngnaochdaaGreatDoorXQOM
import Derived.Test.YtfeedngnaochdaaGreatDoorXXPb
import Derived.Test.YtfeedngnaochdaaGreatDoorXZ2H
import Derived.Test.YtfeedngnaochdaaGreatDoorXXTF
set_option linter.unusedVariables false
set_option linter.unusedSimpArgs false
set_option maxRecDepth 100000
namespace M
open Go.V (inB bT kq ai bB)
def rT(x:Option (Int×List UInt8×M.ad×List (List UInt8)×List M.aa)):Option (M.aa×M.ad):=x.map fun q=>(M.aa.mk q.1 q.2.1 q.2.2.2.1 q.2.2.2.2,q.2.2.1)
theorem aaj:rT none=none:=rfl
theorem aak(q):rT (some q)=some (M.aa.mk q.1 q.2.1 q.2.2.2.1 q.2.2.2.2,q.2.2.1):=rfl
theorem aal(b:Bool)(x y:Option (Int×List UInt8×M.ad×List (List UInt8)×List M.aa)):rT (bif b then x else y)=bif b then rT x else rT y:=by cases b<;>rfl
theorem Bg(x:Option (Int×List UInt8×M.ad×List (List UInt8)×List M.aa)):(rT x).isSome=x.isSome:=by cases x<;>rfl
theorem Bh(x:Option (Int×List UInt8×M.ad×List (List UInt8)×List M.aa)):Option.getD (rT x) Inhabited.default=(M.aa.mk (Option.getD x Inhabited.default).1 (Option.getD x Inhabited.default).2.1 (Option.getD x Inhabited.default).2.2.2.1 (Option.getD x Inhabited.default).2.2.2.2,(Option.getD x Inhabited.default).2.2.1):=by cases x<;>rfl
theorem Bi(rec:Int->M.ad->Option (Int×List UInt8×M.ad×List (List UInt8)×List M.aa))(t0:Int)(t02:List UInt8)(t2:Int)(o3:List (List UInt8))(o4:List M.aa)(o5:List M.ae)(pL:Int)(pM:Bool):
 M.l8 (fun l p=>rT (rec l p)) t0 t02 t2 o3 o4 o5 pL pM=M.kS rec t0 t02 t2 o3 o4 o5 pL pM:=by
 unfold M.kS M.l8;simp only[Bg,Bh,aa.bq]
theorem aam(t:Int)(t2:List UInt8)(o3:List (List UInt8)):∀f o4,M.kh t t2 o3 f o4=M.nI t t2 o3 f o4:=by
 intro f
 induction f with
 |zero=>intros;rfl
 |succ f ih=>intro o4;rw[M.nI,M.kh];simp only[ih]
theorem aan(rec:Int->M.ad->Option (Int×List UInt8×M.ad×List (List UInt8)×List M.aa))(p:M.ad)(t:Int)(t2:List UInt8)(o3:Int)(o4:List (List UInt8))(o5:List M.aa):
 M.wA (fun l p=>rT (rec l p)) p t t2 o3 o4 o5=M.yn rec p t t2 o3 o4 o5:=by
 unfold M.yn M.wA;simp only[Bi,aam];rfl
theorem aao(rec:Int->M.ad->Option (Int×List UInt8×M.ad×List (List UInt8)×List M.aa))(p:M.ad)(t:Int)(t2:List UInt8)(o3:Int)(o4:List (List UInt8))(o5:List M.aa):
 M.ug (fun l p=>rT (rec l p)) p t t2 o3 o4 o5=M.yo rec p t t2 o3 o4 o5:=by
 unfold M.yo M.ug;simp only[Bi]
theorem aap(rec:Int->M.ad->Option (Int×List UInt8×M.ad×List (List UInt8)×List M.aa))(t1:Int)(t12:List UInt8)(o3:List M.ae)(o32:Int)(uh:Bool)(o4:List (List UInt8))(o5:List M.aa)(o6:Int):
 M.zA (fun l p=>rT (rec l p)) t1 t12 o3 o32 uh o4 o5 o6=M.yp rec t1 t12 o3 o32 uh o4 o5 o6:=by
 unfold M.yp M.zA;simp only[aao]
theorem aaq(rec:Int->M.ad->Option (Int×List UInt8×M.ad×List (List UInt8)×List M.aa))(most:Int):∀f k p o1 fm o3 o6 o7,M.nU (fun l p=>rT (rec l p)) most f k p o1 fm o3 o6 o7=M.vT rec most f k p o1 fm o3 o6 o7:=by
 intro f
 induction f with
 |zero=>intros;rfl
 |succ f ih=>intros;rw[M.nU,M.vT];simp only[Bi,ih]
theorem aar(rec:Int->M.ad->Option (Int×List UInt8×M.ad×List (List UInt8)×List M.aa))(most:Int)(p:M.ad)(o1:Int)(fm:List UInt8)(o3:Int)(o4:List (List UInt8))(o5:List M.aa):
 M.uf (fun l p=>rT (rec l p)) most p o1 fm o3 o4 o5=M.yq rec most p o1 fm o3 o4 o5:=by
 unfold M.uf M.yq;rw[aaq];rfl
theorem aas(rec:Int->M.ad->Option (Int×List UInt8×M.ad×List (List UInt8)×List M.aa))(most:Int):∀f k p o1 fm o3 o6 o7,M.nV (fun l p=>rT (rec l p)) most f k p o1 fm o3 o6 o7=M.vU rec most f k p o1 fm o3 o6 o7:=by
 intro f
 induction f with
 |zero=>intros;rfl
 |succ f ih=>intros;rw[M.nV,M.vU];simp only[aap,ih]
theorem aat(rec:Int->M.ad->Option (Int×List UInt8×M.ad×List (List UInt8)×List M.aa))(most:Int)(p:M.ad)(o1:Int)(fm:List UInt8)(o4:List (List UInt8))(o5:List M.aa)(o6:Int):
 M.ui (fun l p=>rT (rec l p)) most p o1 fm o4 o5 o6=M.yt rec most p o1 fm o4 o5 o6:=by
 unfold M.ui M.yt;rw[aas];rfl
theorem aau(rec:Int->M.ad->Option (Int×List UInt8×M.ad×List (List UInt8)×List M.aa))(l:Int)(p:M.ad):M.mW (fun l p=>rT (rec l p)) l p=rT (M.yu rec l p):=by
 unfold M.mW M.yu;simp only[aal,aak,aaj,Bi,aar,aat,aan]
theorem MW:∀n,M.pP n=fun l p=>rT (M.sM n l p)
 |0=>rfl
 |n+1=>by
  funext l p
  show M.mW (M.pP n) l p=rT (M.yu (M.sM n) l p)
  rw[MW n,aau]
theorem GO(l:Int)(p:M.ad):M.uj l p=rT (M.pv l p):=by
 show M.pP ai l p=rT (M.sM ai l p)
 rw[MW]
def rI(x:Option (Int×List UInt8×Int×List UInt8×Bool×List UInt8×List UInt8×List UInt8×M.ad×List (List UInt8)×List M.aa×List M.aA×List M.aH)):Option (M.ak×M.ad):=x.map fun q=>(M.ak.mk q.1 q.2.1 (M.aa.mk q.2.2.1 q.2.2.2.1 q.2.2.2.2.2.2.2.2.2.1 q.2.2.2.2.2.2.2.2.2.2.1) q.2.2.2.2.2.2.2.2.2.2.2.1 q.2.2.2.2.1 (M.bh.mk q.2.2.2.2.2.1 q.2.2.2.2.2.2.1 q.2.2.2.2.2.2.2.1) q.2.2.2.2.2.2.2.2.2.2.2.2,q.2.2.2.2.2.2.2.2.1)
theorem MX:rI none=none:=rfl
theorem MY(q):rI (some q)=some (M.ak.mk q.1 q.2.1 (M.aa.mk q.2.2.1 q.2.2.2.1 q.2.2.2.2.2.2.2.2.2.1 q.2.2.2.2.2.2.2.2.2.2.1) q.2.2.2.2.2.2.2.2.2.2.2.1 q.2.2.2.2.1 (M.bh.mk q.2.2.2.2.2.1 q.2.2.2.2.2.2.1 q.2.2.2.2.2.2.2.1) q.2.2.2.2.2.2.2.2.2.2.2.2,q.2.2.2.2.2.2.2.2.1):=rfl
theorem MZ(b:Bool)(x y:Option (Int×List UInt8×Int×List UInt8×Bool×List UInt8×List UInt8×List UInt8×M.ad×List (List UInt8)×List M.aa×List M.aA×List M.aH)):rI (bif b then x else y)=bif b then rI x else rI y:=by cases b<;>rfl
theorem M1(x:Option (Int×List UInt8×Int×List UInt8×Bool×List UInt8×List UInt8×List UInt8×M.ad×List (List UInt8)×List M.aa×List M.aA×List M.aH)):(rI x).isSome=x.isSome:=by cases x<;>rfl
theorem M3(x:Option (Int×List UInt8×Int×List UInt8×Bool×List UInt8×List UInt8×List UInt8×M.ad×List (List UInt8)×List M.aa×List M.aA×List M.aH)):Option.getD (rI x) Inhabited.default=(M.ak.mk (Option.getD x Inhabited.default).1 (Option.getD x Inhabited.default).2.1 (M.aa.mk (Option.getD x Inhabited.default).2.2.1 (Option.getD x Inhabited.default).2.2.2.1 (Option.getD x Inhabited.default).2.2.2.2.2.2.2.2.2.1 (Option.getD x Inhabited.default).2.2.2.2.2.2.2.2.2.2.1) (Option.getD x Inhabited.default).2.2.2.2.2.2.2.2.2.2.2.1 (Option.getD x Inhabited.default).2.2.2.2.1 (M.bh.mk (Option.getD x Inhabited.default).2.2.2.2.2.1 (Option.getD x Inhabited.default).2.2.2.2.2.2.1 (Option.getD x Inhabited.default).2.2.2.2.2.2.2.1) (Option.getD x Inhabited.default).2.2.2.2.2.2.2.2.2.2.2.2,(Option.getD x Inhabited.default).2.2.2.2.2.2.2.2.1):=by cases x<;>rfl
theorem aav(t1:Int)(t12:List UInt8)(t13:Int)(t14:List UInt8)(t15:Bool)(t16 t17 t18:List UInt8)(o2:List M.ae)(cn:Int)(cA:Bool)(o3:List (List UInt8))(o4:List M.aa)(o5:List M.aA)(o6:List M.aH):M.wB t1 t12 t13 t14 t15 t16 t17 t18 o2 cn cA o3 o4 o5 o6=M.yv t1 t12 t13 t14 t15 t16 t17 t18 o2 cn cA o3 o4 o5 o6:=by
 unfold M.wB M.yv;simp only[GO,Bg,Bh,aa.bq]
theorem aaw(most:Int):∀f k p o2 cn cA dh di dj dk dm o3 o4 o5 o6,M.pQ most f k p o2 cn cA dh di dj dk dm o3 o4 o5 o6=M.vV most f k p o2 cn cA dh di dj dk dm o3 o4 o5 o6:=by
 intro f
 induction f with
 |zero=>intros;rfl
 |succ f ih=>intros;rw[M.pQ,M.vV];simp only[aav,ih]
theorem aax(most:Int)(p:M.ad)(o2:Int)(cn:List UInt8)(cA:Int)(dh:List UInt8)(di:Bool)(dj dk dm:List UInt8)(o3:List (List UInt8))(o4:List M.aa)(o5:List M.aA)(o6:List M.aH):M.uk most p o2 cn cA dh di dj dk dm o3 o4 o5 o6=M.yw most p o2 cn cA dh di dj dk dm o3 o4 o5 o6:=by
 unfold M.uk M.yw;rw[aaw];rfl
theorem aay(t1:Int)(t12:List UInt8)(t13:Int)(t14:List UInt8)(t15:Bool)(t16 t17 t18:List UInt8)(o2:List M.ae)(cn:Int)(cA:Bool)(o3:List (List UInt8))(o4:List M.aa)(o5:List M.aA)(o6:List M.aH):M.zB t1 t12 t13 t14 t15 t16 t17 t18 o2 cn cA o3 o4 o5 o6=M.Bj t1 t12 t13 t14 t15 t16 t17 t18 o2 cn cA o3 o4 o5 o6:=by
 rw[M.zB,M.Bj]
theorem aaz(most:Int):∀f k p o2 cn cA dh di dj dk dm o3 o4 o5 o6,M.pR most f k p o2 cn cA dh di dj dk dm o3 o4 o5 o6=M.vW most f k p o2 cn cA dh di dj dk dm o3 o4 o5 o6:=by
 intro f
 induction f with
 |zero=>intros;rfl
 |succ f ih=>intros;rw[M.pR,M.vW];simp only[aay,ih]
theorem aaA(most:Int)(p:M.ad)(o2:Int)(cn:List UInt8)(cA:Int)(dh:List UInt8)(di:Bool)(dj dk dm:List UInt8)(o3:List (List UInt8))(o4:List M.aa)(o5:List M.aA)(o6:List M.aH):M.qY most p o2 cn cA dh di dj dk dm o3 o4 o5 o6=M.yx most p o2 cn cA dh di dj dk dm o3 o4 o5 o6:=by
 unfold M.qY M.yx;rw[aaz];rfl
theorem aaB(name:List UInt8)(p:M.ad):M.um name p=rI (M.vX name p):=by
 unfold M.um M.vX;simp only[MZ,MY,MX,aax,GO,Bg,Bh,aa.bq]
theorem aaC(p:M.ad):M.wC p=rI (M.yy p):=by
 unfold M.wC M.yy;simp only[MZ,MY,MX,aaB,M1,M3,aaA,GO,Bg,Bh,aa.bq,ak.bq]
def rF(x:Option (List UInt8×M.ad×List M.ak)):Option (M.aC×M.ad):=x.map fun q=>(M.aC.mk q.1 q.2.2,q.2.1)
theorem aaD:rF none=none:=rfl
theorem aaE(q):rF (some q)=some (M.aC.mk q.1 q.2.2,q.2.1):=rfl
theorem aaF(b:Bool)(x y:Option (List UInt8×M.ad×List M.ak)):rF (bif b then x else y)=bif b then rF x else rF y:=by cases b<;>rfl
theorem aaG(x:Option (List UInt8×M.ad×List M.ak)):(rF x).isSome=x.isSome:=by cases x<;>rfl
theorem aaH(x:Option (List UInt8×M.ad×List M.ak)):Option.getD (rF x) Inhabited.default=(M.aC.mk (Option.getD x Inhabited.default).1 (Option.getD x Inhabited.default).2.2,(Option.getD x Inhabited.default).2.1):=by cases x<;>rfl
def rW(x:Option (List UInt8×M.ad×List M.aG)):Option (M.aL×M.ad):=x.map fun q=>(M.aL.mk q.1 q.2.2,q.2.1)
theorem aaI:rW none=none:=rfl
theorem aaJ(q):rW (some q)=some (M.aL.mk q.1 q.2.2,q.2.1):=rfl
theorem aaK(b:Bool)(x y:Option (List UInt8×M.ad×List M.aG)):rW (bif b then x else y)=bif b then rW x else rW y:=by cases b<;>rfl
theorem aaL(x:Option (List UInt8×M.ad×List M.aG)):(rW x).isSome=x.isSome:=by cases x<;>rfl
theorem aaM(x:Option (List UInt8×M.ad×List M.aG)):Option.getD (rW x) Inhabited.default=(M.aL.mk (Option.getD x Inhabited.default).1 (Option.getD x Inhabited.default).2.2,(Option.getD x Inhabited.default).2.1):=by cases x<;>rfl
def rP(x:Option (List UInt8×List UInt8×Int×Int×List M.aC×List M.aL)):Option (M.bf×Int×Int):=x.map fun q=>(M.bf.mk q.1 q.2.1 q.2.2.2.2.1 q.2.2.2.2.2,q.2.2.1,q.2.2.2.1)
theorem aaN:rP none=none:=rfl
theorem M4(q):rP (some q)=some (M.bf.mk q.1 q.2.1 q.2.2.2.2.1 q.2.2.2.2.2,q.2.2.1,q.2.2.2.1):=rfl
theorem aaO(b:Bool)(x y:Option (List UInt8×List UInt8×Int×Int×List M.aC×List M.aL)):rP (bif b then x else y)=bif b then rP x else rP y:=by cases b<;>rfl
theorem aaP(t2 x:List UInt8)(o5:List M.ak):∀f p o6,M.uo t2 x o5 f p o6=M.sN t2 x o5 f p o6:=by
 intro f
 induction f with
 |zero=>intros;rfl
 |succ f ih=>intros;rw[M.uo,M.sN];simp only[aaC,M1,M3,ak.bq,ih]
theorem aaQ(p:M.ad):M.uu p=rF (M.yz p):=by
 unfold M.uu M.yz;simp only[aaP];generalize M.sN _ _ _ _ _ _=r;cases r with
 |none=>rfl
 |some y=>simp only[aaF,aaE,aaD]
theorem aaR(t2 x:List UInt8)(o5:List M.aG):∀f p o6,M.nW t2 x o5 f p o6=M.nJ t2 x o5 f p o6:=by
 intro f
 induction f with
 |zero=>intros;rfl
 |succ f ih=>intros;rw[M.nW,M.nJ];simp only[ih]
theorem aaS(p:M.ad):M.qZ p=rW (M.vY p):=by
 unfold M.qZ M.vY;simp only[aaR];generalize M.nJ _ _ _ _ _ _=r;cases r with
 |none=>rfl
 |some y=>simp only[aaK,aaJ,aaI]
theorem aaT(t2 t22 x x2:List UInt8)(o7:List M.aC)(o8:List M.aL):∀f p o9 bG,M.jd t2 t22 x x2 o7 o8 f p o9 bG=M.lX t2 t22 x x2 o7 o8 f p o9 bG:=by
 intro f
 induction f with
 |zero=>intros;rfl
 |succ f ih=>intros;rw[M.jd,M.lX];simp only[aaQ,aaG,aaH,aaS,aaL,aaM,ih]
theorem aaU(p:M.ad):M.wE p=M.yA p:=by
 unfold M.wE M.yA;simp only[aaT];rfl
theorem aaV(p:M.ad)(t1 t12:List UInt8)(o2:List M.aC)(o3:List M.aL):M.wF p t1 t12 o2 o3=M.yB p t1 t12 o2 o3:=by
 unfold M.wF M.yB;simp only[aaU]
theorem aaW(s o0 pS:List UInt8)(o1:List M.aC)(o2:List M.aL):M.mY s o0 pS o1 o2=M.yC s o0 pS o1 o2:=by
 unfold M.mY M.yC;simp only[aaV]
theorem aaX(s:List UInt8):M.zC s=rP (M.sO s):=by
 unfold M.zC M.sO;simp only[aaO,M4,aaN,aaW]
end M
namespace M
open Go.V (inB bT kq ai bB)
theorem vZ{α:Type}(f:α->Nat):∀a b:List α,aV f (a++b)=aV f a+aV f b
 |[],b=>by simp[aV]
 |x::r,b=>by simp only[oa,aV,vZ f r b];omega
theorem Bl{α:Type}(f:α->Nat)(x:α):aV f [x]=f x+1:=by simp only[aV]
theorem aaY{l:List ae}{k:Nat}(h:l.length<=k):bE l k=ae.zero:=by
 unfold bE;rw[fB,ki h];rfl
theorem fy{l:List ae}{t:List UInt8}{k k':Nat}{v:Unit}(h:bV l t k=.ok v k'):k'=k+1:=by
 unfold bV at h;cases hb:aB l t k<;>rw[hb]at h<;>cases h;rfl
theorem M5{l:List ae}{k:Nat}(h:ie l k=true):(bE l k).Text.length<=12:=by
 unfold ie kH at h;simp only[bz,bN]at h;exact h.2.2.1.2
theorem pw{l:List ae}{k k':Nat}{v:List UInt8}(h:f9 l k=.ok v k'):k'=k+1/\v.length<=12:=by
 unfold f9 at h;cases hb:ie l k<;>rw[hb]at h<;>cases h;exact⟨rfl,M5 hb⟩
theorem yD{l:List ae}{k k':Nat}{v:List UInt8}(h:ly l k=.ok v k'):k'=k+1/\v.length<=12:=by
 unfold ly at h;cases hb:lQ l k<;>rw[hb]at h<;>cases h;unfold lQ at hb;rw[bz]at hb;exact⟨rfl,M5 hb.1⟩
theorem M6{l:List ae}{k k':Nat}{v:List UInt8}(h:vC l k=.ok v k'):k'=k+1/\v.length<=11:=by
 unfold vC at h;cases hb:nw l k<;>rw[hb]at h<;>cases h;unfold nw oZ at hb;rw[bz]at hb;refine⟨rfl,?_⟩;obtain⟨n,hn⟩:=Option.isSome_iff_exists.1 hb.2;rw[((dE.Ds _ _).1 hn).2];exact dE.IE n
theorem yE{α:Type}{w:α->Nat}(l:List ae)(el:Nat->PR α)(he:∀(k:Nat)(v:α)(k':Nat),el k=.ok v k'->w v+1+40*k<=40*k'):
 ∀(m:Nat)(acc:List α)(k:Nat)(vs:List α)(k':Nat),dN l el m acc k=.ok vs k'->aV w vs+40*k<=aV w acc+40*k'
 |m,acc,k,vs,k',h=>by
  rw[dN.eq_def]at h;dsimp only at h;cases hk:el k with
  |no q=>rw[hk]at h;cases h
  |ok v k1=>
   rw[hk]at h;have g:=he _ _ _ hk;have es:aV w (acc++[v])=aV w acc+(w v+1):=by rw[vZ,Bl]
   cases m with
   |zero=>cases h;rw[es];omega
   |succ m=>
    simp only at h;cases hc:aB l [44] k1<;>rw[hc]at h
    ·cases h;rw[es];omega
    ·have r:=yE l el he m (acc++[v]) (k1+1) vs k' h;rw[es]at r;omega
theorem GQ{α:Type}{w:α->Nat}(l:List ae)(el:Nat->PR α)(he:∀(k:Nat)(v:α)(k':Nat),el k=.ok v k'->w v+1+40*k<=40*k'):
 ∀(m:Nat)(acc:List α)(k:Nat)(vs:List α)(k':Nat),fl l el m acc k=.ok vs k'->aV w vs+40*k<=aV w acc+40*k'
 |0,acc,k,vs,k',h=>by
  rw[fl]at h;obtain⟨_,k1,h1,h⟩:=bind_ok h;cases h;have:=fy h1;omega
 |m+1,acc,k,vs,k',h=>by
  rw[fl]at h;cases hc:aB l [125] k<;>rw[hc]at h
  ·simp only[ar]at h;obtain⟨x,k1,hx,h⟩:=bind_ok h;have g:=he _ _ _ hx;have r:=GQ l el he m _ _ _ _ h;rw[vZ,Bl]at r;omega
  ·cases h;omega
def qP(v:List UInt8×List aa):Nat:=v.1.length+aV aa.sz v.2
theorem yF:dO.sz=0:=by unfold dO;rw[aa.ct];rfl
theorem aaZ{l:List ae}{K:Int}{d:Nat}(ih:∀(k:Nat)(t:aa)(k':Nat),d5 l d k=.ok t k'->t.sz+1+40*k<=40*k'){k k':Nat}{v:List UInt8×List aa}(h:ga l K (d5 l d) k=.ok v k'):qP v+1+40*k<=40*k':=by
 unfold ga at h;obtain⟨w,k1,hw,h⟩:=bind_ok h;obtain⟨n1,n2⟩:=pw hw;cases h16:(K==(16:Int))<;>rw[h16]at h
 ·cases h17:(K==(17:Int))<;>rw[h17]at h
  ·cases h;simp only[qP,aV];omega
  ·simp only[ar,af]at h;cases hc:aB l [40] k1<;>rw[hc]at h
   ·cases h;simp only[qP,aV,yF];omega
   ·obtain⟨t0,k3,h0,h⟩:=bind_ok h;obtain⟨_,k4,h4,h⟩:=bind_ok h;cases h;have a:=ih _ _ _ h0;have b:=fy h4;simp only[qP,aV];omega
 ·obtain⟨_,k2,h2,h⟩:=bind_ok h;obtain⟨t0,k3,h0,h⟩:=bind_ok h;cases h;have a:=ih _ _ _ h0;have b:=fy h2;simp only[qP,aV];omega
theorem M7:∀ps:List (List UInt8×List aa),aV List.length (ps.map (·.1))+aV aa.sz (ps.map (·.2)).flatten=aV qP ps
 |[]=>rfl
 |p::r=>by
  have:=M7 r;rw[gV,gV,List.flatten_cons,vZ];simp only[aV,qP];omega
theorem aa0{l:List ae}{d:Nat}(ih:∀(k:Nat)(t:aa)(k':Nat),d5 l d k=.ok t k'->t.sz+1+40*k<=40*k'){k k':Nat}{v:List aa}(h:pd l (d5 l d) k=.ok v k'):aV aa.sz v+40*k<=4+40*k':=by
 unfold pd at h;cases h60:aB l [60] k<;>rw[h60]at h
 ·cases h;simp only[aV,yF];omega
 ·simp only[af]at h;obtain⟨a,k1,ha,h⟩:=bind_ok h;obtain⟨b,k2,hb,h⟩:=bind_ok h;obtain⟨_,k3,h3,h⟩:=bind_ok h;cases h;have n1:=fy h3;have pa:a.sz+1+40*k+39<=40*k1:=by
   cases h95:aB l [95] (k+1)<;>rw[h95]at ha
   ·have:=ih _ _ _ ha;omega
   ·cases ha;rw[yF];omega
  have pb:b.sz+1+40*k1<=1+40*k2:=by
   cases iS:aB l [44] k1<;>rw[iS]at hb
   ·cases hb;rw[yF];omega
   ·have:=ih _ _ _ hb;omega
  simp only[aV];omega
theorem Bm(l:List ae):∀(d k:Nat)(t:aa)(k':Nat),d5 l d k=.ok t k'->t.sz+1+40*k<=40*k'
 |0,k,t,k',h=>by cases h
 |d+1,k,t,k',h=>by
  rw[d5]at h;obtain⟨w,k1,hw,h⟩:=bind_ok h;obtain⟨n1,n2⟩:=pw hw;have ih:=Bm l d;generalize dD w=K at h;cases c0:(K==0)<;>rw[c0]at h
  ·simp only[ar]at h;cases c1:((K==12)||((K==13)||((K==22)||(K==23))))<;>rw[c1]at h
   ·simp only[ar]at h;cases c2:(K==15)<;>rw[c2]at h
    ·simp only[ar]at h;cases c3:((K==20)||(K==21))<;>rw[c3]at h
     ·simp only[ar]at h;cases c4:(K==14)<;>rw[c4]at h
      ·simp only[ar]at h;cases c5:((K==16)||((K==17)||((K==18)||(K==19))))<;>rw[c5]at h
       ·cases h;rw[aa.ct];simp only[aa.Name,aa.bA,aa.Kids,aV,fM];omega
       ·simp only[af]at h;obtain⟨_,k2,h2,h⟩:=bind_ok h;obtain⟨ps,k3,hp,h⟩:=bind_ok h;obtain⟨_,k4,h4,h⟩:=bind_ok h;cases h;have m1:=fy h2;have m2:=fy h4;have r:=yE (w:=qP) l _ (fun k v k' hv=>aaZ ih hv) 15 [] _ ps _ hp;have e:=M7 ps;rw[aa.ct];simp only[aa.Name,aa.bA,aa.Kids,aV,fM]at r⊢;omega
      ·simp only[af]at h;obtain⟨ts,k2,ht,h⟩:=bind_ok h;cases h;have r:=aa0 ih ht;rw[aa.ct];simp only[aa.Name,aa.bA,aa.Kids,aV,fM];omega
     ·simp only[af]at h;obtain⟨_,k2,h2,h⟩:=bind_ok h;obtain⟨nm,k3,h3,h⟩:=bind_ok h;obtain⟨_,k4,h4,h⟩:=bind_ok h;cases h;have m1:=fy h2;have m2:=fy h4;obtain⟨m3,m4⟩:=yD h3;rw[aa.ct];simp only[aa.Name,aa.bA,aa.Kids,aV,fM];omega
    ·simp only[af]at h;obtain⟨_,k2,h2,h⟩:=bind_ok h;obtain⟨ts,k3,h3,h⟩:=bind_ok h;obtain⟨_,k4,h4,h⟩:=bind_ok h;cases h;have m1:=fy h2;have m2:=fy h4;have r:=yE (w:=aa.sz) l _ ih 5 [] _ ts _ h3;rw[aa.ct];simp only[aa.Name,aa.bA,aa.Kids,aV,fM]at r⊢;omega
   ·simp only[af]at h;obtain⟨_,k2,h2,h⟩:=bind_ok h;obtain⟨t0,k3,h3,h⟩:=bind_ok h;obtain⟨_,k4,h4,h⟩:=bind_ok h;cases h;have m1:=fy h2;have m2:=fy h4;have r:=ih _ _ _ h3;rw[aa.ct];simp only[aa.Name,aa.bA,aa.Kids,aV,fM];omega
  ·cases h;rw[aa.ct];simp only[aa.Name,aa.bA,aa.Kids,aV,fM];omega
theorem aa1{l:List ae}(k:Nat)(v:aA)(k':Nat)(h:kP l k=.ok v k'):v.sz+1+40*k<=40*k':=by
 unfold kP at h;obtain⟨w,k1,h1,h⟩:=bind_ok h;obtain⟨_,k2,h2,h⟩:=bind_ok h;obtain⟨t,k3,h3,h⟩:=bind_ok h;cases h;obtain⟨a1,a2⟩:=pw h1;have b:=fy h2;have c:=Bm l 4 _ _ _ h3;rw[aA.ct];dsimp only;omega
theorem aa2{l:List ae}(k:Nat)(v:aH)(k':Nat)(h:ke l k=.ok v k'):v.sz+1+40*k<=40*k':=by
 unfold ke at h;obtain⟨a,k1,h1,h⟩:=bind_ok h;obtain⟨a1,a2⟩:=yD h1;cases hc:aB l [97,115] k1<;>rw[hc]at h
 ·cases h;rw[aH.ct];simp only[fM];omega
 ·simp only[af]at h;obtain⟨b,k2,h2,h⟩:=bind_ok h;cases h;obtain⟨b1,b2⟩:=yD h2;rw[aH.ct];dsimp only;omega
def v7(p:bh):Nat:=p.dw.length+p.Name.length+p.Version.length
theorem M8{l:List ae}{k k':Nat}{p:bh}(h:nB l k=.ok p k'):v7 p+4+40*k<=40*k':=by
 unfold nB at h;obtain⟨a,k1,h1,h⟩:=bind_ok h;obtain⟨a1,a2⟩:=pw h1;cases h47:aB l [47] k1<;>rw[h47]at h
 ·cases h;simp only[v7,fM];omega
 ·simp only[af]at h;obtain⟨b,k2,h2,h⟩:=bind_ok h;obtain⟨b1,b2⟩:=pw h2;cases h64:aB l [64] k2<;>rw[h64]at h
  ·cases h;simp only[v7,fM];omega
  ·simp only[af]at h;obtain⟨v,k3,h3,h⟩:=bind_ok h;cases h;obtain⟨c1,c2⟩:=M6 h3;simp only[v7];omega
theorem aa3{l:List ae}{k k':Nat}{ps:List aA}(h:vF l k=.ok ps k'):aV aA.sz ps+40*k+40<=40*k':=by
 unfold vF at h;obtain⟨_,k1,h1,h⟩:=bind_ok h;have a:=fy h1;cases hc:aB l [41] k1<;>rw[hc]at h
 ·simp only[ar]at h;obtain⟨qs,k2,h2,h⟩:=bind_ok h;obtain⟨_,k3,h3,h⟩:=bind_ok h;cases h;have r:=yE (w:=aA.sz) l _ aa1 5 [] _ ps _ h2;have b:=fy h3;simp only[aV]at r;omega
 ·cases h;simp only[aV];omega
theorem aa4{l:List ae}{k k':Nat}{t:aa}(h:yc l k=.ok t k'):t.sz+40*k<=40*k':=by
 unfold yc at h;cases hc:aB l [45,62] k<;>rw[hc]at h
 ·cases h;rw[yF];omega
 ·have:=Bm l 4 _ _ _ h;omega
theorem M9:kf.sz=0:=by unfold kf;rw[aa.ct];rfl
theorem aa5{l:List ae}{nm:List UInt8}(hn:nm.length<=12){k k':Nat}{v:ak}(h:pn l nm k=.ok v k'):v.sz+28+40*k<=40*k':=by
 have:∀as k,sF l nm as k=.ok v k'->v.sz+28+40*k<=40*k':=fun as k h=>by
  unfold sF at h;obtain⟨_,k1,h1,h⟩:=bind_ok h;obtain⟨ps,k2,h2,h⟩:=bind_ok h;obtain⟨t,k3,h3,h⟩:=bind_ok h;cases h;have a:=fy h1;have b:=aa3 h2;have c:=aa4 h3;rw[ak.ct];simp only[aV,gK,bh.ct,fM];omega
 unfold pn at h;cases hc:aB l qF k<;>rw[hc]at h
 ·exact this _ _ h
 ·have:=this _ _ h;omega
theorem aa6(l:List ae)(k:Nat)(v:ak)(k':Nat)(h:lW l k=.ok v k'):v.sz+1+40*k<=40*k':=by
 unfold lW nC at h;obtain⟨x,k1,hx,h⟩:=bind_ok h;obtain⟨_,k9,h9,h⟩:=bind_ok h;cases h;have z:=fy h9;obtain⟨nm,k2,hn,hx⟩:=bind_ok hx;obtain⟨n1,n2⟩:=pw hn;unfold kR at hx;cases jL:aB l [58] k2<;>rw[jL]at hx
 ·cases hR:(nm==mG)<;>rw[hR]at hx
  ·cases hY:(nm==pg)<;>rw[hY]at hx
   ·cases hU:(nm==pj)<;>rw[hU]at hx
    ·cases hx
    ·simp only[af,ar]at hx;unfold yd at hx;obtain⟨p,k3,h3,hx⟩:=bind_ok hx;obtain⟨_,k4,h4,hx⟩:=bind_ok hx;obtain⟨_,k5,h5,hx⟩:=bind_ok hx;obtain⟨us,k6,h6,hx⟩:=bind_ok hx;obtain⟨_,k7,h7,hx⟩:=bind_ok hx;cases hx;have b1:=M8 h3;have b2:=fy h4;have b3:=fy h5;have b4:=yE (w:=aH.sz) l _ aa2 15 [] _ us _ h6;have b5:=fy h7;rw[ak.ct];simp only[v7,bh.ct,aV,M9,fM]at b1 b4⊢;omega
   ·simp only[af,ar]at hx;obtain⟨n,k3,h3,hx⟩:=bind_ok hx;obtain⟨_,k4,h4,hx⟩:=bind_ok hx;obtain⟨t,k5,h5,hx⟩:=bind_ok hx;cases hx;obtain⟨b1,b2⟩:=yD h3;have b3:=fy h4;have b4:=Bm l 4 _ _ _ h5;rw[ak.ct];simp only[aV,gK,bh.ct,fM];omega
  ·simp only[af,ar]at hx;obtain⟨n,k3,h3,hx⟩:=bind_ok hx;cases hx;obtain⟨b1,b2⟩:=yD h3;rw[ak.ct];simp only[aV,gK,M9,bh.ct,fM];omega
 ·simp only[af]at hx;have:=aa5 n2 hx;omega
theorem aa7(l:List ae)(k:Nat)(v:aC)(k':Nat)(h:mH l k=.ok v k'):v.sz+1+40*k<=40*k':=by
 unfold mH at h;obtain⟨n,k1,h1,h⟩:=bind_ok h;obtain⟨_,k2,h2,h⟩:=bind_ok h;obtain⟨xs,k3,h3,h⟩:=bind_ok h;cases h;obtain⟨a1,a2⟩:=pw h1;have b:=fy h2;have c:=GQ (w:=ak.sz) l _ (aa6 l) 16 [] _ xs _ h3;rw[aC.ct];simp only[aV]at c⊢;omega
theorem GR{l:List ae}{K:Int}{k k':Nat}{v:aG}(h:qH l K k=.ok v k'):v.sz+1+40*k<=40*k':=by
 unfold qH at h;obtain⟨p,k1,h1,h⟩:=bind_ok h;obtain⟨_,k2,h2,h⟩:=bind_ok h;cases h;have a:=M8 h1;have b:=fy h2;rw[aG.ct];simp only[v7,bh.ct]at a⊢;omega
theorem aa8(l:List ae)(k:Nat)(v:aL)(k':Nat)(h:po l k=.ok v k'):v.sz+1+40*k<=40*k':=by
 unfold po at h;obtain⟨n,k1,h1,h⟩:=bind_ok h;obtain⟨_,k2,h2,h⟩:=bind_ok h;obtain⟨xs,k3,h3,h⟩:=bind_ok h;cases h;obtain⟨a1,a2⟩:=pw h1;have b:=fy h2;have c:=GQ (w:=aG.sz) l (iU l) (fun k v k' h=>by
  unfold iU at h;cases h1:aB l mI k<;>rw[h1]at h
  ·cases h2:aB l mJ k<;>rw[h2]at h
   ·cases h3:aB l mK k<;>rw[h3]at h
    ·cases h
    ·have:=GR h;omega
   ·have:=GR h;omega
  ·have:=GR h;omega) 16 [] _ xs _ h3
 rw[aL.ct];simp only[aV]at c⊢;omega
theorem GU(l:List ae):∀(m:Nat)(fs:List aC)(ws:List aL)(k:Nat)(v:List aC×List aL)(k':Nat),eC l m fs ws k=.ok v k'->aV aC.sz v.1+aV aL.sz v.2+40*k<=aV aC.sz fs+aV aL.sz ws+40*k'
 |0,fs,ws,k,v,k',h=>by
  rw[eC]at h;cases c:((bE l k).Kind==4)<;>rw[c]at h<;>cases h;exact bH _
 |m+1,fs,ws,k,v,k',h=>by
  rw[eC]at h;cases c:((bE l k).Kind==4)<;>rw[c]at h
  ·simp only[ar]at h;cases c1:(decide (((fs.length:Nat):Int)<8)&&aB l nE k)<;>rw[c1]at h
   ·simp only[ar]at h;cases c2:(decide (((ws.length:Nat):Int)<8)&&aB l qI k)<;>rw[c2]at h
    ·cases h
    ·simp only[af]at h;obtain⟨w,k1,h1,h⟩:=bind_ok h;have a:=aa8 l _ _ _ h1;have r:=GU l m _ _ _ _ _ h;rw[vZ,Bl]at r;omega
   ·simp only[af]at h;obtain⟨f,k1,h1,h⟩:=bind_ok h;have a:=aa7 l _ _ _ h1;have r:=GU l m _ _ _ _ _ h;rw[vZ,Bl]at r;omega
  ·cases h;exact bH _
theorem aa9(l:List ae)(k:Nat)(p:bf)(k':Nat)(h:iV l k=.ok p k'):p.sz+40*k<=40*k':=by
 unfold iV at h;obtain⟨_,k1,h1,h⟩:=bind_ok h;obtain⟨n,k2,h2,h⟩:=bind_ok h;obtain⟨_,k3,h3,h⟩:=bind_ok h;obtain⟨v,k4,h4,h⟩:=bind_ok h;obtain⟨_,k5,h5,h⟩:=bind_ok h;obtain⟨q,k6,h6,h⟩:=bind_ok h;cases h;have a1:=fy h1;obtain⟨a2,a3⟩:=pw h2;have a4:=fy h3;obtain⟨a5,a6⟩:=M6 h4;have a7:=fy h5;have a8:=GU l 16 [] [] _ _ _ h6;rw[bf.ct];simp only[aV]at a8⊢;omega
theorem aba(s:List UInt8)(x:bf)(h:jn s=.inr x):x.sz<=200000:=by
 unfold jn at h;split at h
 ·rename_i h0;split at h
  ·cases h
  ·rename_i hp;cases h;have hl:=(Gp s h0).len;have key:∀kk,iV (dQ s).1 0=.ok x kk->x.sz<=200000:=fun kk hp=>by
    have z:=aa9 _ _ _ _ hp;have e:=MI _ _ _ _ hp;rcases cV kk (dQ s).1.length with q|q
    ·omega
    ·rw[aaY q]at e;exact absurd e (by show ¬(0:Int)=4;decide)
   exact key _ hp
 ·cases h
end M
namespace M
open Go.V (inB bT ai bB)
theorem sP{α:Type}{l:List α}{i:Nat}(h:i<l.length)(x d:α):(l.set i x).getD i d=x:=by
 rw[fB,List.getElem?_set_self h];rfl
theorem abb{n:Nat}(h:n<10):Go.IntKind.wrap .u8 (Go.IntKind.wrap .i64 ((48:Int)+(n:Int)))=((48+n:Nat):Int):=by
 rw[wrap_i64 (by omega) (by omega)];have:∀m:Fin 10,Go.IntKind.wrap .u8 ((48:Int)+((m.val:Nat):Int))=((48+m.val:Nat):Int):=by decide
 exact this ⟨n,h⟩
theorem abd{n:Nat}(h:n<10):Go.V.mz ((48+n:Nat):Int)=true:=by
 unfold Go.V.mz;simp only[bz,bN];omega
theorem Na:∀(j f k:Nat)(out:List UInt8),k<10^j->j<f->k<4611686018427387904->out.length+j<=1000->∃s,M.sQ f (k:Int) out=some s/\s.length<=out.length+j
 |j,0,k,out,_,h,_,_=>by omega
 |0,f+1,k,out,h1,h2,h3,h4=>by
  have:k=0:=by simpa using h1
  subst this;exact⟨out,by rw[M.sQ];simp,bH _⟩
 |j+1,f+1,k,out,h1,h2,h3,h4=>by
  rw[M.sQ];rcases jP k with h0|h0
  ·subst h0;exact⟨out,by simp,by omega⟩
  ·have hd:decide ((0:Int)<(k:Int))=true:=by rw[bN];omega
   have e3:Int.tmod (k:Int) 10=((k%10:Nat):Int):=(Int.ofNat_tmod k 10).symm;have e4:Go.IntKind.wrap .i64 (Int.tdiv (k:Int) 10)=((k/10:Nat):Int):=by
    rw[show Int.tdiv (k:Int) 10=((k/10:Nat):Int)from(Int.ofNat_tdiv k 10).symm,wrap_i64 (by omega) (by omega)]
   have hm:k%10<10:=Nat.mod_lt _ (by decide);obtain⟨s,g1,g2⟩:=Na j f (k/10) ([Go.V.nu ((48+k%10:Nat):Int)]++out) (by rw[Nat.pow_succ]at h1;omega) (by omega) (by omega) (by simp;omega);refine⟨s,?_,by simp at g2;omega⟩;simp only[hd,e3,e4,abb hm,abd hm,af,gV,List.map_nil];rw[sR (by simp;omega)];exact g1
theorem abe(k:Int)(h0:0<=k)(h1:k<=1000000000000):∃s,M.cT k=some s:=by
 obtain⟨n,rfl⟩:=IJ h0;unfold M.cT;by_cases hz:(n:Int)<=0
 ·rw[eX hz];exact⟨_,rfl⟩
 ·rw[fL hz];obtain⟨s,e,hl⟩:=Na 13 ai n [] (by omega) (by have:=bB;omega) (by omega) (by simp);rw[e];simp only[ar];rw[sR (by simp at hl⊢;omega)];exact⟨_,rfl⟩
noncomputable def mT(k:Int):List UInt8:=(M.cT k).getD Inhabited.default
theorem iW{k:Int}(h0:0<=k)(h1:k<=1000000000000):M.cT k=some (mT k):=by
 obtain⟨s,e⟩:=abe k h0 h1;unfold mT;rw[e];rfl
theorem up{k:Int}(h0:0<=k)(h1:k<=1000000000000):Go.IntKind.wrap .i64 (k+1)=k+1:=wrap_i64 (by omega) (by omega)
theorem three:((3:Int) !=0)=true:=rfl
def az{α:Type}(mk:Int->α->Int×α):Int->List α->Int×List α
 |k,[]=>(k,[])
 |k,x::r=>((az mk (mk k x).1 r).1,(mk k x).2::(az mk (mk k x).1 r).2)
theorem fH{α:Type}(mk:Int->α->Int×α):∀(k:Int)(l:List α),(az mk k l).2.length=l.length
 |k,[]=>rfl
 |k,x::r=>by simp[az,fH mk _ r]
theorem qQ{α:Type}{F:Nat->Int->Int->List α->Option (Int×List α)}{mk:Int->α->Int×α}(a:List α)(ha:a.length<=1048576)(I:Nat->Int->Prop)(d:α)
 (step:∀f k i (l:List α),∀h:i<a.length,i<l.length->l.getD i d=a[i]->I i k->F (f+1) k (i:Int) l=F f (mk k a[i]).1 ((i+1:Nat):Int) (l.set i (mk k a[i]).2)/\I (i+1) (mk k a[i]).1)
 (stop:∀f k (l:List α),l.length=a.length->F (f+1) k (a.length:Int) l=some (k,l)) (k0:Int) (h0:I 0 k0):F ai k0 0 a=some (az mk k0 a):=by
 have key:∀f i k (l:List α),i<=a.length->a.length-i<f->l.length=a.length->(∀j,i<=j->l[j]?=a[j]?)->I i k->F f k (i:Int) l=some ((az mk k (a.drop i)).1,l.take i++(az mk k (a.drop i)).2):=by
  intro f
  induction f with
  |zero=>intro i k l h1 h2;omega
  |succ f ih=>
   intro i k l h1 h2 hl hj hI;rcases cV i a.length with hi|hi
   ·have hg:l.getD i d=a[i]:=by rw[fB,hj i (bH _),bY hi];rfl
    obtain⟨e,hI'⟩:=step f k i l hi (by omega) hg hI;rw[e,ih (i+1) _ _ (by omega) (by omega) (by simpa using hl) (fun j hj'=>by rw[fV,aX (by omega)];exact hj j (by omega)) hI',gq hi];simp only[az];congr 2;rw[List.take_add_one,List.getElem?_set_self (by omega),List.take_set_of_le (bH _)];simp
   ·have:i=a.length:=by omega
    subst this;rw[stop f k l hl,wJ,<-hl,List.take_length];simp[az]
 have:=key ai 0 k0 a (eY _) (by have:=bB;omega) rfl (fun _ _=>rfl) h0;simpa using this
theorem qR{α E:Type}{F:Nat->Int->Int->Option (Int⊕E)}{mk:Int->α->Int×α}{fin:Int->E}(a:List α)(ha:a.length<=1048576)(I:Nat->Int->Prop)(d:α)(k0:Int)(h0:I 0 k0)
 (step:∀f k i (y:α),∀h:i<a.length,((az mk k0 a).2).getD i d=y->y=(mk k a[i]).2->I i k->F (f+1) k (i:Int)=F f (mk k a[i]).1 ((i+1:Nat):Int)/\I (i+1) (mk k a[i]).1)
 (stop:∀f k,F (f+1) k (a.length:Int)=some (.inr (fin k))):F ai k0 0=some (.inr (fin (az mk k0 a).1)):=by
 have key:∀f i k,i<=a.length->a.length-i<f->(az mk k0 a).2.drop i=(az mk k (a.drop i)).2->(az mk k0 a).1=(az mk k (a.drop i)).1->I i k->F f k (i:Int)=some (.inr (fin (az mk k (a.drop i)).1)):=by
  intro f
  induction f with
  |zero=>intro i k h1 h2;omega
  |succ f ih=>
   intro i k h1 h2 hd hk hI;rcases cV i a.length with hi|hi
   ·have hlen:=fH mk k0 a;have hi':i<(az mk k0 a).2.length:=by omega
    have hd':=hd;rw[gq hi,az,gq hi']at hd;have hg:((az mk k0 a).2).getD i d=(mk k a[i]).2:=by
     rw[getD_lt hi'];exact(List.cons.inj hd).1
    obtain⟨e,hI'⟩:=step f k i _ hi rfl hg hI;rw[e,ih (i+1) _ (by omega) (by omega) (List.cons.inj hd).2 (by rw[hk,gq hi,az]) hI',gq hi,az]
   ·have:i=a.length:=by omega
    subst this;rw[stop,wJ];rfl
 have:=key ai 0 k0 (eY _) (by have:=bB;omega) rfl rfl h0;simpa using this
theorem aa.p1(a b c d):(aa.mk a b c d).Kind=a:=rfl
theorem aa.p2(a b c d):(aa.mk a b c d).Name=b:=rfl
theorem aa.p3(a b c d):(aa.mk a b c d).bA=c:=rfl
theorem aa.p4(a b c d):(aa.mk a b c d).Kids=d:=rfl
end M
namespace M
open Go.V (inB bT ai bB)
noncomputable def mS(k:Int)(_:List UInt8):Int×List UInt8:=(k+1,mT k)
theorem qS(l:List (List UInt8))(k:Int):k<=(az mS k l).1/\(az mS k l).1=k+(l.length:Int):=by
 induction l generalizing k with
 |nil=>simp[az]
 |cons x r ih=>have:=ih (k+1);simp only[az,mS,dH]at*;omega
theorem GV(a:List (List UInt8))(ha:a.length<=1048576)(k:Int)(h0:0<=k)(h1:k<=100000000000):M.px k a=some (az mS k a):=by
 unfold M.px;rw[qQ (F:=M.sS) (mk:=mS) a ha (fun i q=>q=k+(i:Int)) [] (fun f q i l hi hl hg hI=>by
  subst hI;rw[M.sS];have hmt:=iW (k:=k+(i:Int)) (by omega) (by omega);have hlt:decide ((i:Int)<((l.length:Nat):Int))=true:=by rw[bN];omega
  have hin:inB (i:Int) l.length=true:=by rw[dK];simpa using hl
  simp only[hlt,hin,hmt,cH,af,bc,cO,ay,aw,dB hi (fc ha)];have hw:Go.IntKind.wrap .i64 (k+(i:Int)+1)=k+(i:Int)+1:=wrap_i64 (by omega) (by omega);rw[hw];exact⟨rfl,by simp[mS];omega⟩) (fun f q l hl=>by rw[M.sS];simp[hl]) k (by simp)]
mutual
noncomputable def cy:Int->aa->Int×aa
 |k,.mk _ _ ls ks=>((mN (az mS (k+1+1) ls).1 ks).1,.mk k (mT (k+1)) (az mS (k+1+1) ls).2 (mN (az mS (k+1+1) ls).1 ks).2)
noncomputable def mN:Int->List aa->Int×List aa
 |k,[]=>(k,[])
 |k,x::r=>((mN (cy k x).1 r).1,(cy k x).2::(mN (cy k x).1 r).2)
end
theorem GX:∀(k:Int)(l:List aa),mN k l=az cy k l
 |k,[]=>by simp only[mN,az]
 |k,x::r=>by simp only[mN,az,GX]
theorem sU(k:Int)(a:aa):cy k a=((az cy (az mS (k+1+1) a.bA).1 a.Kids).1,.mk k (mT (k+1)) (az mS (k+1+1) a.bA).2 (az cy (az mS (k+1+1) a.bA).1 a.Kids).2):=by
 cases a;simp only[cy,GX];rfl
mutual
theorem Bn:∀(x:aa)(k:Int),k<=(cy k x).1/\(cy k x).1<=k+2+2*(x.sz:Int)
 |.mk a b ls ks,k=>by
   have h1:=qS ls (k+1+1);have h2:=GY ks (az mS (k+1+1) ls).1;have h3:=de List.length ls;have h4:=aa.GZ ks;simp only[cy,aa.sz];omega
theorem GY:∀(l:List aa)(k:Int),k<=(mN k l).1/\(mN k l).1<=k+2*(aV aa.sz l:Int)
 |[],k=>by simp[mN,aV]
 |x::r,k=>by
  have h1:=Bn x k;have h2:=GY r (cy k x).1;simp only[mN,aV];omega
end
theorem abf(l:List aa)(k:Int):k<=(az cy k l).1/\(az cy k l).1<=k+2*(aV aa.sz l:Int):=by
 rw[<-GX];exact GY l k
theorem G0:∀(n:Nat)(a:List aa)(k:Int),aV aa.sz a<n->aV aa.sz a<=1048576->0<=k->k+2*(aV aa.sz a:Int)<=100000000000->M.sV n k a=some (az cy k a)
 |0,a,k,h,_,_,_=>by omega
 |n+1,a,k,h,hz,h0,h1=>by
  have hlen:=de aa.sz a
  show M.Bo (M.sV n) k a=_
  unfold M.Bo;rw[qQ (F:=M.sW (M.sV n)) (mk:=cy) a (by omega) (fun i q=>0<=q/\q+2*(aV aa.sz (a.drop i):Int)<=100000000000) aa.zero (fun f q i l hi hl hg hI=>by
   rw[gq hi,aV]at hI;have hle:=Bn a[i] q;have hmem:=gh aa.sz a a[i] (eH hi);have hpos:=Bq aa.sz a a[i] (eH hi);have hs:=aa.ct a[i];have hll:=de List.length a[i].bA;have hkk:=de aa.sz a[i].Kids;have hms:=qS a[i].bA (q+1+1);rw[M.sW];have hlt:decide ((i:Int)<((l.length:Nat):Int))=true:=by rw[bN];omega
   have hin:inB (i:Int) l.length=true:=by rw[dK];simpa using hl
   have w1:Go.IntKind.wrap .i64 (q+1)=q+1:=wrap_i64 (by omega) (by omega);have w2:Go.IntKind.wrap .i64 (q+1+1)=q+1+1:=wrap_i64 (by omega) (by omega);have e1:=iW (k:=q+1) (by omega) (by omega);have e2:=GV a[i].bA (by omega) (q+1+1) (by omega) (by omega);have e3:=G0 n a[i].Kids (az mS (q+1+1) a[i].bA).1 (by omega) (by omega) (by omega) (by omega);refine⟨?_,by omega,by omega⟩;simp only[hlt,hin,cH,af,bc,cO,sP,hl,ju,hg,w1,w2,aa.p1,aa.p2,aa.p3,aa.p4,e1,e2,e3,ay,aw,dB hi (fc (show a.length<=1048576 by omega)),List.set_set];rw[sU]) (fun f q l hl=>by rw[M.sW];simp[hl]) k ⟨h0,by simpa using h1⟩]
theorem G1(a:List (List UInt8))(ha:a.length<=1048576)(k:Int)(h0:0<=k)(h1:k<=100000000000):M.py (az mS k a).2 k=some (az mS k a).1:=by
 unfold M.py;rw[qR (F:=M.sX (az mS k a).2) (mk:=mS) (fin:=id) a ha (fun i q=>q=k+(i:Int)) [] k (by simp) (fun f q i y hi e1 e2 hI=>by
  subst hI;subst e2;rw[M.sX];have hmt:=iW (k:=k+(i:Int)) (by omega) (by omega);have hlt:decide ((i:Int)<(((az mS k a).2.length:Nat):Int))=true:=by rw[bN,fH];omega
  have hin:inB (i:Int) (az mS k a).2.length=true:=by rw[dK,fH];simpa using hi
  have hw:Go.IntKind.wrap .i64 (k+(i:Int)+1)=k+(i:Int)+1:=wrap_i64 (by omega) (by omega);simp only[hlt,hin,hmt,e1,mS,cH,af,ar,bc,cO,ay,aw,dB hi (fc ha),cF,bQ,hw];exact⟨trivial,by omega⟩) (fun f q=>by rw[M.sX];simp[fH])]
 rfl
theorem Nb(k:Int)(a:aa):(cy k a).2.Kind=k:=by rw[sU];rfl
theorem Nc(k:Int)(a:aa):(cy k a).2.Name=mT (k+1):=by rw[sU];rfl
theorem Nh(k:Int)(a:aa):(cy k a).2.bA=(az mS (k+1+1) a.bA).2:=by rw[sU];rfl
theorem Ni(k:Int)(a:aa):(cy k a).2.Kids=(az cy (az mS (k+1+1) a.bA).1 a.Kids).2:=by rw[sU];rfl
theorem Br(k:Int)(a:aa):(cy k a).1=(az cy (az mS (k+1+1) a.bA).1 a.Kids).1:=by rw[sU]
theorem lB{n:Int}(h:0<=n):decide (n<0)=false:=by rw[iG];omega
theorem G2:∀(n:Nat)(a:List aa)(k:Int),aV aa.sz a<n->aV aa.sz a<=1048576->0<=k->k+2*(aV aa.sz a:Int)<=100000000000->M.sY n (az cy k a).2 k=some (az cy k a).1
 |0,a,k,h,_,_,_=>by omega
 |n+1,a,k,h,hz,h0,h1=>by
  have hlen:=de aa.sz a
  show M.Bt (M.sY n) (az cy k a).2 k=_
  unfold M.Bt;rw[qR (F:=M.sZ (M.sY n) (az cy k a).2) (mk:=cy) (fin:=id) a (by omega) (fun i q=>0<=q/\q+2*(aV aa.sz (a.drop i):Int)<=100000000000) aa.zero k ⟨h0,by simpa using h1⟩ (fun f q i y hi e1 e2 hI=>by
   subst e2;rw[gq hi,aV]at hI;have hle:=Bn a[i] q;have hmem:=gh aa.sz a a[i] (eH hi);have hpos:=Bq aa.sz a a[i] (eH hi);have hs:=aa.ct a[i];have hll:=de List.length a[i].bA;have hkk:=de aa.sz a[i].Kids;have hms:=qS a[i].bA (q+1+1);rw[M.sZ];have hlt:decide ((i:Int)<(((az cy k a).2.length:Nat):Int))=true:=by rw[bN,fH];omega
   have hin:inB (i:Int) (az cy k a).2.length=true:=by rw[dK,fH];simpa using hi
   have w1:Go.IntKind.wrap .i64 (q+1)=q+1:=wrap_i64 (by omega) (by omega);have w2:Go.IntKind.wrap .i64 (q+1+1)=q+1+1:=wrap_i64 (by omega) (by omega);have m1:=iW (k:=q+1) (by omega) (by omega);have m2:=G1 a[i].bA (by omega) (q+1+1) (by omega) (by omega);have m3:=G2 n a[i].Kids (az mS (q+1+1) a[i].bA).1 (by omega) (by omega) (by omega) (by omega);have n1:=lB (n:=(az mS (q+1+1) a[i].bA).1) (by omega);have n2:=lB (n:=(az cy (az mS (q+1+1) a[i].bA).1 a[i].Kids).1) (by rw[<-Br];omega);refine⟨?_,by omega,by omega⟩;simp only[hlt,hin,e1,cH,af,ar,bc,cO,Nb,Nc,Nh,Ni,w1,w2,m1,m2,m3,n1,n2,ay,aw,dB hi (fc (show a.length<=1048576 by omega)),cF,bne_self_eq_false,bQ,au];rw[Br]) (fun f q=>by rw[M.sZ];simp[fH])]
  rfl
noncomputable def eg(k:Int)(p:aA):Int×aA:=((cy (k+1) p.Term).1,aA.mk (mT k) (cy (k+1) p.Term).2)
theorem G3(x:aA)(k:Int):k<=(eg k x).1/\(eg k x).1<=k+3*((x.sz+1:Nat):Int):=by
 have h:=Bn x.Term (k+1);have hs:=aA.ct x;unfold eg;simp only[];omega
theorem Bv:∀(l:List aA)(k:Int),k<=(az eg k l).1/\(az eg k l).1<=k+3*(aV aA.sz l:Int)
 |[],k=>by simp[az,aV]
 |x::r,k=>by
  have h1:=G3 x k;have h2:=Bv r (eg k x).1;simp only[az,aV];omega
theorem abg(a:List aA)(k:Int)(hz:aV aA.sz a<=1048576)(h0:0<=k)(h1:k<=90000000000):M.yG k a=some (az eg k a):=by
 have hlen:=de aA.sz a;unfold M.yG;rw[qQ (F:=M.s6) (mk:=eg) a (by omega) (fun i q=>0<=q/\q+3*(aV aA.sz (a.drop i):Int)<=100000000000) aA.zero (fun f q i l hi hl hg hI=>by
  rw[gq hi,aV]at hI;have hle:=G3 a[i] q;have hmem:=gh aA.sz a a[i] (eH hi);have hps:=aA.ct a[i];have hs:=aa.ct a[i].Term;have hll:=de List.length a[i].Term.bA;have hkk:=de aa.sz a[i].Term.Kids;have hms:=qS a[i].Term.bA (q+1+1+1);rw[M.s6];have hlt:decide ((i:Int)<((l.length:Nat):Int))=true:=by rw[bN];omega
  have hin:inB (i:Int) l.length=true:=by rw[dK];simpa using hl
  have w1:Go.IntKind.wrap .i64 (q+1)=q+1:=wrap_i64 (by omega) (by omega);have w2:Go.IntKind.wrap .i64 (q+1+1)=q+1+1:=wrap_i64 (by omega) (by omega);have w3:Go.IntKind.wrap .i64 (q+1+1+1)=q+1+1+1:=wrap_i64 (by omega) (by omega);have e0:=iW (k:=q) (by omega) (by omega);have e1:=iW (k:=q+1+1) (by omega) (by omega);have e2:=GV a[i].Term.bA (by omega) (q+1+1+1) (by omega) (by omega);have e3:=G0 ai a[i].Term.Kids (az mS (q+1+1+1) a[i].Term.bA).1 (by have:=bB;omega) (by omega) (by omega) (by omega);have e3':M.s7 (az mS (q+1+1+1) a[i].Term.bA).1 a[i].Term.Kids=_:=e3;refine⟨?_,by omega,by omega⟩;simp only[hlt,hin,cH,af,bc,cO,sP,hl,ju,hg,w1,w2,w3,aa.bq,aa.p1,aa.p2,aa.p3,aa.p4,e0,e1,e2,e3',ay,aw,dB hi (fc (show a.length<=1048576 by omega)),List.set_set];unfold eg;rw[sU]) (fun f q l hl=>by rw[M.s6];simp[hl]) k ⟨h0,by simp only[ft];omega⟩]
theorem abh(a:List aA)(k:Int)(hz:aV aA.sz a<=1048576)(h0:0<=k)(h1:k<=90000000000):M.yH (az eg k a).2 k=some (az eg k a).1:=by
 have hlen:=de aA.sz a;unfold M.yH;rw[qR (F:=M.s8 (az eg k a).2) (mk:=eg) (fin:=id) a (by omega) (fun i q=>0<=q/\q+3*(aV aA.sz (a.drop i):Int)<=100000000000) aA.zero k ⟨h0,by simp only[ft];omega⟩ (fun f q i y hi e1 e2 hI=>by
  subst e2;rw[gq hi,aV]at hI;have hle:=G3 a[i] q;have hmem:=gh aA.sz a a[i] (eH hi);have hps:=aA.ct a[i];have hs:=aa.ct a[i].Term;have hll:=de List.length a[i].Term.bA;have hkk:=de aa.sz a[i].Term.Kids;have hms:=qS a[i].Term.bA (q+1+1+1);rw[M.s8];have hlt:decide ((i:Int)<(((az eg k a).2.length:Nat):Int))=true:=by rw[bN,fH];omega
  have hin:inB (i:Int) (az eg k a).2.length=true:=by rw[dK,fH];simpa using hi
  have w1:Go.IntKind.wrap .i64 (q+1)=q+1:=wrap_i64 (by omega) (by omega);have w2:Go.IntKind.wrap .i64 (q+1+1)=q+1+1:=wrap_i64 (by omega) (by omega);have w3:Go.IntKind.wrap .i64 (q+1+1+1)=q+1+1+1:=wrap_i64 (by omega) (by omega);have m0:=iW (k:=q) (by omega) (by omega);have m1:=iW (k:=q+1+1) (by omega) (by omega);have m2:=G1 a[i].Term.bA (by omega) (q+1+1+1) (by omega) (by omega);have m3:=G2 ai a[i].Term.Kids (az mS (q+1+1+1) a[i].Term.bA).1 (by have:=bB;omega) (by omega) (by omega) (by omega);have m3':M.s9 (az cy (az mS (q+1+1+1) a[i].Term.bA).1 a[i].Term.Kids).2 (az mS (q+1+1+1) a[i].Term.bA).1=_:=m3;have n1:=lB (n:=(az mS (q+1+1+1) a[i].Term.bA).1) (by omega);have n2:=lB (n:=(az cy (az mS (q+1+1+1) a[i].Term.bA).1 a[i].Term.Kids).1) (by rw[<-Br (q+1)];unfold eg at hle;simp only[]at hle;omega);have pN:(eg q a[i]).2.Name=mT q:=rfl;have pT:(eg q a[i]).2.Term=(cy (q+1) a[i].Term).2:=rfl;refine⟨?_,by omega,by omega⟩;simp only[hlt,hin,e1,pN,pT,cH,af,ar,bc,cO,Nb,Nc,Nh,Ni,w1,w2,w3,m0,m1,m2,m3',n1,n2,ay,aw,dB hi (fc (show a.length<=1048576 by omega)),cF,bne_self_eq_false,bQ,au];unfold eg;rw[Br]) (fun f q=>by rw[M.s8];simp[fH])]
 rfl
end M
namespace M
open Go.V (inB bT ai bB)
theorem nK{q:Int}(h0:0<=q)(h1:q<=1000000000000):Go.IntKind.wrap .i64 (q+1)=q+1:=wrap_i64 (by omega) (by omega)
theorem G4(l:List aa)(k:Int):k<=(az cy k l).1/\(az cy k l).1<=k+3*(aV aa.sz l:Int):=by
 have:=abf l k;omega
theorem abk(a:List aa)(k:Int)(hz:aV aa.sz a<=1048576)(h0:0<=k)(h1:k<=90000000000):M.s7 k a=some (az cy k a):=G0 ai a k (by have:=bB;omega) hz h0 (by omega)
theorem abl(a:List aa)(k:Int)(hz:aV aa.sz a<=1048576)(h0:0<=k)(h1:k<=90000000000):M.s9 (az cy k a).2 k=some (az cy k a).1:=G2 ai a k (by have:=bB;omega) hz h0 (by omega)
noncomputable def ix(k:Int)(x:aH):Int×aH:=(k+1+1,aH.mk (mT (k)) (mT (k+1)))
theorem G5(x:aH)(k:Int):k<=(ix k x).1/\(ix k x).1<=k+3*((x.sz+1:Nat):Int):=by
 have hs:=aH.ct x;unfold ix;simp only[];omega
theorem By:∀(l:List aH)(k:Int),k<=(az ix k l).1/\(az ix k l).1<=k+3*(aV aH.sz l:Int)
 |[],k=>by simp[az,aV]
 |x::r,k=>by
  have h1:=G5 x k;have h2:=By r (ix k x).1;simp only[az,aV];omega
theorem abm(a:List aH)(k:Int)(hz:aV aH.sz a<=1048576)(h0:0<=k)(h1:k<=80000000000):M.yI k a=some (az ix k a):=by
 have hlen:=de aH.sz a;unfold M.yI;rw[qQ (F:=M.ta) (mk:=ix) a (by omega) (fun i q=>0<=q/\q+3*(aV aH.sz (a.drop i):Int)<=81000000000) aH.zero (fun f q i l hi hl hg hI=>by
  rw[gq hi,aV]at hI;have hle:=G5 a[i] q;have hmem:=gh aH.sz a a[i] (eH hi);have hs:=aH.ct a[i];rw[M.ta];have hlt:decide ((i:Int)<((l.length:Nat):Int))=true:=by rw[bN];omega
  have hin:inB (i:Int) l.length=true:=by rw[dK];simpa using hl
  refine⟨?_,by omega,by omega⟩;simp (disch:=omega) only[hlt,hin,cH,af,bc,cO,sP,hl,ju,hg,nK,iW,three,aa.bq,aa.p1,aa.p2,aa.p3,aa.p4,ay,aw,dB hi (fc (show a.length<=1048576 by omega)),List.set_set];rfl) (fun f q l hl=>by rw[M.ta];simp[hl]) k ⟨h0,by simp only[ft];omega⟩]
theorem abn(a:List aH)(k:Int)(hz:aV aH.sz a<=1048576)(h0:0<=k)(h1:k<=80000000000):M.yJ (az ix k a).2 k=some (az ix k a).1:=by
 have hlen:=de aH.sz a;unfold M.yJ;rw[qR (F:=M.tc (az ix k a).2) (mk:=ix) (fin:=id) a (by omega) (fun i q=>0<=q/\q+3*(aV aH.sz (a.drop i):Int)<=81000000000) aH.zero k ⟨h0,by simp only[ft];omega⟩ (fun f q i y hi e1 e2 hI=>by
  subst e2;rw[gq hi,aV]at hI;have hle:=G5 a[i] q;have hmem:=gh aH.sz a a[i] (eH hi);have hs:=aH.ct a[i];rw[M.tc];have hlt:decide ((i:Int)<(((az ix k a).2.length:Nat):Int))=true:=by rw[bN,fH];omega
  have hin:inB (i:Int) (az ix k a).2.length=true:=by rw[dK,fH];simpa using hi
  refine⟨?_,by omega,by omega⟩;have em:(ix q a[i]).2=aH.mk (mT (q)) (mT (q+1)):=rfl;simp (disch:=omega) only[hlt,hin,e1,em,cH,af,ar,bc,cO,nK,iW,three,aa.bq,aa.p1,aa.p2,aa.p3,aa.p4,ay,aw,dB hi (fc (show a.length<=1048576 by omega)),cF,bne_self_eq_false,bQ,au];rfl) (fun f q=>by rw[M.tc];simp[fH])]
 rfl
noncomputable def iy(k:Int)(x:ak):Int×ak:=((az ix ((az eg ((az cy ((az mS (k+1+1+1+1) x.Term.bA).1) x.Term.Kids).1) x.Params).1+1+1+1+1) x.Uses).1,ak.mk (k) (mT (k+1)) (aa.mk (k+1+1) (mT (k+1+1+1)) ((az mS (k+1+1+1+1) x.Term.bA).2) ((az cy ((az mS (k+1+1+1+1) x.Term.bA).1) x.Term.Kids).2)) ((az eg ((az cy ((az mS (k+1+1+1+1) x.Term.bA).1) x.Term.Kids).1) x.Params).2) ((Int.tmod ((az eg ((az cy ((az mS (k+1+1+1+1) x.Term.bA).1) x.Term.Kids).1) x.Params).1) (3:Int)==(0:Int))) (bh.mk (mT ((az eg ((az cy ((az mS (k+1+1+1+1) x.Term.bA).1) x.Term.Kids).1) x.Params).1+1)) (mT ((az eg ((az cy ((az mS (k+1+1+1+1) x.Term.bA).1) x.Term.Kids).1) x.Params).1+1+1)) (mT ((az eg ((az cy ((az mS (k+1+1+1+1) x.Term.bA).1) x.Term.Kids).1) x.Params).1+1+1+1))) ((az ix ((az eg ((az cy ((az mS (k+1+1+1+1) x.Term.bA).1) x.Term.Kids).1) x.Params).1+1+1+1+1) x.Uses).2))
theorem G6(x:ak)(k:Int):k<=(iy k x).1/\(iy k x).1<=k+9*((x.sz+1:Nat):Int):=by
 have h0:=qS x.Term.bA (k+1+1+1+1);have h1:=G4 x.Term.Kids ((az mS (k+1+1+1+1) x.Term.bA).1);have h2:=Bv x.Params ((az cy ((az mS (k+1+1+1+1) x.Term.bA).1) x.Term.Kids).1);have h3:=By x.Uses ((az eg ((az cy ((az mS (k+1+1+1+1) x.Term.bA).1) x.Term.Kids).1) x.Params).1+1+1+1+1);have l0:=de List.length x.Term.bA;have l1:=de aa.sz x.Term.Kids;have l2:=de aA.sz x.Params;have l3:=de aH.sz x.Uses;have t0:=aa.ct x.Term;have hs:=ak.ct x;unfold iy;simp only[];omega
theorem Bz:∀(l:List ak)(k:Int),k<=(az iy k l).1/\(az iy k l).1<=k+9*(aV ak.sz l:Int)
 |[],k=>by simp[az,aV]
 |x::r,k=>by
  have h1:=G6 x k;have h2:=Bz r (iy k x).1;simp only[az,aV];omega
theorem abo(a:List ak)(k:Int)(hz:aV ak.sz a<=1048576)(h0:0<=k)(h1:k<=70000000000):M.yK k a=some (az iy k a):=by
 have hlen:=de ak.sz a;unfold M.yK;rw[qQ (F:=M.td) (mk:=iy) a (by omega) (fun i q=>0<=q/\q+9*(aV ak.sz (a.drop i):Int)<=71000000000) ak.zero (fun f q i l hi hl hg hI=>by
  rw[gq hi,aV]at hI;have hle:=G6 a[i] q;have hmem:=gh ak.sz a a[i] (eH hi);have hs:=ak.ct a[i];have h0:=qS a[i].Term.bA (q+1+1+1+1);have h1:=G4 a[i].Term.Kids ((az mS (q+1+1+1+1) a[i].Term.bA).1);have h2:=Bv a[i].Params ((az cy ((az mS (q+1+1+1+1) a[i].Term.bA).1) a[i].Term.Kids).1);have h3:=By a[i].Uses ((az eg ((az cy ((az mS (q+1+1+1+1) a[i].Term.bA).1) a[i].Term.Kids).1) a[i].Params).1+1+1+1+1);have l0:=de List.length a[i].Term.bA;have l1:=de aa.sz a[i].Term.Kids;have l2:=de aA.sz a[i].Params;have l3:=de aH.sz a[i].Uses;have t0:=aa.ct a[i].Term;rw[M.td];have hlt:decide ((i:Int)<((l.length:Nat):Int))=true:=by rw[bN];omega
  have hin:inB (i:Int) l.length=true:=by rw[dK];simpa using hl
  refine⟨?_,by omega,by omega⟩;simp (disch:=omega) only[hlt,hin,cH,af,bc,cO,sP,hl,ju,hg,nK,iW,three,aa.bq,aa.p1,aa.p2,aa.p3,aa.p4,abg,GV,abk,abm,ay,aw,dB hi (fc (show a.length<=1048576 by omega)),List.set_set];rfl) (fun f q l hl=>by rw[M.td];simp[hl]) k ⟨h0,by simp only[ft];omega⟩]
theorem abp(a:List ak)(k:Int)(hz:aV ak.sz a<=1048576)(h0:0<=k)(h1:k<=70000000000):M.yL (az iy k a).2 k=some (az iy k a).1:=by
 have hlen:=de ak.sz a;unfold M.yL;rw[qR (F:=M.te (az iy k a).2) (mk:=iy) (fin:=id) a (by omega) (fun i q=>0<=q/\q+9*(aV ak.sz (a.drop i):Int)<=71000000000) ak.zero k ⟨h0,by simp only[ft];omega⟩ (fun f q i y hi e1 e2 hI=>by
  subst e2;rw[gq hi,aV]at hI;have hle:=G6 a[i] q;have hmem:=gh ak.sz a a[i] (eH hi);have hs:=ak.ct a[i];have h0:=qS a[i].Term.bA (q+1+1+1+1);have h1:=G4 a[i].Term.Kids ((az mS (q+1+1+1+1) a[i].Term.bA).1);have h2:=Bv a[i].Params ((az cy ((az mS (q+1+1+1+1) a[i].Term.bA).1) a[i].Term.Kids).1);have h3:=By a[i].Uses ((az eg ((az cy ((az mS (q+1+1+1+1) a[i].Term.bA).1) a[i].Term.Kids).1) a[i].Params).1+1+1+1+1);have l0:=de List.length a[i].Term.bA;have l1:=de aa.sz a[i].Term.Kids;have l2:=de aA.sz a[i].Params;have l3:=de aH.sz a[i].Uses;have t0:=aa.ct a[i].Term;rw[M.te];have hlt:decide ((i:Int)<(((az iy k a).2.length:Nat):Int))=true:=by rw[bN,fH];omega
  have hin:inB (i:Int) (az iy k a).2.length=true:=by rw[dK,fH];simpa using hi
  have n0:=lB (n:=(az mS (q+1+1+1+1) a[i].Term.bA).1) (by omega);have n1:=lB (n:=(az cy ((az mS (q+1+1+1+1) a[i].Term.bA).1) a[i].Term.Kids).1) (by omega);have n2:=lB (n:=(az eg ((az cy ((az mS (q+1+1+1+1) a[i].Term.bA).1) a[i].Term.Kids).1) a[i].Params).1) (by omega);have n3:=lB (n:=(az ix ((az eg ((az cy ((az mS (q+1+1+1+1) a[i].Term.bA).1) a[i].Term.Kids).1) a[i].Params).1+1+1+1+1) a[i].Uses).1) (by omega);refine⟨?_,by omega,by omega⟩;have em:(iy q a[i]).2=ak.mk (q) (mT (q+1)) (aa.mk (q+1+1) (mT (q+1+1+1)) ((az mS (q+1+1+1+1) a[i].Term.bA).2) ((az cy ((az mS (q+1+1+1+1) a[i].Term.bA).1) a[i].Term.Kids).2)) ((az eg ((az cy ((az mS (q+1+1+1+1) a[i].Term.bA).1) a[i].Term.Kids).1) a[i].Params).2) ((Int.tmod ((az eg ((az cy ((az mS (q+1+1+1+1) a[i].Term.bA).1) a[i].Term.Kids).1) a[i].Params).1) (3:Int)==(0:Int))) (bh.mk (mT ((az eg ((az cy ((az mS (q+1+1+1+1) a[i].Term.bA).1) a[i].Term.Kids).1) a[i].Params).1+1)) (mT ((az eg ((az cy ((az mS (q+1+1+1+1) a[i].Term.bA).1) a[i].Term.Kids).1) a[i].Params).1+1+1)) (mT ((az eg ((az cy ((az mS (q+1+1+1+1) a[i].Term.bA).1) a[i].Term.Kids).1) a[i].Params).1+1+1+1))) ((az ix ((az eg ((az cy ((az mS (q+1+1+1+1) a[i].Term.bA).1) a[i].Term.Kids).1) a[i].Params).1+1+1+1+1) a[i].Uses).2):=rfl;simp (disch:=omega) only[hlt,hin,e1,em,cH,af,ar,bc,cO,nK,iW,three,aa.bq,aa.p1,aa.p2,aa.p3,aa.p4,abh,G1,abl,abn,n0,n1,n2,n3,ay,aw,dB hi (fc (show a.length<=1048576 by omega)),cF,bne_self_eq_false,bQ,au];rfl) (fun f q=>by rw[M.te];simp[fH])]
 rfl
noncomputable def gi(k:Int)(x:aC):Int×aC:=((az iy (k+1) x.Items).1,aC.mk (mT (k)) ((az iy (k+1) x.Items).2))
theorem G7(x:aC)(k:Int):k<=(gi k x).1/\(gi k x).1<=k+10*((x.sz+1:Nat):Int):=by
 have h0:=Bz x.Items (k+1);have l0:=de ak.sz x.Items;have hs:=aC.ct x;unfold gi;simp only[];omega
theorem Nj:∀(l:List aC)(k:Int),k<=(az gi k l).1/\(az gi k l).1<=k+10*(aV aC.sz l:Int)
 |[],k=>by simp[az,aV]
 |x::r,k=>by
  have h1:=G7 x k;have h2:=Nj r (gi k x).1;simp only[az,aV];omega
theorem abq(a:List aC)(k:Int)(hz:aV aC.sz a<=1048576)(h0:0<=k)(h1:k<=60000000000):M.yM k a=some (az gi k a):=by
 have hlen:=de aC.sz a;unfold M.yM;rw[qQ (F:=M.tf) (mk:=gi) a (by omega) (fun i q=>0<=q/\q+10*(aV aC.sz (a.drop i):Int)<=61000000000) aC.zero (fun f q i l hi hl hg hI=>by
  rw[gq hi,aV]at hI;have hle:=G7 a[i] q;have hmem:=gh aC.sz a a[i] (eH hi);have hs:=aC.ct a[i];have h0:=Bz a[i].Items (q+1);have l0:=de ak.sz a[i].Items;rw[M.tf];have hlt:decide ((i:Int)<((l.length:Nat):Int))=true:=by rw[bN];omega
  have hin:inB (i:Int) l.length=true:=by rw[dK];simpa using hl
  refine⟨?_,by omega,by omega⟩;simp (disch:=omega) only[hlt,hin,cH,af,bc,cO,sP,hl,ju,hg,nK,iW,three,aa.bq,aa.p1,aa.p2,aa.p3,aa.p4,abo,ay,aw,dB hi (fc (show a.length<=1048576 by omega)),List.set_set];rfl) (fun f q l hl=>by rw[M.tf];simp[hl]) k ⟨h0,by simp only[ft];omega⟩]
theorem abr(a:List aC)(k:Int)(hz:aV aC.sz a<=1048576)(h0:0<=k)(h1:k<=60000000000):M.yN (az gi k a).2 k=some (az gi k a).1:=by
 have hlen:=de aC.sz a;unfold M.yN;rw[qR (F:=M.tg (az gi k a).2) (mk:=gi) (fin:=id) a (by omega) (fun i q=>0<=q/\q+10*(aV aC.sz (a.drop i):Int)<=61000000000) aC.zero k ⟨h0,by simp only[ft];omega⟩ (fun f q i y hi e1 e2 hI=>by
  subst e2;rw[gq hi,aV]at hI;have hle:=G7 a[i] q;have hmem:=gh aC.sz a a[i] (eH hi);have hs:=aC.ct a[i];have h0:=Bz a[i].Items (q+1);have l0:=de ak.sz a[i].Items;rw[M.tg];have hlt:decide ((i:Int)<(((az gi k a).2.length:Nat):Int))=true:=by rw[bN,fH];omega
  have hin:inB (i:Int) (az gi k a).2.length=true:=by rw[dK,fH];simpa using hi
  have n0:=lB (n:=(az iy (q+1) a[i].Items).1) (by omega);refine⟨?_,by omega,by omega⟩;have em:(gi q a[i]).2=aC.mk (mT (q)) ((az iy (q+1) a[i].Items).2):=rfl;simp (disch:=omega) only[hlt,hin,e1,em,cH,af,ar,bc,cO,nK,iW,three,aa.bq,aa.p1,aa.p2,aa.p3,aa.p4,abp,n0,ay,aw,dB hi (fc (show a.length<=1048576 by omega)),cF,bne_self_eq_false,bQ,au];rfl) (fun f q=>by rw[M.tg];simp[fH])]
 rfl
noncomputable def iz(k:Int)(x:aG):Int×aG:=(k+1+1+1+1,aG.mk (k) (bh.mk (mT (k+1)) (mT (k+1+1)) (mT (k+1+1+1))))
theorem G8(x:aG)(k:Int):k<=(iz k x).1/\(iz k x).1<=k+5*((x.sz+1:Nat):Int):=by
 have hs:=aG.ct x;unfold iz;simp only[];omega
theorem BA:∀(l:List aG)(k:Int),k<=(az iz k l).1/\(az iz k l).1<=k+5*(aV aG.sz l:Int)
 |[],k=>by simp[az,aV]
 |x::r,k=>by
  have h1:=G8 x k;have h2:=BA r (iz k x).1;simp only[az,aV];omega
theorem abt(a:List aG)(k:Int)(hz:aV aG.sz a<=1048576)(h0:0<=k)(h1:k<=80000000000):M.yO k a=some (az iz k a):=by
 have hlen:=de aG.sz a;unfold M.yO;rw[qQ (F:=M.ti) (mk:=iz) a (by omega) (fun i q=>0<=q/\q+5*(aV aG.sz (a.drop i):Int)<=81000000000) aG.zero (fun f q i l hi hl hg hI=>by
  rw[gq hi,aV]at hI;have hle:=G8 a[i] q;have hmem:=gh aG.sz a a[i] (eH hi);have hs:=aG.ct a[i];rw[M.ti];have hlt:decide ((i:Int)<((l.length:Nat):Int))=true:=by rw[bN];omega
  have hin:inB (i:Int) l.length=true:=by rw[dK];simpa using hl
  refine⟨?_,by omega,by omega⟩;simp (disch:=omega) only[hlt,hin,cH,af,bc,cO,sP,hl,ju,hg,nK,iW,three,aa.bq,aa.p1,aa.p2,aa.p3,aa.p4,ay,aw,dB hi (fc (show a.length<=1048576 by omega)),List.set_set];rfl) (fun f q l hl=>by rw[M.ti];simp[hl]) k ⟨h0,by simp only[ft];omega⟩]
theorem abu(a:List aG)(k:Int)(hz:aV aG.sz a<=1048576)(h0:0<=k)(h1:k<=80000000000):M.yP (az iz k a).2 k=some (az iz k a).1:=by
 have hlen:=de aG.sz a;unfold M.yP;rw[qR (F:=M.tj (az iz k a).2) (mk:=iz) (fin:=id) a (by omega) (fun i q=>0<=q/\q+5*(aV aG.sz (a.drop i):Int)<=81000000000) aG.zero k ⟨h0,by simp only[ft];omega⟩ (fun f q i y hi e1 e2 hI=>by
  subst e2;rw[gq hi,aV]at hI;have hle:=G8 a[i] q;have hmem:=gh aG.sz a a[i] (eH hi);have hs:=aG.ct a[i];rw[M.tj];have hlt:decide ((i:Int)<(((az iz k a).2.length:Nat):Int))=true:=by rw[bN,fH];omega
  have hin:inB (i:Int) (az iz k a).2.length=true:=by rw[dK,fH];simpa using hi
  refine⟨?_,by omega,by omega⟩;have em:(iz q a[i]).2=aG.mk (q) (bh.mk (mT (q+1)) (mT (q+1+1)) (mT (q+1+1+1))):=rfl;simp (disch:=omega) only[hlt,hin,e1,em,cH,af,ar,bc,cO,nK,iW,three,aa.bq,aa.p1,aa.p2,aa.p3,aa.p4,ay,aw,dB hi (fc (show a.length<=1048576 by omega)),cF,bne_self_eq_false,bQ,au];rfl) (fun f q=>by rw[M.tj];simp[fH])]
 rfl
noncomputable def iY(k:Int)(x:aL):Int×aL:=((az iz (k+1) x.Items).1,aL.mk (mT (k)) ((az iz (k+1) x.Items).2))
theorem G9(x:aL)(k:Int):k<=(iY k x).1/\(iY k x).1<=k+6*((x.sz+1:Nat):Int):=by
 have h0:=BA x.Items (k+1);have l0:=de aG.sz x.Items;have hs:=aL.ct x;unfold iY;simp only[];omega
theorem Nk:∀(l:List aL)(k:Int),k<=(az iY k l).1/\(az iY k l).1<=k+6*(aV aL.sz l:Int)
 |[],k=>by simp[az,aV]
 |x::r,k=>by
  have h1:=G9 x k;have h2:=Nk r (iY k x).1;simp only[az,aV];omega
theorem abv(a:List aL)(k:Int)(hz:aV aL.sz a<=1048576)(h0:0<=k)(h1:k<=70000000000):M.yQ k a=some (az iY k a):=by
 have hlen:=de aL.sz a;unfold M.yQ;rw[qQ (F:=M.tn) (mk:=iY) a (by omega) (fun i q=>0<=q/\q+6*(aV aL.sz (a.drop i):Int)<=71000000000) aL.zero (fun f q i l hi hl hg hI=>by
  rw[gq hi,aV]at hI;have hle:=G9 a[i] q;have hmem:=gh aL.sz a a[i] (eH hi);have hs:=aL.ct a[i];have h0:=BA a[i].Items (q+1);have l0:=de aG.sz a[i].Items;rw[M.tn];have hlt:decide ((i:Int)<((l.length:Nat):Int))=true:=by rw[bN];omega
  have hin:inB (i:Int) l.length=true:=by rw[dK];simpa using hl
  refine⟨?_,by omega,by omega⟩;simp (disch:=omega) only[hlt,hin,cH,af,bc,cO,sP,hl,ju,hg,nK,iW,three,aa.bq,aa.p1,aa.p2,aa.p3,aa.p4,abt,ay,aw,dB hi (fc (show a.length<=1048576 by omega)),List.set_set];rfl) (fun f q l hl=>by rw[M.tn];simp[hl]) k ⟨h0,by simp only[ft];omega⟩]
theorem abw(a:List aL)(k:Int)(hz:aV aL.sz a<=1048576)(h0:0<=k)(h1:k<=70000000000):M.yR (az iY k a).2 k=some (az iY k a).1:=by
 have hlen:=de aL.sz a;unfold M.yR;rw[qR (F:=M.tp (az iY k a).2) (mk:=iY) (fin:=id) a (by omega) (fun i q=>0<=q/\q+6*(aV aL.sz (a.drop i):Int)<=71000000000) aL.zero k ⟨h0,by simp only[ft];omega⟩ (fun f q i y hi e1 e2 hI=>by
  subst e2;rw[gq hi,aV]at hI;have hle:=G9 a[i] q;have hmem:=gh aL.sz a a[i] (eH hi);have hs:=aL.ct a[i];have h0:=BA a[i].Items (q+1);have l0:=de aG.sz a[i].Items;rw[M.tp];have hlt:decide ((i:Int)<(((az iY k a).2.length:Nat):Int))=true:=by rw[bN,fH];omega
  have hin:inB (i:Int) (az iY k a).2.length=true:=by rw[dK,fH];simpa using hi
  have n0:=lB (n:=(az iz (q+1) a[i].Items).1) (by omega);refine⟨?_,by omega,by omega⟩;have em:(iY q a[i]).2=aL.mk (mT (q)) ((az iz (q+1) a[i].Items).2):=rfl;simp (disch:=omega) only[hlt,hin,e1,em,cH,af,ar,bc,cO,nK,iW,three,aa.bq,aa.p1,aa.p2,aa.p3,aa.p4,abu,n0,ay,aw,dB hi (fc (show a.length<=1048576 by omega)),cF,bne_self_eq_false,bQ,au];rfl) (fun f q=>by rw[M.tp];simp[fH])]
 rfl
end M
namespace M
open Go.V (inB bT kq ai bB)
theorem abx(s:List UInt8):(vS s).1.sz<=200000:=by
 have h0:noPack.sz<=200000:=by unfold noPack;rw[bf.ct];simp[aV]
 unfold vS;cases hw:jn s with
 |inl e=>exact h0
 |inr p=>
  have h1:=aba s p hw;dsimp only;cases qO p
  ·exact h0
  ·exact h1
theorem aby(s:List UInt8):∃n v l c fs ws,M.sO s=some (n,v,l,c,fs,ws)/\vS s=(bf.mk n v fs ws,l,c):=by
 have h1:=aai s;rw[aaX]at h1;cases hi:M.sO s with
 |none=>rw[hi]at h1;cases h1
 |some q=>
  rw[hi,M4]at h1;exact⟨q.1,q.2.1,q.2.2.1,q.2.2.2.1,q.2.2.2.2.1,q.2.2.2.2.2,rfl,(gU h1).symm⟩
theorem abz(n v:List UInt8)(fs:List aC)(ws:List aL)(h:(bf.mk n v fs ws).sz<=200000):∃k fs' ws',M.yS n v 1 fs ws=some (k,fs',ws')/\M.yT (bf.mk n v fs' ws') 1=some k/\0<=k:=by
 rw[bf.ct]at h;dsimp only at h;have b1:=Nj fs 1;have b2:=Nk ws (az gi 1 fs).1;have e1:=abq fs 1 (by omega) (by omega) (by omega);have e2:=abv ws (az gi 1 fs).1 (by omega) (by omega) (by omega);have e3:=abr fs 1 (by omega) (by omega) (by omega);have e4:=abw ws (az gi 1 fs).1 (by omega) (by omega) (by omega);refine⟨(az iY (az gi 1 fs).1 ws).1,(az gi 1 fs).2,(az iY (az gi 1 fs).1 ws).2,?_,?_,by omega⟩
 ·unfold M.yS;simp only[e1,e2,aw,ay,cO,af]
 ·unfold M.yT;simp only[e3,e4,lB (show(0:Int)<=(az gi 1 fs).1 by omega),lB (show(0:Int)<=(az iY (az gi 1 fs).1 ws).1 by omega),aw,ay,cO,af,ar]
theorem abA(s:List UInt8):M.yU s=some true:=by
 obtain⟨n,v,l,c,fs,ws,e1,e2⟩:=aby s;have e3:=aah s;rw[e2]at e3;have hz:=abx s;rw[e2]at hz;have e4:=abB (bf.mk n v fs ws) (kX hz (by decide));obtain⟨k,fs',ws',m1,m2,m3⟩:=abz n v fs ws hz;unfold M.yU;cases decide ((1048576:Int)<((s.length:Nat):Int))
 ·simp only[e1,e3,e4,m1,m2,lB m3,aw,ay,cO,bQ,md,me,bne_self_eq_false,ar,af]
 ·rfl
end M
