/-
  FUNCTIONS and items: both readers.
-/
import Derived.Test.YtadnfbiaknpllaaGreatDoorXXPa
set_option linter.unusedVariables false
set_option linter.unusedSimpArgs false
namespace M
open Go.V (inB bN ae aZ)
def rR:List UInt8:=[97,115,121,110,99]
def Bj:List UInt8:=[102,117,110,99]
def nK:List UInt8:=[114,101,115,111,117,114,99,101]
def qg:List UInt8:=[116,121,112,101]
def qh:List UInt8:=[117,115,101]
def jS:aI:=aI.mk [] [] []
def mj:aa:=aa.mk 0 [] [] []
def yo(l:List aj)(k:Nat):PR (List aV):=(cA l [40] k).bind fun _ k1=>
 bif aC l [41] k1 then .ok [] (k1+1)else(dZ l (kT l) 5 [] k1).bind fun ps k2=>(cA l [41] k2).bind fun _ k3=>.ok ps k3
def Bl(l:List aj)(k:Nat):PR aa:=bif aC l [45,62] k then d6 l 4 (k+1)else .ok dI k
def rS(l:List aj)(nm:List UInt8)(as:Bool)(k:Nat):PR ai:=
 (cA l Bj k).bind fun _ k1=>(yo l k1).bind fun ps k2=>(Bl l k2).bind fun t k3=>.ok (ai.mk 3 nm t ps as jS []) k3
def oW(l:List aj)(nm:List UInt8)(k:Nat):PR ai:=bif aC l rR k then rS l nm true (k+1)else rS l nm false k
def yp(l:List aj)(k:Nat):PR ai:=(qf l k).bind fun p k1=>(cA l [46] k1).bind fun _ k2=>(cA l [123] k2).bind fun _ k3=>
 (dZ l (mV l) 15 [] k3).bind fun us k4=>(cA l [125] k4).bind fun _ k5=>.ok (ai.mk 4 [] mj [] false p us) k5
def lG(l:List aj)(nm:List UInt8)(k1:Nat):PR ai:=
 bif aC l [58] k1 then oW l nm (k1+1)
 else bif nm==nK then(mT l k1).bind fun n k2=>.ok (ai.mk 1 n mj [] false jS []) k2
 else bif nm==qg then(mT l k1).bind fun n k2=>(cA l [61] k2).bind fun _ k3=>(d6 l 4 k3).bind fun t k4=>.ok (ai.mk 2 n t [] false jS []) k4
 else bif nm==qh then yp l k1
 else .no k1
def oY(l:List aj)(k:Nat):PR ai:=(g9 l k).bind (lG l)
theorem LM{l:List aj}(hL:bY l){k:Nat}(hk:k<l.length){t:List UInt8}(hn:tK t)(b:Bool):
 ∃c k' b',k'<l.length/\M.eI t (ip l k b)=some (c,ip l k' b')/\(c=true->k'=k+1/\b'=false)/\(c=false->k'=k/\b'=b)/\∀(α:Type)(x y:PR α),RB b k (bif aC l t k then x else y)=RB b' k' (bif c then x else y):=by
 rw[jh hL hk hn b];cases h:(!b&&aC l t k)
 ·exact⟨false,k,b,hk,rfl,(fun q=>by cases q),(fun _=>⟨rfl,rfl⟩),fun α x y=>by rw[nG h];rfl⟩
 ·obtain⟨h2,hb⟩:=nH hL hk h;subst hb;exact⟨true,k+1,false,h2,rfl,(fun _=>⟨rfl,rfl⟩),(fun q=>by cases q),fun α x y=>by rw[mf h];rfl⟩
theorem SC{l:List aj}(hL:bY l){k:Nat}(hk:k<l.length)(t:List UInt8)(b:Bool):
 ∃c k' b',k'<l.length/\M.dN t (sp l k b)=some (c,sp l k' b')/\(c=true->k'=k+1/\b'=false)/\(c=false->k'=k/\b'=b)/\∀(α:Type)(x y:PR α),RB b k (bif aC l t k then x else y)=RB b' k' (bif c then x else y):=by
 rw[fx hL hk t b];cases h:(!b&&aC l t k)
 ·exact⟨false,k,b,hk,rfl,(fun q=>by cases q),(fun _=>⟨rfl,rfl⟩),fun α x y=>by rw[nG h];rfl⟩
 ·obtain⟨h2,hb⟩:=nH hL hk h;subst hb;exact⟨true,k+1,false,h2,rfl,(fun _=>⟨rfl,rfl⟩),(fun q=>by cases q),fun α x y=>by rw[mf h];rfl⟩
theorem yq{l:List aj}{nm:List UInt8}{k1 k2:Nat}{b1 b2 as:Bool}(t2:as=true->k2=k1+1/\b2=false)(f2:as=false->k2=k1/\b2=b1)
 (r2:∀(α:Type)(x y:PR α),RB b1 k1 (bif aC l rR k1 then x else y)=RB b2 k2 (bif as then x else y)):RB b1 k1 (oW l nm k1)=RB b2 k2 (rS l nm as k2):=by
 unfold oW;rw[r2];cases as
 ·rw[(f2 rfl).1];rfl
 ·rw[(t2 rfl).1];rfl
theorem yt{l:List aj}{k1 k2:Nat}{b1 b2 as:Bool}(t2:as=true->k2=k1+1/\b2=false)(f2:as=false->k2=k1/\b2=b1)
 (r2:∀(α:Type)(x y:PR α),RB b1 k1 (bif aC l [45,62] k1 then x else y)=RB b2 k2 (bif as then x else y)):RB b1 k1 (Bl l k1)=RB b2 k2 (bif as then d6 l 4 k2 else .ok dI k2):=by
 unfold Bl;rw[r2];cases as
 ·rw[(f2 rfl).1];rfl
 ·rw[(t2 rfl).1];rfl
theorem SD{l:List aj}(hL:bY l)(hT:∀t∈l,t.Text.length<=30000)(nm:List UInt8){k:Nat}(hk:k<l.length)(b:Bool):
 ∃v k' b',k'<l.length/\At (RB b k ((cA l [58] k).bind fun _ k1=>oW l nm k1)) v k' b'/\M.yu nm (ip l k b)=some (v,ip l k' b'):=by
 obtain⟨k1,b1,h1,a1,e1⟩:=jR hL hk (cX 58 (by decide)) b;obtain⟨as,k2,b2,h2,e2,t2,f2,r2⟩:=LM hL h1 (t:=rR) (fun d r e=>by cases e;decide) b1;obtain⟨k3,b3,h3,a3,e3⟩:=jR hL h2 (t:=Bj) (fun d r e=>by cases e;decide) b2;obtain⟨k4,b4,h4,a4,e4⟩:=jR hL h3 (cX 40 (by decide)) b3;have e5:=AZ hL h4 (cX 41 (by decide)) b4;unfold rR at e2;unfold Bj at e3;unfold M.yu;simp only[e1,e2,e3,e4,e5,an,ar,ak];cases qe:(!b4&&aC l [41] k4)
 ·obtain⟨ps,k5,b5,h5,a5,e6⟩:=ahk hL hT 3 nm 1 [] as [] [] [] [] [] [] h4 b4;obtain⟨k6,b6,h6,a6,e7⟩:=jR hL h5 (cX 41 (by decide)) b5;obtain⟨c,k7,b7,h7,e8,t7,f7,r7⟩:=LM hL h6 (t:=[45,62]) (fun d r e=>by cases e;decide) b6;have sA:At (RB b3 k3 (yo l k3)) ps k6 b6:=by
   refine a4.bI ?_;rw[nG qe];exact a5.bI (a6.bI (At.ret _ _ _))
  simp only[bp,ad,e6,e7,e8,an,ar,ak];cases c
  ·refine⟨ai.mk 3 nm dI ps as jS [],k7,b7,h7,a1.bI ?_,rfl⟩;rw[yq t2 f2 r2];refine a3.bI (sA.bI ?_);rw[vR,yt t7 f7 r7];exact At.bind (At.ret _ _ _) (At.ret _ _ _)
  ·obtain⟨v,k8,b8,h8,a8,e9⟩:=E6 hL hT h7 b7;refine⟨ai.mk 3 nm v ps as jS [],k8,b8,h8,a1.bI ?_,?_⟩
   ·rw[yq t2 f2 r2];refine a3.bI (sA.bI ?_);rw[vR,yt t7 f7 r7];exact At.bind a8 (At.ret _ _ _)
   ·simp only[ad,e9,an,ar,ak,aa.bZ];rfl
 ·obtain⟨h5,hb⟩:=nH hL h4 qe;subst hb;have e7:M.dk [41] (ip l k4 false)=some (ip l (k4+1) false):=by rw[fg hL h4 (cX 41 (by decide)),qe];rfl
  obtain⟨c,k7,b7,h7,e8,t7,f7,r7⟩:=LM hL h5 (t:=[45,62]) (fun d r e=>by cases e;decide) false;have sA:At (RB b3 k3 (yo l k3)) [] (k4+1) false:=by
   refine a4.bI ?_;rw[mf qe];exact Or.inl ⟨rfl,rfl⟩
  simp only[bV,al,e7,e8,an,ar,ak];cases c
  ·refine⟨ai.mk 3 nm dI [] as jS [],k7,b7,h7,a1.bI ?_,rfl⟩;rw[yq t2 f2 r2];refine a3.bI (sA.bI ?_);rw[vR,yt t7 f7 r7];exact At.bind (At.ret _ _ _) (At.ret _ _ _)
  ·obtain⟨v,k8,b8,h8,a8,e9⟩:=E6 hL hT h7 b7;refine⟨ai.mk 3 nm v [] as jS [],k8,b8,h8,a1.bI ?_,?_⟩
   ·rw[yq t2 f2 r2];refine a3.bI (sA.bI ?_);rw[vR,yt t7 f7 r7];exact At.bind a8 (At.ret _ _ _)
   ·simp only[ad,e9,an,ar,ak,aa.bZ];rfl
theorem ahp{l:List aj}(hL:bY l)(hT:∀t∈l,t.Text.length<=30000){k:Nat}(hk:k<l.length)(b:Bool):
 ∃v k' b',k'<l.length/\At (RB b k (yo l k)) v k' b'/\M.Bm (sp l k b)=some (v,sp l k' b'):=by
 obtain⟨k4,b4,h4,a4,e4⟩:=kS hL hk [40] b;unfold M.Bm;simp only[e4,fx hL h4 [41] b4,an,ar,ak];cases qe:(!b4&&aC l [41] k4)
 ·simp only[al];cases b4 with
  |true=>
   refine⟨[],k4,true,h4,a4.bI (At.no _ _ _),?_⟩;obtain⟨n,hn⟩:∃n,ae=n+1:=⟨ae-1,by have:=aZ;omega⟩;rw[hn,M.nJ];rfl
  |false=>
   obtain⟨vs,k',b',h1,a1,e1⟩:=ahn hL hT ae 5 [] k4 (by have:=aZ;omega) h4 rfl;refine⟨vs,k',b',h1,a4.bI ?_,?_⟩
   ·rw[nG qe,show ∀r:PR (List aV),RB false k4 r=r from fun _=>rfl];rw[Bf l _ [41] (by decide)]at a1;exact a1
   ·rw[e1];rfl
 ·obtain⟨h5,hb⟩:=nH hL h4 qe;subst hb;refine⟨[],k4+1,false,h5,a4.bI ?_,rfl⟩;rw[mf qe];exact Or.inl ⟨rfl,rfl⟩
theorem ahq{l:List aj}(hL:bY l)(hT:∀t∈l,t.Text.length<=30000)(nm:List UInt8){k1:Nat}(h1:k1<l.length)(b1:Bool):
 ∃v k' b',k'<l.length/\At (RB b1 k1 (oW l nm k1)) v k' b'/\M.Bn nm (sp l k1 b1)=some (v,sp l k' b'):=by
 obtain⟨as,k2,b2,h2,e2,t2,f2,r2⟩:=SC hL h1 rR b1;obtain⟨k3,b3,h3,a3,e3⟩:=kS hL h2 Bj b2;obtain⟨ps,k6,b6,h6,sA,e4⟩:=ahp hL hT h3 b3;obtain⟨c,k7,b7,h7,e8,t7,f7,r7⟩:=SC hL h6 [45,62] b6;unfold rR at e2;unfold Bj at e3;unfold M.Bn;simp only[e2,e3,e4,e8,an,ar,ak];cases c
 ·refine⟨ai.mk 3 nm dI ps as jS [],k7,b7,h7,?_,rfl⟩;rw[yq t2 f2 r2];refine a3.bI (sA.bI ?_);rw[vR,yt t7 f7 r7];exact At.bind (At.ret _ _ _) (At.ret _ _ _)
 ·obtain⟨v,k8,b8,h8,a8,e9⟩:=LJ hL hT h7 b7;refine⟨ai.mk 3 nm v ps as jS [],k8,b8,h8,?_,?_⟩
  ·rw[yq t2 f2 r2];refine a3.bI (sA.bI ?_);rw[vR,yt t7 f7 r7];exact At.bind a8 (At.ret _ _ _)
  ·simp only[ad,e9,an,ar,ak,aa.bZ];rfl
end M
namespace M
open Go.V (inB bN ae aZ)
theorem ahr{l:List aj}(hL:bY l)(hT:∀t∈l,t.Text.length<=30000){k:Nat}(hk:k<l.length)(b:Bool):
 ∃p us k1 b1 k2 b2 k3 b3 k4 b4 k5 b5,k5<l.length/\M.nI (ip l k b)=some (p,ip l k1 b1)/\M.dk [46] (ip l k1 b1)=some (ip l k2 b2)/\M.dk [123] (ip l k2 b2)=some (ip l k3 b3)/\
  M.vU 16 (ip l k3 b3) 4 [] 0 [] false (aI.ba p) (aI.Name p) (aI.Version p) [] [] [] []=some (ip l k4 b4,4,[],0,[],false,aI.ba p,aI.Name p,aI.Version p,[],[],[],us)/\
  M.dk [125] (ip l k4 b4)=some (ip l k5 b5)/\At (RB b k (yp l k)) (ai.mk 4 [] mj [] false p us) k5 b5:=by
 obtain⟨p,k1,b1,h1,a1,e1⟩:=LK hL hT hk b;obtain⟨k2,b2,h2,a2,e2⟩:=jR hL h1 (cX 46 (by decide)) b1;obtain⟨k3,b3,h3,a3,e3⟩:=jR hL h2 (cX 123 (by decide)) b2;obtain⟨us,k4,b4,h4,a4,e4⟩:=ahm hL hT 4 [] 0 [] false (aI.ba p) (aI.Name p) (aI.Version p) [] [] [] h3 b3;obtain⟨k5,b5,h5,a5,e5⟩:=jR hL h4 (cX 125 (by decide)) b4;exact⟨p,us,k1,b1,k2,b2,k3,b3,k4,b4,k5,b5,h5,e1,e2,e3,e4,e5,a1.bI (a2.bI (a3.bI (a4.bI (a5.bI (At.ret _ _ _)))))⟩
theorem ahs{l:List aj}(hL:bY l)(hT:∀t∈l,t.Text.length<=30000){k:Nat}(hk:k<l.length)(b:Bool):
 ∃v k' b',k'<l.length/\At (RB b k (oY l k)) v k' b'/\M.Bo (ip l k b)=some (v,ip l k' b'):=by
 obtain⟨v1,k1,b1,h1,a1,e1,-⟩:=vS hL hT hk b;unfold M.Bo;simp only[e1,ir,an,ar,ak];cases b1 with
 |true=>
  obtain⟨v,k',b',h,a,e⟩:=SD hL hT v1 h1 true;have a':At (PR.no k1) v k' b':=a;refine⟨v,k',b',h,a1.bI (f:=lG l) a',?_⟩;simp only[ad,e,an,ar,ak,cn,ai.bZ]
 |false=>
  have e2:=AZ hL h1 (cX 58 (by decide)) false;simp only[al,e2,an,ar,ak,bp,bj,cn];cases jT:aC l [58] k1
  ·simp only[al];cases hR:(v1==[114,101,115,111,117,114,99,101])
   ·simp only[al];cases hY:(v1==[116,121,112,101])
    ·simp only[al];cases hU:(v1==[117,115,101])
     ·refine⟨ai.mk 0 [] mj [] false jS [],k1,true,h1,a1.bI ?_,rfl⟩;unfold lG nK qg qh;rw[jT,hR,hY,hU];exact Or.inr ⟨rfl,rfl⟩
     ·obtain⟨p,us,k2,b2,k3,b3,k4,b4,k5,b5,k6,b6,h6,f1,f2,f3,f4,f5,a6⟩:=ahr hL hT h1 false;refine⟨ai.mk 4 [] mj [] false p us,k6,b6,h6,a1.bI ?_,?_⟩
      ·unfold lG nK qg qh;rw[jT,hR,hY,hU];exact a6
      ·simp only[ad,f1,f2,f3,f4,f5,an,ar,ak];rfl
    ·obtain⟨v2,k2,b2,h2,a2,f2,-⟩:=E4 hL hT h1 false;obtain⟨k3,b3,h3,a3,f3⟩:=jR hL h2 (cX 61 (by decide)) b2;obtain⟨v4,k4,b4,h4,a4,f4⟩:=E6 hL hT h3 b3;refine⟨ai.mk 2 v2 v4 [] false jS [],k4,b4,h4,a1.bI ?_,?_⟩
     ·unfold lG nK qg qh;rw[jT,hR,hY];exact a2.bI (a3.bI (a4.bI (At.ret _ _ _)))
     ·simp only[ad,f2,f3,f4,an,ar,ak,aa.bZ];rfl
   ·obtain⟨v2,k2,b2,h2,a2,f2,-⟩:=E4 hL hT h1 false;refine⟨ai.mk 1 v2 mj [] false jS [],k2,b2,h2,a1.bI ?_,?_⟩
    ·unfold lG nK;rw[jT,hR];exact a2.bI (At.ret _ _ _)
    ·simp only[ad,f2,an,ar,ak];rfl
  ·obtain⟨v,k',b',h,a,e⟩:=SD hL hT v1 h1 false;refine⟨v,k',b',h,a1.bI ?_,?_⟩
   ·unfold lG;unfold cA at a;rw[jT]at a⊢;exact a
   ·simp only[ad,e,an,ar,ak,ai.bZ]
theorem aht{l:List aj}(hL:bY l)(hT:∀t∈l,t.Text.length<=30000){k:Nat}(hk:k<l.length)(b:Bool):
 ∃v k' b',k'<l.length/\At (RB b k (yp l k)) v k' b'/\M.Bq (sp l k b)=some (v,sp l k' b'):=by
 obtain⟨p,k1,b1,h1,a1,e1⟩:=LL hL hT hk b;obtain⟨k2,b2,h2,a2,e2⟩:=kS hL h1 [46] b1;obtain⟨k3,b3,h3,a3,e3⟩:=kS hL h2 [123] b2;unfold M.Bq;simp only[e1,e2,e3,an,ar,ak];cases b3 with
 |true=>
  refine⟨ai.mk 4 [] mj [] false p [],k3,true,h3,a1.bI (a2.bI (a3.bI (At.no _ _ _))),?_⟩;obtain⟨n,hn⟩:∃n,ae=n+1:=⟨ae-1,by have:=aZ;omega⟩;rw[hn,M.mi];rfl
 |false=>
  obtain⟨us,k',b',h4,a4,e4⟩:=aho hL hT (aI.ba p) (aI.Name p) (aI.Version p) ae 15 [] k3 (by have:=aZ;omega) h3 rfl;rw[Bf l _ [125] (by decide)]at a4;refine⟨ai.mk 4 [] mj [] false p us,k',b',h4,a1.bI (a2.bI (a3.bI ?_)),?_⟩
  ·rw[show ∀r:PR ai,RB false k3 r=r from fun _=>rfl];generalize hr:dZ l (mV l) 15 [] k3=r at a4⊢;cases r with
   |no q=>
    rcases a4 with⟨q1,q2⟩|⟨q1,q2⟩
    ·cases q1
    ·cases q1;exact Or.inr ⟨rfl,q2⟩
   |ok us' q=>
    simp only[PR.bind]at a4⊢;cases hn:cA l [125] q with
    |no q'=>
     rw[hn]at a4;rcases a4 with⟨q1,q2⟩|⟨q1,q2⟩
     ·cases q1
     ·cases q1;exact Or.inr ⟨rfl,q2⟩
    |ok u q'=>
     rw[hn]at a4;rcases a4 with⟨q1,q2⟩|⟨q1,q2⟩
     ·cases q1;exact Or.inl ⟨rfl,q2⟩
     ·cases q1
  ·rw[e4];rfl
def kU(l:List aj)(k:Nat):PR ai:=(oY l k).bind fun x k1=>(cA l [59] k1).bind fun _ k2=>.ok x k2
theorem SE{l:List aj}(hL:bY l)(hT:∀t∈l,t.Text.length<=30000){k:Nat}(hk:k<l.length)(b:Bool):
 ∃v k' b',k'<l.length/\At (RB b k (kU l k)) v k' b'/\M.Br (sp l k b)=some (v,sp l k' b'):=by
 obtain⟨v1,k1,b1,h1,a1,e1,z1⟩:=vT hL hT hk b;unfold M.Br;simp only[e1,fx hL h1 [58] b1,an,ar,ak];cases b1 with
 |true=>
  rw[z1 rfl];refine⟨ai.mk 0 [] mj [] false jS [],k1,true,h1,At.bI (r:=oY l k) (v:=ai.mk 0 [] mj [] false jS []) (a1.bI (At.no _ _ _)) (At.no _ _ _),?_⟩;have f0:(([]:List UInt8)==[114,101,115,111,117,114,99,101])=false:=rfl;have f1:(([]:List UInt8)==[116,121,112,101])=false:=rfl;have f2:(([]:List UInt8)==[117,115,101])=false:=rfl;simp only[bV,cK,al,f0,f1,f2,js,jt,kR,gI hL h1 [59] true,ar,ak,ad];rfl
 |false=>
  simp only[bp,bj];cases jT:aC l [58] k1
  ·simp only[al];cases hR:(v1==[114,101,115,111,117,114,99,101])
   ·simp only[al];cases hY:(v1==[116,121,112,101])
    ·simp only[al];cases hU:(v1==[117,115,101])
     ·refine⟨ai.mk 0 [] mj [] false jS [],k1,true,h1,At.bI (r:=oY l k) (v:=ai.mk 0 [] mj [] false jS []) (k1:=k1) (b1:=true) (a1.bI ?_) (At.no _ _ _),?_⟩
      ·unfold lG nK qg qh;rw[jT,hR,hY,hU];exact Or.inr ⟨rfl,rfl⟩
      ·simp only[al,js,jt,kR,gI hL h1 [59] true,ar,ak,ad];rfl
     ·obtain⟨v2,k2,b2,h2,a2,f2⟩:=aht hL hT h1 false;obtain⟨k3,b3,h3,a3,f3⟩:=kS hL h2 [59] b2;refine⟨v2,k3,b3,h3,At.bI (r:=oY l k) (a1.bI ?_) (a3.bI (At.ret _ _ _)),?_⟩
      ·unfold lG nK qg qh;rw[jT,hR,hY,hU];exact a2
      ·simp only[ad,f2,f3,an,ar,ak,ai.bZ]
    ·obtain⟨v2,k2,b2,h2,a2,f2,-⟩:=E5 hL hT h1 false;obtain⟨k3,b3,h3,a3,f3⟩:=kS hL h2 [61] b2;obtain⟨v4,k4,b4,h4,a4,f4⟩:=LJ hL hT h3 b3;obtain⟨k5,b5,h5,a5,f5⟩:=kS hL h4 [59] b4;refine⟨ai.mk 2 v2 v4 [] false jS [],k5,b5,h5,At.bI (r:=oY l k) (a1.bI ?_) (a5.bI (At.ret _ _ _)),?_⟩
     ·unfold lG nK qg qh;rw[jT,hR,hY];exact a2.bI (a3.bI (a4.bI (At.ret _ _ _)))
     ·simp only[ad,f2,f3,f4,f5,an,ar,ak,aa.bZ];rfl
   ·obtain⟨v2,k2,b2,h2,a2,f2,-⟩:=E5 hL hT h1 false;obtain⟨k3,b3,h3,a3,f3⟩:=kS hL h2 [59] b2;refine⟨ai.mk 1 v2 mj [] false jS [],k3,b3,h3,At.bI (r:=oY l k) (a1.bI ?_) (a3.bI (At.ret _ _ _)),?_⟩
    ·unfold lG nK;rw[jT,hR];exact a2.bI (At.ret _ _ _)
    ·simp only[ad,f2,f3,an,ar,ak];rfl
  ·obtain⟨v2,k2,b2,h2,a2,f2⟩:=ahq hL hT v1 (cZ hL h1 jT) false;obtain⟨k3,b3,h3,a3,f3⟩:=kS hL h2 [59] b2;refine⟨v2,k3,b3,h3,At.bI (r:=oY l k) (a1.bI ?_) (a3.bI (At.ret _ _ _)),?_⟩
   ·unfold lG;rw[jT];exact a2
   ·simp only[ad,f2,f3,an,ar,ak,ai.bZ]
end M
namespace M
open Go.V (inB bN ae aZ)
def gP{α:Type}(l:List aj)(el:Nat->PR α):Nat->List α->Nat->PR (List α)
 |0,acc,k=>(cA l [125] k).bind fun _ k1=>.ok acc k1
 |m+1,acc,k=>bif aC l [125] k then .ok acc (k+1)else(el k).bind fun x k1=>gP l el m (acc++[x]) k1
def mW(l:List aj)(k:Nat):PR aF:=(g9 l k).bind fun n k1=>(cA l [123] k1).bind fun _ k2=>(gP l (kU l) 16 [] k2).bind fun xs k3=>.ok (aF.mk n xs) k3
theorem ahu{l:List aj}(hL:bY l)(hT:∀t∈l,t.Text.length<=30000)(t2 x:List UInt8)(o5:List ai):∀(f m:Nat)(acc:List ai)(k:Nat)(b:Bool),m+1<f->k<l.length->acc.length+m=16->
 ∃vs k' b' k2 b2,k2<l.length/\M.yv t2 x o5 f (ip l k b) acc=some (ip l k' b',t2,x,o5,vs)/\M.dk [125] (ip l k' b')=some (ip l k2 b2)/\At (RB b k (gP l (kU l) m acc k)) vs k2 b2:=by
 intro f
 induction f with
 |zero=>intro m acc k b h;omega
 |succ f ih=>
  intro m acc k b hf hk hacc;rw[M.yv];cases b with
  |true=>
   refine⟨acc,k,true,k,true,hk,?_,?_,At.no _ _ _⟩
   ·simp only[ir,bV,Bool.and_false,al,ak,cn,ad]
   ·rw[fg hL hk (cX 125 (by decide)) true];rfl
  |false=>
   cases m with
   |zero=>
    obtain⟨k2,b2,h2,a2,e2⟩:=jR hL hk (cX 125 (by decide)) false;refine⟨acc,k,false,k2,b2,h2,?_,e2,?_⟩
    ·rw[ct (show ¬((acc.length:Nat):Int)<16 by omega)];simp only[ir,bp,cK,al,ak,cn,ad]
    ·rw[gP];exact a2.bI (At.ret _ _ _)
   |succ m=>
    rw[cM (show((acc.length:Nat):Int)<16 by omega),gP];simp only[ir,bp,bj,ad,AZ hL hk (cX 125 (by decide)) false,an,ar,ak,cn];cases h:aC l [125] k
    ·obtain⟨v1,k1,b1,h1,a1,e1⟩:=ahs hL hT hk false;obtain⟨k2,b2,h2,a2,e2⟩:=jR hL h1 (cX 59 (by decide)) b1;obtain⟨vs,k3,b3,k4,b4,h4,e3,e4,a4⟩:=ih m (acc++[v1]) k2 b2 (by omega) h2 (by rw[aG,List.length_singleton];omega);refine⟨vs,k3,b3,k4,b4,h4,?_,e4,?_⟩
     ·simp only[bp,ad,e1,e2,an,ar,dJ (show acc.length<=1000 by omega),ak,ai.bZ,e3]
     ·simp only[al];refine At.bI (r:=kU l k) (v:=v1) (k1:=k2) (b1:=b2) ?_ a4;unfold kU;exact a1.bI (a2.bI (At.ret _ _ _))
    ·refine⟨acc,k,false,k+1,false,cZ hL hk h,?_,?_,?_⟩
     ·simp only[bV,al,ad]
     ·rw[fg hL hk (cX 125 (by decide)) false,h];rfl
     ·exact Or.inl ⟨rfl,rfl⟩
theorem ahv{l:List aj}(hL:bY l)(hT:∀t∈l,t.Text.length<=30000){k:Nat}(hk:k<l.length)(b:Bool):
 ∃v k' b',k'<l.length/\At (RB b k (mW l k)) v k' b'/\M.yw (ip l k b)=some (v,ip l k' b'):=by
 obtain⟨v1,k1,b1,h1,a1,e1,-⟩:=vS hL hT hk b;obtain⟨k2,b2,h2,a2,e2⟩:=jR hL h1 (cX 123 (by decide)) b1;obtain⟨vs,k3,b3,k4,b4,h4,e3,e4,a4⟩:=ahu hL hT [] v1 [] ae 16 [] k2 b2 (by have:=aZ;omega) h2 rfl;refine⟨aF.mk v1 vs,k4,b4,h4,a1.bI (a2.bI (a4.bI (At.ret _ _ _))),?_⟩;unfold M.yw;simp only[e1,e2,e3,e4,an,ar,ak,ad]
theorem ahw{l:List aj}(hL:bY l)(hT:∀t∈l,t.Text.length<=30000)(t2 x:List UInt8)(o5:List ai):∀(f m:Nat)(acc:List ai)(k:Nat)(b:Bool),m+1<f->k<l.length->acc.length+m=16->
 ∃vs k' b',k'<l.length/\At (RB b k (gP l (kU l) m acc k)) vs k' b'/\M.tX t2 x o5 f (sp l k b) acc=some (l,(k':Int),b',t2,x,o5,vs):=by
 intro f
 induction f with
 |zero=>intro m acc k b h;omega
 |succ f ih=>
  intro m acc k b hf hk hacc;obtain⟨f',rfl⟩:∃f',f=f'+1:=⟨f-1,by omega⟩;have hend:∀(f:Nat)(k:Nat)(xs:List ai),M.tX t2 x o5 (f+1) (sp l k true) xs=some (l,(k:Int),true,t2,x,o5,xs):=fun f k xs=>by
   rw[M.tX];rfl
  cases b with
  |true=>exact⟨acc,k,true,hk,At.no _ _ _,hend _ k acc⟩
  |false=>
   rw[M.tX];simp only[iI,bp,ad,fx hL hk [125] false,bj,an,ar,ak,cn];cases h:aC l [125] k
   ·simp only[al,bp,ad,js,jt,kR];cases m with
    |zero=>
     rw[cM (show(16:Int)<=((acc.length:Nat):Int) by omega)];obtain⟨v1,k1,b1,h1,a1,e1⟩:=SE hL hT hk true;have q:b1=true/\k1=k:=by
      rcases a1 with⟨q1,q2⟩|⟨q1,q2⟩
      ·cases q1
      ·cases q1;exact⟨q2,rfl⟩
     rw[q.1,q.2]at e1;refine⟨acc++[v1],k,true,hk,?_,?_⟩
     ·rw[gP];unfold cA;rw[h];exact Or.inr ⟨rfl,rfl⟩
     ·simp only[e1,an,ar,dJ (show acc.length<=1000 by omega),ak,ad,ai.bZ];exact hend _ k _
    |succ m=>
     rw[ct (show ¬(16:Int)<=((acc.length:Nat):Int) by omega)];obtain⟨v1,k1,b1,h1,a1,e1⟩:=SE hL hT hk false;obtain⟨vs,k3,b3,h3,a3,e3⟩:=ih m (acc++[v1]) k1 b1 (by omega) h1 (by rw[aG,List.length_singleton];omega);refine⟨vs,k3,b3,h3,?_,?_⟩
     ·rw[gP,h];exact At.bI (r:=kU l k) a1 a3
     ·simp only[e1,an,ar,dJ (show acc.length<=1000 by omega),ak,ad,ai.bZ,e3]
   ·refine⟨acc,k+1,false,cZ hL hk h,?_,rfl⟩;cases m with
    |zero=>
     rw[gP];unfold cA;rw[h];exact Or.inl ⟨rfl,rfl⟩
    |succ m=>
     rw[gP,h];exact Or.inl ⟨rfl,rfl⟩
theorem ahx{l:List aj}(hL:bY l)(hT:∀t∈l,t.Text.length<=30000){k:Nat}(hk:k<l.length)(b:Bool):
 ∃v k' b',k'<l.length/\At (RB b k (mW l k)) v k' b'/\M.yx (sp l k b)=some (v,sp l k' b'):=by
 obtain⟨v1,k1,b1,h1,a1,e1,-⟩:=vT hL hT hk b;obtain⟨k2,b2,h2,a2,e2⟩:=kS hL h1 [123] b1;obtain⟨vs,k3,b3,h3,a3,e3⟩:=ahw hL hT [] v1 [] ae 16 [] k2 b2 (by have:=aZ;omega) h2 rfl;refine⟨aF.mk v1 vs,k3,b3,h3,a1.bI (a2.bI (a3.bI (At.ret _ _ _))),?_⟩;unfold M.yx;simp only[e1,e2,e3,an,ar,ak,ad];rfl
end M
namespace M
open Go.V (inB bN ae aZ)
def oZ:List UInt8:=[105,109,112,111,114,116]
def pd:List UInt8:=[101,120,112,111,114,116]
def pe:List UInt8:=[105,110,99,108,117,100,101]
def tY(l:List aj)(kind:Int)(k:Nat):PR aN:=(qf l k).bind fun p k1=>(cA l [59] k1).bind fun _ k2=>.ok (aN.mk kind p) k2
def jU(l:List aj)(k:Nat):PR aN:=
 bif aC l oZ k then tY l 1 (k+1)else bif aC l pd k then tY l 2 (k+1)else bif aC l pe k then tY l 3 (k+1)else .no k
def rT(l:List aj)(k:Nat):PR aS:=(g9 l k).bind fun n k1=>(cA l [123] k1).bind fun _ k2=>(gP l (jU l) 16 [] k2).bind fun xs k3=>.ok (aS.mk n xs) k3
theorem ahy{l:List aj}(hL:bY l)(hT:∀t∈l,t.Text.length<=30000)(t2 x:List UInt8)(o5:List aN):∀(f m:Nat)(acc:List aN)(k:Nat)(b:Bool),m+1<f->k<l.length->acc.length+m=16->
 ∃vs k' b' k2 b2,k2<l.length/\M.rU t2 x o5 f (ip l k b) acc=some (ip l k' b',t2,x,o5,vs)/\M.dk [125] (ip l k' b')=some (ip l k2 b2)/\At (RB b k (gP l (jU l) m acc k)) vs k2 b2:=by
 intro f
 induction f with
 |zero=>intro m acc k b h;omega
 |succ f ih=>
  intro m acc k b hf hk hacc;rw[M.rU];cases b with
  |true=>
   refine⟨acc,k,true,k,true,hk,?_,?_,At.no _ _ _⟩
   ·simp only[ir,bV,Bool.and_false,al,ak,cn,ad]
   ·rw[fg hL hk (cX 125 (by decide)) true];rfl
  |false=>
   cases m with
   |zero=>
    obtain⟨k2,b2,h2,a2,e2⟩:=jR hL hk (cX 125 (by decide)) false;refine⟨acc,k,false,k2,b2,h2,?_,e2,?_⟩
    ·rw[ct (show ¬((acc.length:Nat):Int)<16 by omega)];simp only[ir,bp,cK,al,ak,cn,ad]
    ·rw[gP];exact a2.bI (At.ret _ _ _)
   |succ m=>
    rw[cM (show((acc.length:Nat):Int)<16 by omega),gP];simp only[ir,bp,bj,ad,AZ hL hk (cX 125 (by decide)) false,an,ar,ak,cn];have key:∀(kind:Int)(kk:Nat),kk<l.length->∃v1 k1 b1 k2 b2,k2<l.length/\M.nI (ip l kk false)=some (v1,ip l k1 b1)/\M.dk [59] (ip l k1 b1)=some (ip l k2 b2)/\At (tY l kind kk) (aN.mk kind v1) k2 b2:=by
     intro kind kk hkk;obtain⟨v1,k1,b1,h1,a1,e1⟩:=LK hL hT hkk false;obtain⟨k2,b2,h2,a2,e2⟩:=jR hL h1 (cX 59 (by decide)) b1;exact⟨v1,k1,b1,k2,b2,h2,e1,e2,At.bind (r:=qf l kk) a1 (a2.bI (At.ret _ _ _))⟩
    have tI:=jh hL hk (text:=[105,109,112,111,114,116]) (fun d r e=>by cases e;decide) false;have tE:=jh hL hk (text:=[101,120,112,111,114,116]) (fun d r e=>by cases e;decide) false;have tC:=jh hL hk (text:=[105,110,99,108,117,100,101]) (fun d r e=>by cases e;decide) false;rw[bp,bj]at tI tE tC;cases h:aC l [125] k
    ·simp only[bp,ad,al];cases hI:aC l [105,109,112,111,114,116] k
     ·rw[hI]at tI;cases hE:aC l [101,120,112,111,114,116] k
      ·rw[hE]at tE;cases hC:aC l [105,110,99,108,117,100,101] k
       ·rw[hC]at tC;obtain⟨v1,k1,b1,h1,a1,e1⟩:=LK hL hT hk true;have q:b1=true/\k1=k:=by
         rcases a1 with⟨q1,q2⟩|⟨q1,q2⟩
         ·cases q1
         ·cases q1;exact⟨q2,rfl⟩
        rw[q.1,q.2]at e1;have e2:M.dk [59] (ip l k true)=some (ip l k true):=by rw[fg hL hk (cX 59 (by decide))];rfl
        obtain⟨vs,k3,b3,k4,b4,h4,e3,e4,a4⟩:=ih m (acc++[aN.mk 0 v1]) k true (by omega) hk (by rw[aG,List.length_singleton];omega);refine⟨vs,k3,b3,k4,b4,h4,?_,e4,?_⟩
        ·simp only[tI,tE,tC,al,ad,an,ar,lF,kj,mg,e1,e2,dJ (show acc.length<=1000 by omega),ak,e3]
        ·unfold jU oZ pd pe;rw[hI,hE,hC];exact a4
       ·rw[hC]at tC;obtain⟨v1,k1,b1,k2,b2,h2,e1,e2,a2⟩:=key 3 (k+1) (cZ hL hk hC);obtain⟨vs,k3,b3,k4,b4,h4,e3,e4,a4⟩:=ih m (acc++[aN.mk 3 v1]) k2 b2 (by omega) h2 (by rw[aG,List.length_singleton];omega);refine⟨vs,k3,b3,k4,b4,h4,?_,e4,?_⟩
        ·simp only[tI,tE,tC,al,ad,an,ar,e1,e2,dJ (show acc.length<=1000 by omega),ak,e3]
        ·unfold jU oZ pd pe;rw[hI,hE,hC];exact At.bind a2 a4
      ·rw[hE]at tE;obtain⟨v1,k1,b1,k2,b2,h2,e1,e2,a2⟩:=key 2 (k+1) (cZ hL hk hE);obtain⟨vs,k3,b3,k4,b4,h4,e3,e4,a4⟩:=ih m (acc++[aN.mk 2 v1]) k2 b2 (by omega) h2 (by rw[aG,List.length_singleton];omega);refine⟨vs,k3,b3,k4,b4,h4,?_,e4,?_⟩
       ·simp only[tI,tE,al,ad,an,ar,e1,e2,dJ (show acc.length<=1000 by omega),ak,e3]
       ·unfold jU oZ pd pe;rw[hI,hE];exact At.bind a2 a4
     ·rw[hI]at tI;obtain⟨v1,k1,b1,k2,b2,h2,e1,e2,a2⟩:=key 1 (k+1) (cZ hL hk hI);obtain⟨vs,k3,b3,k4,b4,h4,e3,e4,a4⟩:=ih m (acc++[aN.mk 1 v1]) k2 b2 (by omega) h2 (by rw[aG,List.length_singleton];omega);refine⟨vs,k3,b3,k4,b4,h4,?_,e4,?_⟩
      ·simp only[tI,al,ad,an,ar,e1,e2,dJ (show acc.length<=1000 by omega),ak,e3]
      ·unfold jU oZ pd pe;rw[hI];exact At.bind a2 a4
    ·refine⟨acc,k,false,k+1,false,cZ hL hk h,?_,?_,?_⟩
     ·simp only[bV,al,ad]
     ·rw[fg hL hk (cX 125 (by decide)) false,h];rfl
     ·exact Or.inl ⟨rfl,rfl⟩
theorem ahz{l:List aj}(hL:bY l)(hT:∀t∈l,t.Text.length<=30000){k:Nat}(hk:k<l.length)(b:Bool):
 ∃v k' b',k'<l.length/\At (RB b k (rT l k)) v k' b'/\M.vV (ip l k b)=some (v,ip l k' b'):=by
 obtain⟨v1,k1,b1,h1,a1,e1,-⟩:=vS hL hT hk b;obtain⟨k2,b2,h2,a2,e2⟩:=jR hL h1 (cX 123 (by decide)) b1;obtain⟨vs,k3,b3,k4,b4,h4,e3,e4,a4⟩:=ahy hL hT [] v1 [] ae 16 [] k2 b2 (by have:=aZ;omega) h2 rfl;refine⟨aS.mk v1 vs,k4,b4,h4,a1.bI (a2.bI (a4.bI (At.ret _ _ _))),?_⟩;unfold M.vV;simp only[e1,e2,e3,e4,an,ar,ak,ad]
end M
namespace M
open Go.V (inB bN ae aZ)
theorem LN{l:List aj}(hL:bY l)(t2 w:List UInt8)(o6 o7:List aN)(P:aI){k:Nat}(hk:k<l.length)(b:Bool)(n:Nat)(i j:Int)(t:List UInt8)
 (h1:List.getD (Option.getD M.jV Inhabited.default) (Int.toNat i) []=t) (h2:inB i (List.length (Option.getD M.jV Inhabited.default))=true) (h3:decide (i<(3:Int))=true) (h4:Go.IntKind.wrap Go.IntKind.i64 (i+1)=j):
 M.kV t2 w o6 o7 (n+1) i (sp l k b) (aN.mk 0 P)=bif !b&&aC l t k then M.kV t2 w o6 o7 n j (sp l (k+1) b) (aN.mk j P)else M.kV t2 w o6 o7 n j (sp l k b) (aN.mk 0 P):=by
 have hs:Option.isSome M.jV=true:=rfl;rw[M.kV];simp only[h1,h2,h3,h4,hs,fx hL hk t b,an,ar,ak,ad,cn];cases (!b&&aC l t k)
 ·simp only[al]
 ·simp only[ad]
theorem LP(t2 w:List UInt8)(o6 o7:List aN)(P:aI)(p:ay)(n:Nat)(i j kd:Int)(h0:(kd==(0:Int))=false)(h3:decide (i<(3:Int))=true)(h4:Go.IntKind.wrap Go.IntKind.i64 (i+1)=j):
 M.kV t2 w o6 o7 (n+1) i p (aN.mk kd P)=M.kV t2 w o6 o7 n j p (aN.mk kd P):=by
 rw[M.kV];simp only[h3,h4,h0,ad,al,cn,ak]
theorem E7(t2 w:List UInt8)(o6 o7:List aN)(p:ay)(x:aN)(n:Nat):M.kV t2 w o6 o7 (n+1) 3 p x=some (p,t2,w,x,o6,o7):=by
 rw[M.kV];rfl
theorem SG{l:List aj}(hL:bY l)(t2 w:List UInt8)(o6 o7:List aN)(P:aI){k:Nat}(hk:k<l.length)(b:Bool):
 M.kV t2 w o6 o7 ae 0 (sp l k b) (aN.mk 0 P)=
   bif !b&&aC l oZ k then some (sp l (k+1) b,t2,w,aN.mk 1 P,o6,o7)
   else bif !b&&aC l pd k then some (sp l (k+1) b,t2,w,aN.mk 2 P,o6,o7)
   else bif !b&&aC l pe k then some (sp l (k+1) b,t2,w,aN.mk 3 P,o6,o7)
   else some (sp l k b,t2,w,aN.mk 0 P,o6,o7):=by
 obtain⟨n,hn⟩:∃n,ae=n+1+1+1+1:=⟨ae-4,by have:=aZ;omega⟩;rw[hn,LN hL t2 w o6 o7 P hk b _ 0 1 oZ rfl rfl rfl (by decide)];cases (!b&&aC l oZ k)
 ·simp only[al];rw[LN hL t2 w o6 o7 P hk b _ 1 2 pd rfl rfl rfl (by decide)];cases (!b&&aC l pd k)
  ·simp only[al];rw[LN hL t2 w o6 o7 P hk b _ 2 3 pe rfl rfl rfl (by decide)];cases (!b&&aC l pe k)
   ·simp only[al];exact E7 _ _ _ _ _ _ _
   ·simp only[ad];exact E7 _ _ _ _ _ _ _
  ·simp only[ad];rw[LP _ _ _ _ _ _ _ 2 3 2 rfl rfl (by decide)];exact E7 _ _ _ _ _ _ _
 ·simp only[ad];rw[LP _ _ _ _ _ _ _ 1 2 1 rfl rfl (by decide),LP _ _ _ _ _ _ _ 2 3 1 rfl rfl (by decide)];exact E7 _ _ _ _ _ _ _
theorem ahA{l:List aj}(hL:bY l)(hT:∀t∈l,t.Text.length<=30000)(t2 x:List UInt8)(o5:List aN):∀(f m:Nat)(acc:List aN)(k:Nat)(b:Bool),m+1<f->k<l.length->acc.length+m=16->
 ∃vs k' b',k'<l.length/\At (RB b k (gP l (jU l) m acc k)) vs k' b'/\M.rV f (sp l k b) t2 x o5 acc=some (l,(k':Int),b',t2,x,o5,vs):=by
 intro f
 induction f with
 |zero=>intro m acc k b h;omega
 |succ f ih=>
  intro m acc k b hf hk hacc;obtain⟨f',rfl⟩:∃f',f=f'+1:=⟨f-1,by omega⟩;have hend:∀(f:Nat)(k:Nat)(xs:List aN),M.rV (f+1) (sp l k true) t2 x o5 xs=some (l,(k:Int),true,t2,x,o5,xs):=fun f k xs=>by
   rw[M.rV];rfl
  cases b with
  |true=>exact⟨acc,k,true,hk,At.no _ _ _,hend _ k acc⟩
  |false=>
   have hbad:∃v,M.mh (sp l k true)=some (v,sp l k true):=by
    obtain⟨v1,k1,b1,h1,a1,e1⟩:=LL hL hT hk true;have q:b1=true/\k1=k:=by
     rcases a1 with⟨q1,q2⟩|⟨q1,q2⟩
     ·cases q1
     ·cases q1;exact⟨q2,rfl⟩
    rw[q.1,q.2]at e1;exact⟨v1,e1⟩
   obtain⟨vb,eb⟩:=hbad;have mb:M.dH [59] (sp l k true)=some (sp l k true):=by rw[gI hL hk];rfl
   have key:∀(kind:Int)(kk:Nat),kk<l.length->∃v1 k1 b1 k2 b2,k2<l.length/\M.mh (sp l kk false)=some (v1,sp l k1 b1)/\M.dH [59] (sp l k1 b1)=some (sp l k2 b2)/\At (tY l kind kk) (aN.mk kind v1) k2 b2:=by
    intro kind kk hkk;obtain⟨v1,k1,b1,h1,a1,e1⟩:=LL hL hT hkk false;obtain⟨k2,b2,h2,a2,e2⟩:=kS hL h1 [59] b1;exact⟨v1,k1,b1,k2,b2,h2,e1,e2,At.bind (r:=qf l kk) a1 (a2.bI (At.ret _ _ _))⟩
   rw[M.rV];simp only[iI,bp,ad,fx hL hk [125] false,bj,an,ar,ak,cn];cases h:aC l [125] k
   ·simp only[al,bp,ad,js,jt,kR];cases m with
    |zero=>
     rw[cM (show(16:Int)<=((acc.length:Nat):Int) by omega),SG hL _ _ _ _ _ hk true];refine⟨acc++[aN.mk 0 vb],k,true,hk,?_,?_⟩
     ·rw[gP];unfold cA;rw[h];exact Or.inr ⟨rfl,rfl⟩
     ·simp only[bV,cK,al,js,jt,iI,kR,bh,eb,mb,an,ar,dJ (show acc.length<=1000 by omega),ak,ad];exact hend _ k _
    |succ m=>
     rw[ct (show ¬(16:Int)<=((acc.length:Nat):Int) by omega),SG hL _ _ _ _ _ hk false];rw[gP,h];simp only[bp,bj];have go:∀kind:Int,(kind==(0:Int))=false->aC l (bif kind==1 then oZ else bif kind==2 then pd else pe) k=true->(RB false k (bif false then PR.ok acc (k+1)else(jU l k).bind fun x k1=>gP l (jU l) m (acc++[x]) k1))=(tY l kind (k+1)).bind (fun x k1=>gP l (jU l) m (acc++[x]) k1)->
      ∃vs k' b',k'<l.length/\At (RB false k (bif false then PR.ok acc (k+1)else(jU l k).bind fun x k1=>gP l (jU l) m (acc++[x]) k1)) vs k' b'/\
       (match(some (sp l (k+1) false,t2,x,aN.mk kind (aI.mk [] [] []),o5,acc):Option (ay×List UInt8×List UInt8×aN×List aN×List aN))with
         |none=>none
         |some y3=>bif(decide (((List.length y3.2.2.2.2.2)+(List.length [(M.aN.mk (M.aN.Kind y3.2.2.2.1) (Option.getD (M.mh (M.ay.mk (M.ay.list y3.1) (M.ay.at_ y3.1) ((M.ay.bad y3.1)||((M.aN.Kind y3.2.2.2.1)==(0:Int))))) Inhabited.default).1)]))<=1073741824))&&((Option.isSome (M.dH [(59:UInt8)] (Option.getD (M.mh (M.ay.mk (M.ay.list y3.1) (M.ay.at_ y3.1) ((M.ay.bad y3.1)||((M.aN.Kind y3.2.2.2.1)==(0:Int))))) Inhabited.default).2))&&((Option.isSome (M.mh (M.ay.mk (M.ay.list y3.1) (M.ay.at_ y3.1) ((M.ay.bad y3.1)||((M.aN.Kind y3.2.2.2.1)==(0:Int))))))&&true))then
           M.rV (f'+1) (Option.getD (M.dH [(59:UInt8)] (Option.getD (M.mh (M.ay.mk (M.ay.list y3.1) (M.ay.at_ y3.1) ((M.ay.bad y3.1)||((M.aN.Kind y3.2.2.2.1)==(0:Int))))) Inhabited.default).2) Inhabited.default) y3.2.1 y3.2.2.1 y3.2.2.2.2.1 (y3.2.2.2.2.2++[(M.aN.mk (M.aN.Kind y3.2.2.2.1) (Option.getD (M.mh (M.ay.mk (M.ay.list y3.1) (M.ay.at_ y3.1) ((M.ay.bad y3.1)||((M.aN.Kind y3.2.2.2.1)==(0:Int))))) Inhabited.default).1)])
          else none)=some (l,(k':Int),b',t2,x,o5,vs):=by
      intro kind h0 hB hR;obtain⟨v1,k1,b1,k2,b2,h2,e1,e2,a2⟩:=key kind (k+1) (cZ hL hk hB);obtain⟨vs,k3,b3,h3,a3,e3⟩:=ih m (acc++[aN.mk kind v1]) k2 b2 (by omega) h2 (by rw[aG,List.length_singleton];omega);refine⟨vs,k3,b3,h3,?_,?_⟩
      ·rw[hR];exact At.bind a2 a3
      ·simp only[h0,js,jt,iI,kb,kR,e1,e2,an,ar,dJ (show acc.length<=1000 by omega),ak,ad,e3]
     cases hI:aC l oZ k
     ·cases hE:aC l pd k
      ·cases hC:aC l pe k
       ·refine⟨acc++[aN.mk 0 vb],k,true,hk,?_,?_⟩
        ·unfold jU;rw[hI,hE,hC];exact Or.inr ⟨rfl,rfl⟩
        ·simp only[al,js,jt,iI,kR,cn,d4,eb,mb,an,ar,dJ (show acc.length<=1000 by omega),ak,ad];exact hend _ k _
       ·have:=go 3 rfl hC (by unfold jU;rw[hI,hE,hC];rfl);exact this
      ·have:=go 2 rfl hE (by unfold jU;rw[hI,hE];rfl);exact this
     ·have:=go 1 rfl hI (by unfold jU;rw[hI];rfl);exact this
   ·refine⟨acc,k+1,false,cZ hL hk h,?_,rfl⟩;cases m with
    |zero=>
     rw[gP];unfold cA;rw[h];exact Or.inl ⟨rfl,rfl⟩
    |succ m=>
     rw[gP,h];exact Or.inl ⟨rfl,rfl⟩
theorem ahB{l:List aj}(hL:bY l)(hT:∀t∈l,t.Text.length<=30000){k:Nat}(hk:k<l.length)(b:Bool):
 ∃v k' b',k'<l.length/\At (RB b k (rT l k)) v k' b'/\M.vW (sp l k b)=some (v,sp l k' b'):=by
 obtain⟨v1,k1,b1,h1,a1,e1,-⟩:=vT hL hT hk b;obtain⟨k2,b2,h2,a2,e2⟩:=kS hL h1 [123] b1;obtain⟨vs,k3,b3,h3,a3,e3⟩:=ahA hL hT [] v1 [] ae 16 [] k2 b2 (by have:=aZ;omega) h2 rfl;refine⟨aS.mk v1 vs,k3,b3,h3,a1.bI (a2.bI (a3.bI (At.ret _ _ _))),?_⟩;unfold M.vW;simp only[e1,e2,e3,an,ar,ak,ad];rfl
end M
namespace M
open Go.V (inB bN ae aZ)
def rW:List UInt8:=[105,110,116,101,114,102,97,99,101]
def vX:List UInt8:=[119,111,114,108,100]
def Bt:List UInt8:=[112,97,99,107,97,103,101]
def fH(l:List aj):Nat->List aF->List aS->Nat->PR (List aF×List aS)
 |0,fs,ws,k=>bif(bU l k).Kind==4 then .ok (fs,ws) k else .no k
 |m+1,fs,ws,k=>bif(bU l k).Kind==4 then .ok (fs,ws) k
  else bif decide (((fs.length:Nat):Int)<8)&&aC l rW k then(mW l (k+1)).bind fun f k1=>fH l m (fs++[f]) ws k1
  else bif decide (((ws.length:Nat):Int)<8)&&aC l vX k then(rT l (k+1)).bind fun w k1=>fH l m fs (ws++[w]) k1
  else .no k
def iu(l:List aj)(k:Nat):PR ah:=(cA l Bt k).bind fun _ k1=>(g9 l k1).bind fun n k2=>(cA l [64] k2).bind fun _ k3=>(Bc l k3).bind fun v k4=>(cA l [59] k4).bind fun _ k5=>
 (fH l 16 [] [] k5).bind fun q k6=>.ok (ah.mk n v q.1 q.2) k6
theorem pf(l:List aj)(k:Nat):List.getD l (Int.toNat ((k:Nat):Int)) aj.zero=bU l k:=by rw[bG];rfl
theorem ahC{l:List aj}(hL:bY l)(hT:∀t∈l,t.Text.length<=30000)(t2 t22 x x2:List UInt8)(o7:List aF)(o8:List aS):∀(f m:Nat)(fs:List aF)(ws:List aS)(k:Nat)(b:Bool),m+1<f->k<l.length->fs.length+ws.length+m=16->fs.length<=8->ws.length<=8->
 ∃v k' b',k'<l.length/\At (RB b k (fH l m fs ws k)) v k' b'/\M.km t2 t22 x x2 o7 o8 f (ip l k b) fs ws=some (l,(k':Int),b',t2,t22,x,x2,o7,o8,v.1,v.2):=by
 have hend:∀(f k:Nat)(fs:List aF)(ws:List aS),k<l.length->M.km t2 t22 x x2 o7 o8 (f+1) (ip l k true) fs ws=some (l,(k:Int),true,t2,t22,x,x2,o7,o8,fs,ws):=fun f k fs ws hk=>by
  rw[M.km];simp only[ir,lF,kj,mg,pf,kP hk,bV,cK,al,bh,ak,ad,cn]
 intro f
 induction f with
 |zero=>intro m fs ws k b h;omega
 |succ f ih=>
  intro m fs ws k b hf hk hm hfs hws;obtain⟨f',rfl⟩:∃f',f=f'+1:=⟨f-1,by omega⟩;cases b with
  |true=>exact⟨(fs,ws),k,true,hk,At.no _ _ _,hend _ k fs ws hk⟩
  |false=>
   rw[M.km];cases hK:((bU l k).Kind==4)
   ·have bad:fH l m fs ws k=.no k->∃v k' b',k'<l.length/\At (RB false k (fH l m fs ws k)) v k' b'/\M.km t2 t22 x x2 o7 o8 (f'+1) (ip l k true) fs ws=some (l,(k':Int),b',t2,t22,x,x2,o7,o8,v.1,v.2):=fun e=>by
     rw[e];exact⟨(fs,ws),k,true,hk,Or.inr ⟨rfl,rfl⟩,hend _ k fs ws hk⟩
    have tF:=jh hL hk (text:=[105,110,116,101,114,102,97,99,101]) (fun d r e=>by cases e;decide) false;have tW:=jh hL hk (text:=[119,111,114,108,100]) (fun d r e=>by cases e;decide) false;rw[bp,bj]at tF tW;have LQ:fs.length<8->aC l [105,110,116,101,114,102,97,99,101] k=true->∃v1 k1 b1 v k' b',k'<l.length/\M.yw (ip l (k+1) false)=some (v1,ip l k1 b1)/\At (RB false k (fH l m fs ws k)) v k' b'/\M.km t2 t22 x x2 o7 o8 (f'+1) (ip l k1 b1) (fs++[v1]) ws=some (l,(k':Int),b',t2,t22,x,x2,o7,o8,v.1,v.2):=fun h8 hB=>by
     obtain⟨v1,k1,b1,h1,a1,e1⟩:=ahv hL hT (cZ hL hk hB) false;obtain⟨m',rfl⟩:∃m',m=m'+1:=⟨m-1,by omega⟩;obtain⟨v,k',b',h2,a2,e2⟩:=ih m' (fs++[v1]) ws k1 b1 (by omega) h1 (by rw[aG,List.length_singleton];omega) (by rw[aG,List.length_singleton];omega) hws;refine⟨v1,k1,b1,v,k',b',h2,e1,?_,e2⟩;rw[fH,hK];unfold rW;rw[hB,cM (show((fs.length:Nat):Int)<8 by omega)];exact At.bind (r:=mW l (k+1)) a1 a2
    have world:(decide (((fs.length:Nat):Int)<8)&&aC l [105,110,116,101,114,102,97,99,101] k)=false->ws.length<8->aC l [119,111,114,108,100] k=true->∃v1 k1 b1 v k' b',k'<l.length/\M.vV (ip l (k+1) false)=some (v1,ip l k1 b1)/\At (RB false k (fH l m fs ws k)) v k' b'/\M.km t2 t22 x x2 o7 o8 (f'+1) (ip l k1 b1) fs (ws++[v1])=some (l,(k':Int),b',t2,t22,x,x2,o7,o8,v.1,v.2):=fun hF h8 hB=>by
     obtain⟨v1,k1,b1,h1,a1,e1⟩:=ahz hL hT (cZ hL hk hB) false;obtain⟨m',rfl⟩:∃m',m=m'+1:=⟨m-1,by omega⟩;obtain⟨v,k',b',h2,a2,e2⟩:=ih m' fs (ws++[v1]) k1 b1 (by omega) h1 (by rw[aG,List.length_singleton];omega) hfs (by rw[aG,List.length_singleton];omega);refine⟨v1,k1,b1,v,k',b',h2,e1,?_,e2⟩;rw[fH,hK];unfold rW vX;rw[hF,hB,cM (show((ws.length:Nat):Int)<8 by omega)];exact At.bind (r:=rT l (k+1)) a1 a2
    have nothing:(decide (((fs.length:Nat):Int)<8)&&aC l [105,110,116,101,114,102,97,99,101] k)=false->(decide (((ws.length:Nat):Int)<8)&&aC l [119,111,114,108,100] k)=false->fH l m fs ws k=.no k:=fun hF hW=>by
     cases m with
     |zero=>rw[fH,hK];rfl
     |succ m=>rw[fH,hK];unfold rW vX;rw[hF,hW];rfl
    have world':(decide (((fs.length:Nat):Int)<8)&&aC l [105,110,116,101,114,102,97,99,101] k)=false->∀dW:decide (((ws.length:Nat):Int)<8)=true,aC l [119,111,114,108,100] k=true->ws.length<8:=fun _ h _=>by
     have:=ll h;omega
    cases dF:decide (((fs.length:Nat):Int)<8)
    ·rw[dF,cK]at world nothing;cases dW:decide (((ws.length:Nat):Int)<8)
     ·simp only[ir,lF,kj,mg,pf,kP hk,hK,dF,dW,bne,bV,bp,bj,bQ,cK,ad,al,an,ar,cn,ak,d4,bh];exact bad (nothing rfl (by rw[dW];rfl))
     ·cases hW:aC l [119,111,114,108,100] k
      ·rw[hW]at tW;simp only[ir,lF,kj,mg,pf,kP hk,hK,dF,dW,bne,bV,bp,bj,bQ,cK,ad,al,an,ar,cn,ak,d4,bh,tW];exact bad (nothing rfl (by rw[hW,Bool.and_false]))
      ·rw[hW]at tW;obtain⟨v1,k1,b1,v,k',b',h2,e1,a2,e2⟩:=world rfl (by have:=ll dW;omega) hW;refine⟨v,k',b',h2,a2,?_⟩;simp only[ir,lF,kj,mg,pf,kP hk,hK,dF,dW,bne,bV,bp,bj,bQ,cK,ad,al,an,ar,cn,ak,d4,bh,tW,e1,dJ (show ws.length<=1000 by omega)];exact e2
    ·cases hF:aC l [105,110,116,101,114,102,97,99,101] k
     ·rw[hF]at tF;rw[hF,Bool.and_false]at world nothing;cases dW:decide (((ws.length:Nat):Int)<8)
      ·simp only[ir,lF,kj,mg,pf,kP hk,hK,dF,dW,bne,bV,bp,bj,bQ,cK,ad,al,an,ar,cn,ak,d4,bh,tF];exact bad (nothing rfl (by rw[dW];rfl))
      ·cases hW:aC l [119,111,114,108,100] k
       ·rw[hW]at tW;simp only[ir,lF,kj,mg,pf,kP hk,hK,dF,dW,bne,bV,bp,bj,bQ,cK,ad,al,an,ar,cn,ak,d4,bh,tF,tW];exact bad (nothing rfl (by rw[hW,Bool.and_false]))
       ·rw[hW]at tW;obtain⟨v1,k1,b1,v,k',b',h2,e1,a2,e2⟩:=world rfl (by have:=ll dW;omega) hW;refine⟨v,k',b',h2,a2,?_⟩;simp only[ir,lF,kj,mg,pf,kP hk,hK,dF,dW,bne,bV,bp,bj,bQ,cK,ad,al,an,ar,cn,ak,d4,bh,tF,tW,e1,dJ (show ws.length<=1000 by omega)];exact e2
     ·rw[hF]at tF;obtain⟨v1,k1,b1,v,k',b',h2,e1,a2,e2⟩:=LQ (by have:=ll dF;omega) hF;refine⟨v,k',b',h2,a2,?_⟩;simp only[ir,lF,kj,mg,pf,kP hk,hK,dF,bne,bV,bp,bj,bQ,cK,ad,al,an,ar,cn,ak,d4,bh,tF,e1,dJ (show fs.length<=1000 by omega)];exact e2
   ·refine⟨(fs,ws),k,false,hk,?_,?_⟩
    ·cases m<;>(rw[fH,hK];exact Or.inl ⟨rfl,rfl⟩)
    ·simp only[ir,lF,kj,mg,pf,kP hk,hK,bne,bV,bp,Bool.and_false,al,ad,an,ar,cn,ak,bh]
theorem ahD{l:List aj}(hL:bY l)(hT:∀t∈l,t.Text.length<=30000)(t2 t22 x x2:List UInt8)(o7:List aF)(o8:List aS):∀(f m:Nat)(fs:List aF)(ws:List aS)(k:Nat)(b:Bool),m+1<f->k<l.length->fs.length+ws.length+m=16->fs.length<=8->ws.length<=8->
 ∃v k' b',k'<l.length/\At (RB b k (fH l m fs ws k)) v k' b'/\M.kn t2 t22 x x2 o7 o8 f (sp l k b) fs ws=some (l,(k':Int),b',t2,t22,x,x2,o7,o8,v.1,v.2):=by
 have hend:∀(f k:Nat)(fs:List aF)(ws:List aS),k<l.length->M.kn t2 t22 x x2 o7 o8 (f+1) (sp l k true) fs ws=some (l,(k:Int),true,t2,t22,x,x2,o7,o8,fs,ws):=fun f k fs ws hk=>by
  rw[M.kn];simp only[iI,js,jt,kR,l6 hk,bV,cK,al,bh,ak,ad,cn]
 intro f
 induction f with
 |zero=>intro m fs ws k b h;omega
 |succ f ih=>
  intro m fs ws k b hf hk hm hfs hws;obtain⟨f',rfl⟩:∃f',f=f'+1:=⟨f-1,by omega⟩;cases b with
  |true=>exact⟨(fs,ws),k,true,hk,At.no _ _ _,hend _ k fs ws hk⟩
  |false=>
   rw[M.kn];cases hK:((bU l k).Kind==4)
   ·have bad:fH l m fs ws k=.no k->∃v k' b',k'<l.length/\At (RB false k (fH l m fs ws k)) v k' b'/\M.kn t2 t22 x x2 o7 o8 (f'+1) (sp l k true) fs ws=some (l,(k':Int),b',t2,t22,x,x2,o7,o8,v.1,v.2):=fun e=>by
     rw[e];exact⟨(fs,ws),k,true,hk,Or.inr ⟨rfl,rfl⟩,hend _ k fs ws hk⟩
    have tF:=fx hL hk [105,110,116,101,114,102,97,99,101] false;have tW:=fx hL hk [119,111,114,108,100] false;rw[bp,bj]at tF tW;have LQ:fs.length<8->aC l [105,110,116,101,114,102,97,99,101] k=true->∃v1 k1 b1 v k' b',k'<l.length/\M.yx (sp l (k+1) false)=some (v1,sp l k1 b1)/\At (RB false k (fH l m fs ws k)) v k' b'/\M.kn t2 t22 x x2 o7 o8 (f'+1) (sp l k1 b1) (fs++[v1]) ws=some (l,(k':Int),b',t2,t22,x,x2,o7,o8,v.1,v.2):=fun h8 hB=>by
     obtain⟨v1,k1,b1,h1,a1,e1⟩:=ahx hL hT (cZ hL hk hB) false;obtain⟨m',rfl⟩:∃m',m=m'+1:=⟨m-1,by omega⟩;obtain⟨v,k',b',h2,a2,e2⟩:=ih m' (fs++[v1]) ws k1 b1 (by omega) h1 (by rw[aG,List.length_singleton];omega) (by rw[aG,List.length_singleton];omega) hws;refine⟨v1,k1,b1,v,k',b',h2,e1,?_,e2⟩;rw[fH,hK];unfold rW;rw[hB,cM (show((fs.length:Nat):Int)<8 by omega)];exact At.bind (r:=mW l (k+1)) a1 a2
    have world:(decide (((fs.length:Nat):Int)<8)&&aC l [105,110,116,101,114,102,97,99,101] k)=false->ws.length<8->aC l [119,111,114,108,100] k=true->∃v1 k1 b1 v k' b',k'<l.length/\M.vW (sp l (k+1) false)=some (v1,sp l k1 b1)/\At (RB false k (fH l m fs ws k)) v k' b'/\M.kn t2 t22 x x2 o7 o8 (f'+1) (sp l k1 b1) fs (ws++[v1])=some (l,(k':Int),b',t2,t22,x,x2,o7,o8,v.1,v.2):=fun hF h8 hB=>by
     obtain⟨v1,k1,b1,h1,a1,e1⟩:=ahB hL hT (cZ hL hk hB) false;obtain⟨m',rfl⟩:∃m',m=m'+1:=⟨m-1,by omega⟩;obtain⟨v,k',b',h2,a2,e2⟩:=ih m' fs (ws++[v1]) k1 b1 (by omega) h1 (by rw[aG,List.length_singleton];omega) hfs (by rw[aG,List.length_singleton];omega);refine⟨v1,k1,b1,v,k',b',h2,e1,?_,e2⟩;rw[fH,hK];unfold rW vX;rw[hF,hB,cM (show((ws.length:Nat):Int)<8 by omega)];exact At.bind (r:=rT l (k+1)) a1 a2
    have nothing:(decide (((fs.length:Nat):Int)<8)&&aC l [105,110,116,101,114,102,97,99,101] k)=false->(decide (((ws.length:Nat):Int)<8)&&aC l [119,111,114,108,100] k)=false->fH l m fs ws k=.no k:=fun hF hW=>by
     cases m with
     |zero=>rw[fH,hK];rfl
     |succ m=>rw[fH,hK];unfold rW vX;rw[hF,hW];rfl
    have world':(decide (((fs.length:Nat):Int)<8)&&aC l [105,110,116,101,114,102,97,99,101] k)=false->∀dW:decide (((ws.length:Nat):Int)<8)=true,aC l [119,111,114,108,100] k=true->ws.length<8:=fun _ h _=>by
     have:=ll h;omega
    cases dF:decide (((fs.length:Nat):Int)<8)
    ·rw[dF,cK]at world nothing;cases dW:decide (((ws.length:Nat):Int)<8)
     ·simp only[iI,js,jt,kR,l6 hk,hK,dF,dW,bne,bV,bp,bj,bQ,cK,ad,al,an,ar,cn,ak,d4,bh];exact bad (nothing rfl (by rw[dW];rfl))
     ·cases hW:aC l [119,111,114,108,100] k
      ·rw[hW]at tW;simp only[iI,js,jt,kR,l6 hk,hK,dF,dW,bne,bV,bp,bj,bQ,cK,ad,al,an,ar,cn,ak,d4,bh,tW];exact bad (nothing rfl (by rw[hW,Bool.and_false]))
      ·rw[hW]at tW;obtain⟨v1,k1,b1,v,k',b',h2,e1,a2,e2⟩:=world rfl (by have:=ll dW;omega) hW;refine⟨v,k',b',h2,a2,?_⟩;simp only[iI,js,jt,kR,l6 hk,hK,dF,dW,bne,bV,bp,bj,bQ,cK,ad,al,an,ar,cn,ak,d4,bh,tW,e1,dJ (show ws.length<=1000 by omega)];exact e2
    ·cases hF:aC l [105,110,116,101,114,102,97,99,101] k
     ·rw[hF]at tF;rw[hF,Bool.and_false]at world nothing;cases dW:decide (((ws.length:Nat):Int)<8)
      ·simp only[iI,js,jt,kR,l6 hk,hK,dF,dW,bne,bV,bp,bj,bQ,cK,ad,al,an,ar,cn,ak,d4,bh,tF];exact bad (nothing rfl (by rw[dW];rfl))
      ·cases hW:aC l [119,111,114,108,100] k
       ·rw[hW]at tW;simp only[iI,js,jt,kR,l6 hk,hK,dF,dW,bne,bV,bp,bj,bQ,cK,ad,al,an,ar,cn,ak,d4,bh,tF,tW];exact bad (nothing rfl (by rw[hW,Bool.and_false]))
       ·rw[hW]at tW;obtain⟨v1,k1,b1,v,k',b',h2,e1,a2,e2⟩:=world rfl (by have:=ll dW;omega) hW;refine⟨v,k',b',h2,a2,?_⟩;simp only[iI,js,jt,kR,l6 hk,hK,dF,dW,bne,bV,bp,bj,bQ,cK,ad,al,an,ar,cn,ak,d4,bh,tF,tW,e1,dJ (show ws.length<=1000 by omega)];exact e2
     ·rw[hF]at tF;obtain⟨v1,k1,b1,v,k',b',h2,e1,a2,e2⟩:=LQ (by have:=ll dF;omega) hF;refine⟨v,k',b',h2,a2,?_⟩;simp only[iI,js,jt,kR,l6 hk,hK,dF,bne,bV,bp,bj,bQ,cK,ad,al,an,ar,cn,ak,d4,bh,tF,e1,dJ (show fs.length<=1000 by omega)];exact e2
   ·refine⟨(fs,ws),k,false,hk,?_,?_⟩
    ·cases m<;>(rw[fH,hK];exact Or.inl ⟨rfl,rfl⟩)
    ·simp only[iI,js,jt,kR,l6 hk,hK,bne,bV,bp,Bool.and_false,al,ad,an,ar,cn,ak,bh]
theorem ahE{l:List aj}(hL:bY l)(hT:∀t∈l,t.Text.length<=30000){k:Nat}(hk:k<l.length)(b:Bool):
 ∃v k' b',k'<l.length/\At (RB b k (iu l k)) v k' b'/\M.Bv (ip l k b)=some (ah.Name v,ah.Version v,ip l k' b',ah.aD v,ah.Worlds v):=by
 obtain⟨k1,b1,h1,a1,e1⟩:=jR hL hk (t:=Bt) (fun d r e=>by cases e;decide) b;obtain⟨v2,k2,b2,h2,a2,e2,-⟩:=vS hL hT h1 b1;obtain⟨k3,b3,h3,a3,e3⟩:=jR hL h2 (cX 64 (by decide)) b2;obtain⟨v4,k4,b4,h4,a4,e4,-⟩:=SA hL hT h3 b3;obtain⟨k5,b5,h5,a5,e5⟩:=jR hL h4 (cX 59 (by decide)) b4;obtain⟨v6,k6,b6,h6,a6,e6⟩:=ahC hL hT [] [] v2 v4 [] [] ae 16 [] [] k5 b5 (by have:=aZ;omega) h5 rfl (by simp) (by simp);refine⟨ah.mk v2 v4 v6.1 v6.2,k6,b6,h6,a1.bI (a2.bI (a3.bI (a4.bI (a5.bI (a6.bI (At.ret _ _ _)))))),?_⟩;unfold Bt at e1;unfold M.Bv;simp only[e1,e2,e3,e4,e5,e6,an,ar,ak,ad];rfl
theorem ahF{l:List aj}(hL:bY l)(hT:∀t∈l,t.Text.length<=30000){k:Nat}(hk:k<l.length)(b:Bool):
 ∃v k' b',k'<l.length/\At (RB b k (iu l k)) v k' b'/\M.yy (sp l k b)=some (v,sp l k' b'):=by
 obtain⟨k1,b1,h1,a1,e1⟩:=kS hL hk Bt b;obtain⟨v2,k2,b2,h2,a2,e2,-⟩:=vT hL hT h1 b1;obtain⟨k3,b3,h3,a3,e3⟩:=kS hL h2 [64] b2;obtain⟨v4,k4,b4,h4,a4,e4,-⟩:=SB hL h3 b3;obtain⟨k5,b5,h5,a5,e5⟩:=kS hL h4 [59] b4;obtain⟨v6,k6,b6,h6,a6,e6⟩:=ahD hL hT [] [] v2 v4 [] [] ae 16 [] [] k5 b5 (by have:=aZ;omega) h5 rfl (by simp) (by simp);refine⟨ah.mk v2 v4 v6.1 v6.2,k6,b6,h6,a1.bI (a2.bI (a3.bI (a4.bI (a5.bI (a6.bI (At.ret _ _ _)))))),?_⟩;unfold Bt at e1;unfold M.yy;simp only[e1,e2,e3,e4,e5,e6,an,ar,ak,ad];rfl
end M
namespace M
open Go.V (inB bN ae aZ)
theorem SH(s:List UInt8):∀(f a:Nat)(line:Int)(out:List aj)(y:Int×List aj),(∀t∈out,t.Text.length<=s.length)->iY s f a line out=.inr y->∀t∈y.2,t.Text.length<=s.length
 |0,a,line,out,y,ho,h=>by cases h
 |f+1,a,line,out,y,ho,h=>by
  unfold iY at h;split at h
  ·split at h
   ·cases h
   ·split at h
    ·cases h
    ·refine SH s f _ _ _ y (fun t ht=>?_) h;rcases df.1 ht with q|q
     ·exact ho t q
     ·rw[ej]at q;rw[q];show(nA s a _).length<=_
      unfold nA;rw[ov,List.length_drop];omega
  ·cases h;exact ho
theorem SI(s:List UInt8):∀t∈(dL s).1,t.Text.length<=30000:=by
 unfold dL;split
 ·intro t h;cases h
 ·rename_i hl;have hs:=SH s ae (cw false s 1).1 (cw false s 1).2 [];generalize iY s ae (cw false s 1).1 (cw false s 1).2 []=r at*;cases r with
  |inl x=>intro t h;cases h
  |inr y=>
   intro t h;rcases df.1 h with q|q
   ·have:=hs y (fun t q=>by cases q) rfl t q;omega
   ·rw[ej]at q;rw[q];simp
theorem LR(l:List aj):∀(m:Nat)(fs:List aF)(ws:List aS)(k:Nat)(v:List aF×List aS)(k':Nat),fH l m fs ws k=.ok v k'->(bU l k').Kind=4
 |0,fs,ws,k,v,k',h=>by
  rw[fH]at h;cases hK:((bU l k).Kind==4)<;>rw[hK]at h
  ·cases h
  ·cases h;exact cL.1 hK
 |m+1,fs,ws,k,v,k',h=>by
  rw[fH]at h;cases hK:((bU l k).Kind==4)<;>rw[hK]at h
  ·simp only[al]at h;cases hF:(decide (((fs.length:Nat):Int)<8)&&aC l rW k)<;>rw[hF]at h
   ·simp only[al]at h;cases hW:(decide (((ws.length:Nat):Int)<8)&&aC l vX k)<;>rw[hW]at h
    ·cases h
    ·simp only[ad]at h;cases hf:rT l (k+1)with
     |no q=>rw[hf]at h;cases h
     |ok w q=>rw[hf]at h;exact LR l m _ _ _ _ _ h
   ·simp only[ad]at h;cases hf:mW l (k+1)with
    |no q=>rw[hf]at h;cases h
    |ok w q=>rw[hf]at h;exact LR l m _ _ _ _ _ h
  ·cases h;exact cL.1 hK
theorem bind_ok{α β:Type}{r:PR α}{f:α->Nat->PR β}{v:β}{k:Nat}(h:r.bind f=.ok v k):∃a k1,r=.ok a k1/\f a k1=.ok v k:=by
 cases r with
 |no q=>cases h
 |ok a q=>exact⟨a,q,rfl,h⟩
theorem ahG(l:List aj)(k:Nat)(p:ah)(k':Nat)(h:iu l k=.ok p k'):(bU l k').Kind=4:=by
 unfold iu at h;obtain⟨_,_,_,h⟩:=bind_ok h;obtain⟨_,_,_,h⟩:=bind_ok h;obtain⟨_,_,_,h⟩:=bind_ok h;obtain⟨_,_,_,h⟩:=bind_ok h;obtain⟨_,_,_,h⟩:=bind_ok h;obtain⟨q,k6,h6,h⟩:=bind_ok h;cases h;exact LR l _ _ _ _ _ _ h6
noncomputable def gj(s:List UInt8):(Int×Int)⊕ah:=
 if(dL s).2.2=0 then match iu (dL s).1 0 with
  |.no k=>.inl ((bU (dL s).1 k).Line,6)
  |.ok p _=>.inr p
 else .inl ((dL s).2.1,(dL s).2.2)
theorem SJ(s:List UInt8):match gj s with
 |.inl e=>e.2≠0/\∃n v fs ws,M.qi s [] [] [] []=some (e.1,e.2,n,v,fs,ws)
 |.inr p=>M.qi s [] [] [] []=some (0,0,ah.Name p,ah.Version p,ah.aD p,ah.Worlds p):=by
 have ht:=agR s;unfold gj;by_cases h0:(dL s).2.2=0
 ·rw[bf h0];have hL:=ER s h0;have hT:=SI s;have e0:((dL s).2.2 !=0)=false:=by rw[bne_eq_false_iff_eq];exact h0
  obtain⟨p,k,b,hk,a,e⟩:=ahE hL hT hL.pos false;have ew:∀n v fs ws,M.By (av.mk (dL s).1 0 false) n v fs ws=some (ip (dL s).1 k b,ah.Name p,ah.Version p,ah.aD p,ah.Worlds p):=fun n v fs ws=>by
   unfold M.By;rw[show av.mk (dL s).1 0 false=ip (dL s).1 0 false from rfl,e];rfl
  rcases a with⟨q1,q2⟩|⟨q1,q2⟩
  ·rw[show RB false 0 (iu (dL s).1 0)=iu (dL s).1 0 from rfl]at q1;have h4:=ahG _ _ _ _ q1;rw[q1];have e4:((bU (dL s).1 k).Kind !=4)=false:=by rw[bne_eq_false_iff_eq];exact h4
   show M.qi s [] [] [] []=_
   unfold M.qi;simp only[ht,e0,ew,q2,ir,kj,pf,e4,kP hk,an,ar,al,ad,kb,bh,ak]
  ·rw[show RB false 0 (iu (dL s).1 0)=iu (dL s).1 0 from rfl]at q1;rw[q1];refine⟨show(6:Int)≠0 by decide,ah.Name p,ah.Version p,ah.aD p,ah.Worlds p,?_⟩;unfold M.qi;simp only[ht,e0,ew,q2,ir,kj,pf,kP hk,an,ar,al,ad,bh,ak]
 ·rw[bg h0];have e0:((dL s).2.2 !=0)=true:=by rw[lR];exact h0
  refine⟨h0,[],[],[],[],?_⟩;unfold M.qi;simp only[ht,e0,an,ar,ad,ak]
theorem ahH(s:List UInt8)(c:ah->Bool)(hc:∀p,gj s=.inr p->M.yz p=some (c p)):M.tZ s=some (match gj s with
 |.inl e=>(ah.mk [] [] [] [],e.1,e.2)
 |.inr p=>bif c p then(p,0,0)else(ah.mk [] [] [] [],0,1)):=by
 have ht:=agQ s;by_cases h0:(dL s).2.2=0
 ·have hL:=ER s h0;have hT:=SI s;have e0:((dL s).2.2 !=0)=false:=by rw[bne_eq_false_iff_eq];exact h0
  obtain⟨p,k,b,hk,a,e⟩:=ahF hL hT hL.pos false;have e':M.yy (ay.mk (dL s).1 0 false)=some (p,sp (dL s).1 k b):=e;rcases a with⟨q1,q2⟩|⟨q1,q2⟩
  ·rw[show RB false 0 (iu (dL s).1 0)=iu (dL s).1 0 from rfl]at q1;have hw:gj s=.inr p:=by unfold gj;rw[bf h0,q1]
   have hcp:=hc p hw;rw[hw];unfold M.tZ;simp only[ht,e0,e',q2,iI,hcp,an,ar,al,ak,ad];cases c p<;>rfl
  ·rw[show RB false 0 (iu (dL s).1 0)=iu (dL s).1 0 from rfl]at q1;have hw:gj s=.inl ((bU (dL s).1 k).Line,6):=by unfold gj;rw[bf h0,q1]
   rw[hw];unfold M.tZ;simp only[ht,e0,e',q2,iI,l6 hk,an,ar,al,ak,ad]
 ·have hw:gj s=.inl ((dL s).2.1,(dL s).2.2):=by unfold gj;rw[bg h0]
  have e0:((dL s).2.2 !=0)=true:=by rw[lR];exact h0
  rw[hw];unfold M.tZ;simp only[ht,e0,an,ar,ad,ak]
end M
namespace M
open Go.V (inB bN ae aZ)
theorem dB{n k:Nat}(h:k<n):inB (k:Int) n=true:=by rw[db];simpa using h
theorem twice_in(list:List (List UInt8))(hl:list.length<=1000000)(i:Nat)(hi:i<list.length):∀(f k:Nat),i-k<f->k<=i->
 ((∃j,k<=j/\j<i/\list.getD i []=list.getD j [])/\M.vY list (i:Int) f (k:Int)=some (.inl true))\/
 ((¬∃j,k<=j/\j<i/\list.getD i []=list.getD j [])/\M.vY list (i:Int) f (k:Int)=some (.inr (list,(i:Int))))
 |0,k,h,_=>by omega
 |f+1,k,h,hk=>by
  rw[M.vY];rcases cU k i with q|q
  ·rw[cM (show((k:Nat):Int)<((i:Nat):Int) by omega)];simp only[bG,dB (show k<list.length by omega),dB hi,ad,ak];have hw:Go.IntKind.wrap .i64 ((k:Int)+1)=((k+1:Nat):Int):=by rw[wrap_i64 (by omega) (by omega)];omega
   cases e:(list.getD i []==list.getD k [])
   ·have hne:list.getD i []≠list.getD k []:=cO.1 e;simp only[al,hw];rcases twice_in list hl i hi f (k+1) (by omega) (by omega)with⟨⟨j,h1,h2,h3⟩,e1⟩|⟨h1,e1⟩
    ·exact Or.inl ⟨⟨j,by omega,h2,h3⟩,e1⟩
    ·refine Or.inr ⟨fun⟨j,a,b,c⟩=>?_,e1⟩;rcases Nat.eq_or_lt_of_le a with z|z
     ·rw[<-z]at c;exact hne c
     ·exact h1 ⟨j,by omega,b,c⟩
   ·exact Or.inl ⟨⟨k,cq _,q,cL.1 e⟩,rfl⟩
  ·rw[ct (show ¬((k:Nat):Int)<((i:Nat):Int) by omega)];exact Or.inr ⟨fun⟨j,a,b,_⟩=>by omega,rfl⟩
theorem SK(list:List (List UInt8))(hl:list.length<=1000000):∀(f i:Nat),list.length-i<f->i<=list.length->
 ((∃a b,i<=a/\a<list.length/\b<a/\list.getD a []=list.getD b [])/\M.vZ f list (i:Int)=some (.inl true))\/
 ((¬∃a b,i<=a/\a<list.length/\b<a/\list.getD a []=list.getD b [])/\M.vZ f list (i:Int)=some (.inr ()))
 |0,i,h,_=>by omega
 |f+1,i,h,hi=>by
  rw[M.vZ];rcases cU i list.length with q|q
  ·rw[cM (show((i:Nat):Int)<((list.length:Nat):Int) by omega)];have hw:Go.IntKind.wrap .i64 ((i:Int)+1)=((i+1:Nat):Int):=by rw[wrap_i64 (by omega) (by omega)];omega
   rcases twice_in list hl i q ae 0 (by have:=aZ;omega) (cN _)with⟨⟨j,h1,h2,h3⟩,e1⟩|⟨h1,e1⟩
   ·refine Or.inl ⟨⟨i,j,cq _,q,h2,h3⟩,?_⟩;rw[show((0:Nat):Int)=0 from rfl]at e1;simp only[ad,e1]
   ·rw[show((0:Nat):Int)=0 from rfl]at e1;simp only[ad,e1,hw];rcases SK list hl f (i+1) (by omega) (by omega)with⟨⟨a,b,x1,x2,x3,x4⟩,e2⟩|⟨h2,e2⟩
    ·exact Or.inl ⟨⟨a,b,by omega,x2,x3,x4⟩,e2⟩
    ·refine Or.inr ⟨fun⟨a,b,x1,x2,x3,x4⟩=>?_,e2⟩;rcases Nat.eq_or_lt_of_le x1 with z|z
     ·rw[<-z]at x3 x4;exact h1 ⟨b,cN _,x3,x4⟩
     ·exact h2 ⟨a,b,by omega,x2,x3,x4⟩
  ·rw[ct (show ¬((i:Nat):Int)<((list.length:Nat):Int) by omega)];exact Or.inr ⟨fun⟨a,b,x1,x2,_,_⟩=>by omega,rfl⟩
theorem E8(list:List (List UInt8))(hl:list.length<=1000000):M.ua list=some (!nodupB list):=by
 unfold M.ua;have h:=SK list hl ae 0 (by have:=aZ;omega) (cN _);rw[show((0:Nat):Int)=0 from rfl]at h;rcases h with⟨⟨a,b,_,x2,x3,x4⟩,e⟩|⟨h1,e⟩
 ·have:nodupB list=false:=by
   rw[Bool.eq_false_iff];intro hn;have hn:=(E9 list).1 hn;have:=xc.1 hn b a (by omega) x2 x3;rw[gp,gp,cJ x2,cJ (show b<list.length by omega)]at x4;exact this x4.symm
  simp only[e,this,bp]
 ·have:nodupB list=true:=by
   rw[E9];refine xc.2 fun i j hi hj hij e2=>h1 ⟨j,i,cN _,hj,hij,?_⟩
   rw[gp,gp,cJ hj,cJ hi];exact e2.symm
  simp only[e,this,bV]
end M
namespace M
open Go.V (inB bN ae aZ)
def pg(u:aW):List UInt8:=bif !(u.As==[])then u.As else u.Name
def typeOf(x:ai):List (List UInt8):=bif x.Kind==3 then[]else bif x.Kind==4 then x.Uses.map pg else[x.Name]
def funcOf(x:ai):List (List UInt8):=bif x.Kind==3 then[x.Name]else[]
def ju(xs:List ai):List (List UInt8):=(xs.map typeOf).flatten
def jv(xs:List ai):List (List UInt8):=(xs.map funcOf).flatten
theorem ahI(u:aW):M.Bz u=some (pg u):=by
 unfold M.Bz pg;cases (!(u.As==[]))<;>rfl
theorem ahJ(u:aW):M.nL u=some (pg u):=by
 unfold M.nL pg;cases (!(u.As==[]))<;>rfl
theorem dw{α:Type}{l:List α}{k:Nat}(d:α)(h:k<l.length):List.getD l k d=l[k]:=by
 rw[gp,cJ h];rfl
theorem jw{α:Type}{l:List α}{k:Nat}(h:k<l.length):l.drop k=l[k]::l.drop (k+1):=List.drop_eq_getElem_cons h
theorem eO{k n:Nat}(h:k<n):decide ((k:Int)<(n:Int))=true:=cM (by omega)
theorem jj{k n:Nat}(h:n<=k):decide ((k:Int)<(n:Int))=false:=ct (by omega)
theorem qj{k:Nat}(h:k<=1000000):Go.IntKind.wrap .i64 ((k:Int)+1)=((k+1:Nat):Int):=by rw[wrap_i64 (by omega) (by omega)];omega
theorem SL{t18:List aF}{t19 t20:Int}{t27:List ai}{t28 t29:Int}{x:ah}{f:aF}{faces worlds funcs:List (List UInt8)}(us:List aW)(hU:us.length<=1000):∀(n k:Nat)(types:List (List UInt8)),us.length-k<n->k<=us.length->types.length+(us.length-k)<=1000->
 M.yA t18 t19 t20 t27 t28 t29 us ((us.length:Nat):Int) x f faces worlds funcs n (k:Int) types=some (t18,t19,t20,t27,t28,t29,x,f,faces,worlds,funcs,types++(us.drop k).map pg)
 |0,k,types,h,_,_=>by omega
 |n+1,k,types,h,hk,hb=>by
  rw[M.yA];rcases cU k us.length with q|q
  ·have:=SL (t18:=t18) (t19:=t19) (t20:=t20) (t27:=t27) (t28:=t28) (t29:=t29) (x:=x) (f:=f) (faces:=faces) (worlds:=worlds) (funcs:=funcs) us hU n (k+1) (types++[pg us[k]]) (by omega) (by omega) (by rw[aG,List.length_singleton];omega);simp only[eO q,bG,dw _ q,ahI,an,ar,dJ (show types.length<=1000 by omega),dB q,ak,ad,qj (show k<=1000000 by omega),this];rw[jw q,eR,fN,List.singleton_append]
  ·simp only[jj q,al];rw[List.drop_eq_nil_of_le q,List.map_nil,sS]
theorem SN{t18:List aF}{t19 t20:Int}{x:ah}{f:aF}{faces worlds:List (List UInt8)}(xs:List ai)(hX:xs.length<=1000)(hu:∀i∈xs,i.Uses.length<=16):∀(n k:Nat)(funcs types:List (List UInt8)),xs.length-k<n->k<=xs.length->types.length+17*(xs.length-k)<=1000->funcs.length+(xs.length-k)<=1000->
 M.ub n t18 t19 t20 xs ((xs.length:Nat):Int) (k:Int) x f faces worlds funcs types=some (t18,t19,t20,x,f,faces,worlds,funcs++jv (xs.drop k),types++ju (xs.drop k))
 |0,k,_,_,h,_,_,_=>by omega
 |n+1,k,funcs,types,h,hk,hb,hc=>by
  rw[M.ub];rcases cU k xs.length with q|q
  ·have hx:=hu xs[k] (de q);have ih:=fun fs ts=>SN (t18:=t18) (t19:=t19) (t20:=t20) (x:=x) (f:=f) (faces:=faces) (worlds:=worlds) xs hX hu n (k+1) fs ts (by omega) (by omega)
   have eF:jv (xs.drop k)=funcOf xs[k]++jv (xs.drop (k+1)):=by unfold jv;rw[jw q];rfl
   have eT:ju (xs.drop k)=typeOf xs[k]++ju (xs.drop (k+1)):=by unfold ju;rw[jw q];rfl
   rw[eF,eT];unfold funcOf typeOf;simp only[eO q,bG,dw _ q,ad,dB q,ak,qj (show k<=1000000 by omega)];cases h3:(xs[k].Kind==(3:Int))
   ·cases h4:(xs[k].Kind==(4:Int))
    ·have:=ih funcs (types++[xs[k].Name]) (by rw[aG,List.length_singleton];omega) (by omega);simp only[al,ad,dJ (show types.length<=1000 by omega),ak,this,fB,fN]
    ·have hm:=SL (t18:=t18) (t19:=t19) (t20:=t20) (t27:=xs) (t28:=((xs.length:Nat):Int)) (t29:=((k:Nat):Int)) (x:=x) (f:=f) (faces:=faces) (worlds:=worlds) (funcs:=funcs) xs[k].Uses (by omega) ae 0 types (by have:=aZ;omega) (cN _) (by omega);rw[show((0:Nat):Int)=0 from rfl,ig]at hm;have:=ih funcs (types++xs[k].Uses.map pg) (by rw[aG,eQ];omega) (by omega);simp only[al,ad,hm,qj (show k<=1000000 by omega),this,fB,fN]
   ·have:=ih (funcs++[xs[k].Name]) types (by omega) (by rw[aG,List.length_singleton];omega);simp only[ad,dJ (show funcs.length<=1000 by omega),ak,this,fB,fN]
  ·simp only[jj q,al];rw[List.drop_eq_nil_of_le q];simp[jv,ju]
theorem SO{i:Int}{f:aF}{funcs:List (List UInt8)}(x:ai)(hU:x.Uses.length<=1000):∀(n k:Nat)(types:List (List UInt8)),x.Uses.length-k<n->k<=x.Uses.length->types.length+(x.Uses.length-k)<=1000->
 M.yB i f funcs n (k:Int) x types=some (i,f,types++(x.Uses.drop k).map pg,funcs)
 |0,k,types,h,_,_=>by omega
 |n+1,k,types,h,hk,hb=>by
  rw[M.yB];rcases cU k x.Uses.length with q|q
  ·have:=SO (i:=i) (f:=f) (funcs:=funcs) x hU n (k+1) (types++[pg x.Uses[k]]) (by omega) (by omega) (by rw[aG,List.length_singleton];omega);simp only[eO q,bG,dw _ q,ahJ,an,ar,dJ (show types.length<=1000 by omega),dB q,ak,ad,qj (show k<=1000000 by omega),ai.bZ,this];rw[jw q,eR,fN,List.singleton_append]
  ·simp only[jj q,al];rw[List.drop_eq_nil_of_le q,List.map_nil,sS]
theorem SQ(f:aF)(hX:f.Items.length<=1000)(hu:∀i∈f.Items,i.Uses.length<=16/\1<=i.Kind/\i.Kind<=4):∀(n k:Nat)(funcs types:List (List UInt8)),f.Items.length-k<n->k<=f.Items.length->types.length+17*(f.Items.length-k)<=1000->funcs.length+(f.Items.length-k)<=1000->
 M.rX n (k:Int) f types funcs=some (types++ju (f.Items.drop k),funcs++jv (f.Items.drop k))
 |0,k,_,_,h,_,_,_=>by omega
 |n+1,k,funcs,types,h,hk,hb,hc=>by
  rw[M.rX];rcases cU k f.Items.length with q|q
  ·have hx:=hu f.Items[k] (de q);have ih:=fun fs ts=>SQ f hX hu n (k+1) fs ts (by omega) (by omega)
   have eF:jv (f.Items.drop k)=funcOf f.Items[k]++jv (f.Items.drop (k+1)):=by unfold jv;rw[jw q];rfl
   have eT:ju (f.Items.drop k)=typeOf f.Items[k]++ju (f.Items.drop (k+1)):=by unfold ju;rw[jw q];rfl
   rw[eF,eT];unfold funcOf typeOf;simp only[eO q,bG,dw _ q,ad,dB q,ak,bh,qj (show k<=1000000 by omega),ai.bZ];have hkd:f.Items[k].Kind=1\/f.Items[k].Kind=2\/f.Items[k].Kind=3\/f.Items[k].Kind=4:=by omega
   rcases hkd with e|e|e|e
   ·have:=ih funcs (types++[f.Items[k].Name]) (by rw[aG,List.length_singleton];omega) (by omega);rw[e];simp only[Int.reduceBEq,al,ad,dJ (show types.length<=1000 by omega),ak,this,fB,fN]
   ·have:=ih funcs (types++[f.Items[k].Name]) (by rw[aG,List.length_singleton];omega) (by omega);rw[e];simp only[Int.reduceBEq,al,ad,dJ (show types.length<=1000 by omega),ak,this,fB,fN]
   ·have:=ih (funcs++[f.Items[k].Name]) types (by omega) (by rw[aG,List.length_singleton];omega);rw[e];simp only[Int.reduceBEq,al,ad,dJ (show funcs.length<=1000 by omega),ak,this,fB,fN]
   ·have hm:=SO (i:=((k:Nat):Int)) (f:=f) (funcs:=funcs) f.Items[k] (by omega) ae 0 types (by have:=aZ;omega) (cN _) (by omega);rw[show((0:Nat):Int)=0 from rfl,ig]at hm;have:=ih funcs (types++f.Items[k].Uses.map pg) (by rw[aG,eQ];omega) (by omega);rw[e];simp only[Int.reduceBEq,al,ad,hm,qj (show k<=1000000 by omega),this,fB,fN]
  ·simp only[jj q,al];rw[List.drop_eq_nil_of_le q];simp[jv,ju]
end M
namespace M
open Go.V (inB bN ae aZ)
def yC(f:aF):Prop:=f.Items.length<=16/\∀i∈f.Items,i.Uses.length<=16/\1<=i.Kind/\i.Kind<=4
def Fa(p:ah):Prop:=p.aD.length<=8/\p.Worlds.length<=8/\∀f∈p.aD,yC f
def v7(f:aF):Bool:=nodupB (ju f.Items)&&nodupB (jv f.Items)
def mX(p:ah):Bool:=p.aD.all v7&&(nodupB (p.aD.map (·.Name))&&nodupB (p.Worlds.map (·.Name)))
theorem LS:∀(xs:List ai),(∀i∈xs,i.Uses.length<=16)->(ju xs).length<=17*xs.length
 |[],_=>cq _
 |x::r,h=>by
  have h1:=h x (by simp);have h2:=LS r fun i hi=>h i (by simp[hi])
  have e:ju (x::r)=typeOf x++ju r:=rfl;rw[e,aG,aE];have:(typeOf x).length<=16:=by
   unfold typeOf;cases (x.Kind==3)
   ·cases (x.Kind==4)
    ·simp
    ·simpa using h1
   ·simp
  omega
theorem LU:∀(xs:List ai),(jv xs).length<=xs.length
 |[]=>cq _
 |x::r=>by
  have h2:=LU r;have e:jv (x::r)=funcOf x++jv r:=rfl;rw[e,aG,aE];have:(funcOf x).length<=1:=by
   unfold funcOf;cases (x.Kind==3)<;>simp
  omega
theorem SR{x:ah}{worlds:List (List UInt8)}(fs:List aF)(hX:fs.length<=8)(hf:∀f∈fs,yC f):∀(n k:Nat)(faces:List (List UInt8)),fs.length-k<n->k<=fs.length->faces.length+(fs.length-k)<=1000->
 M.yD n fs ((fs.length:Nat):Int) (k:Int) x faces worlds=some (bif(fs.drop k).all v7 then .inr (x,faces++(fs.drop k).map (·.Name),worlds)else .inl false)
 |0,k,faces,h,_,_=>by omega
 |n+1,k,faces,h,hk,hb=>by
  rw[M.yD];rcases cU k fs.length with q|q
  ·obtain⟨hf1,hf2⟩:=hf fs[k] (de q);have hu:=fun i hi=>(hf2 i hi).1
   have hm:=SN (t18:=fs) (t19:=((fs.length:Nat):Int)) (t20:=((k:Nat):Int)) (x:=x) (f:=fs[k]) (faces:=faces) (worlds:=worlds) fs[k].Items (by omega) hu ae 0 [] [] (by have:=aZ;omega) (cN _) (by simp;omega) (by simp;omega);rw[show((0:Nat):Int)=0 from rfl,ig,fB,fB]at hm;have l1:=LS fs[k].Items hu;have l2:=LU fs[k].Items;have d1:=Fb (ju fs[k].Items) (by omega);have d2:=Fb (jv fs[k].Items) (by omega);have ih:=SR (x:=x) (worlds:=worlds) fs hX hf n (k+1) (faces++[fs[k].Name]) (by omega) (by omega) (by rw[aG,List.length_singleton];omega);rw[jw q,sU];simp only[eO q,bG,dw _ q,ad,hm,d1,d2,an,ar,bh,dB q,ak,qj (show k<=1000000 by omega),dJ (show faces.length<=1000 by omega),ih];unfold v7;cases nodupB (jv fs[k].Items)
   ·simp only[bp,bh,ad,Bool.and_false,cK,al]
   ·cases nodupB (ju fs[k].Items)
    ·simp only[bp,bV,d4,ad,cK,al]
    ·simp only[bV,kb,al,ak,bj,eR,fN,List.singleton_append]
  ·simp only[jj q,al];rw[List.drop_eq_nil_of_le q];simp
theorem SS{faces:List (List UInt8)}(ws:List aS)(hX:ws.length<=8):∀(n k:Nat)(worlds:List (List UInt8)),ws.length-k<n->k<=ws.length->worlds.length+(ws.length-k)<=1000->
 M.yE ws ((ws.length:Nat):Int) faces n (k:Int) worlds=some (faces,worlds++(ws.drop k).map (·.Name))
 |0,k,_,h,_,_=>by omega
 |n+1,k,worlds,h,hk,hb=>by
  rw[M.yE];rcases cU k ws.length with q|q
  ·have ih:=SS (faces:=faces) ws hX n (k+1) (worlds++[ws[k].Name]) (by omega) (by omega) (by rw[aG,List.length_singleton];omega);simp only[eO q,bG,dw _ q,ad,dB q,ak,qj (show k<=1000000 by omega),dJ (show worlds.length<=1000 by omega),ih];rw[jw q,eR,fN,List.singleton_append]
  ·simp only[jj q,al];rw[List.drop_eq_nil_of_le q];simp
theorem ahK(p:ah)(hp:Fa p):M.BB p=some (mX p):=by
 obtain⟨h1,h2,h3⟩:=hp;have e1:=SR (x:=p) (worlds:=[]) p.aD h1 h3 ae 0 [] (by have:=aZ;omega) (cN _) (by simp;omega);have e2:=SS (faces:=p.aD.map (·.Name)) p.Worlds h2 ae 0 [] (by have:=aZ;omega) (cN _) (by simp;omega);rw[show((0:Nat):Int)=0 from rfl,ig,fB]at e1 e2;have d1:=Fb (p.aD.map (·.Name)) (by rw[eQ];omega);have d2:=Fb (p.Worlds.map (·.Name)) (by rw[eQ];omega);unfold M.BB mX;rw[e1];cases p.aD.all v7
 ·rfl
 ·simp only[ad,e2,d1,d2,an,ar,bh,ak,bj]
theorem ahL(f:aF)(hf:yC f):M.BC f=some (ju f.Items,jv f.Items):=by
 have hm:=SQ f (by have:=hf.1;omega) hf.2 ae 0 [] [] (by have:=aZ;have:=hf.1;omega) (cN _) (by simp;have:=hf.1;omega) (by simp;have:=hf.1;omega);rw[show((0:Nat):Int)=0 from rfl,ig,fB,fB]at hm;unfold M.BC;simp only[hm]
theorem SU(x:ah){worlds:List (List UInt8)}(hX:x.aD.length<=8)(hf:∀f∈x.aD,yC f):∀(n k:Nat)(faces:List (List UInt8)),x.aD.length-k<n->k<=x.aD.length->faces.length+(x.aD.length-k)<=1000->
 M.yF x worlds n (k:Int) faces=some (bif(x.aD.drop k).all v7 then .inr (x,faces++(x.aD.drop k).map (·.Name),worlds)else .inl false)
 |0,k,faces,h,_,_=>by omega
 |n+1,k,faces,h,hk,hb=>by
  rw[M.yF];rcases cU k x.aD.length with q|q
  ·have hfk:=hf x.aD[k] (de q);have hu:=fun i hi=>(hfk.2 i hi).1
   have l1:=LS x.aD[k].Items hu;have l2:=LU x.aD[k].Items;have l3:=hfk.1;have d1:=E8 (ju x.aD[k].Items) (by omega);have d2:=E8 (jv x.aD[k].Items) (by omega);have ih:=SU x (worlds:=worlds) hX hf n (k+1) (faces++[x.aD[k].Name]) (by omega) (by omega) (by rw[aG,List.length_singleton];omega);rw[jw q,sU];simp only[eO q,bG,dw _ q,ad,ahL _ hfk,d1,d2,an,ar,bh,dB q,ak,qj (show k<=1000000 by omega),dJ (show faces.length<=1000 by omega),ih];unfold v7;cases nodupB (ju x.aD[k].Items)
   ·simp only[bp,bh,ad,Bool.and_false,cK,al]
   ·cases nodupB (jv x.aD[k].Items)
    ·simp only[bp,bV,d4,ad,Bool.and_false,cK,al]
    ·simp only[bV,kb,al,ak,bj,eR,fN,List.singleton_append]
  ·simp only[jj q,al];rw[List.drop_eq_nil_of_le q];simp
theorem SV(x:ah){faces:List (List UInt8)}(hX:x.Worlds.length<=8):∀(n k:Nat)(worlds:List (List UInt8)),x.Worlds.length-k<n->k<=x.Worlds.length->worlds.length+(x.Worlds.length-k)<=1000->
 M.yG x faces n (k:Int) worlds=some (faces,worlds++(x.Worlds.drop k).map (·.Name))
 |0,k,_,h,_,_=>by omega
 |n+1,k,worlds,h,hk,hb=>by
  rw[M.yG];rcases cU k x.Worlds.length with q|q
  ·have ih:=SV x (faces:=faces) hX n (k+1) (worlds++[x.Worlds[k].Name]) (by omega) (by omega) (by rw[aG,List.length_singleton];omega);simp only[eO q,bG,dw _ q,ad,dB q,ak,qj (show k<=1000000 by omega),dJ (show worlds.length<=1000 by omega),ih];rw[jw q,eR,fN,List.singleton_append]
  ·simp only[jj q,al];rw[List.drop_eq_nil_of_le q];simp
theorem ahM(p:ah)(hp:Fa p):M.yz p=some (mX p):=by
 obtain⟨h1,h2,h3⟩:=hp;have e1:=SU p (worlds:=[]) h1 h3 ae 0 [] (by have:=aZ;omega) (cN _) (by simp;omega);have e2:=SV p (faces:=p.aD.map (·.Name)) h2 ae 0 [] (by have:=aZ;omega) (cN _) (by simp;omega);rw[show((0:Nat):Int)=0 from rfl,ig,fB]at e1 e2;have d1:=E8 (p.aD.map (·.Name)) (by rw[eQ];omega);have d2:=E8 (p.Worlds.map (·.Name)) (by rw[eQ];omega);unfold M.yz mX;rw[e1];cases p.aD.all v7
 ·rfl
 ·simp only[ad,e2,d1,d2,an,ar,bh,ak,bj,Bool.not_not]
end M
namespace M
open Go.V (inB bN ae aZ)
theorem v8{α:Type}{P:α->Prop}(l:List aj)(el:Nat->PR α)(he:∀k v k',el k=.ok v k'->P v):∀(m:Nat)(acc:List α)(k:Nat)(vs:List α)(k':Nat),(∀v∈acc,P v)->dZ l el m acc k=.ok vs k'->vs.length<=acc.length+m+1/\∀v∈vs,P v
 |m,acc,k,vs,k',ha,h=>by
  rw[dZ.eq_def]at h;dsimp only at h;have one:∀v k1,el k=.ok v k1->∀w∈acc++[v],P w:=fun v k1 e w hw=>by
   rcases df.1 hw with q|q
   ·exact ha w q
   ·rw[ej.1 q];exact he _ _ _ e
  cases hk:el k with
  |no q=>rw[hk]at h;cases h
  |ok v k1=>
   rw[hk]at h;cases m with
   |zero=>
    cases h;exact⟨by rw[aG,List.length_singleton];omega,one v _ hk⟩
   |succ m=>
    simp only at h;cases hc:aC l [44] k1<;>rw[hc]at h
    ·cases h;exact⟨by rw[aG,List.length_singleton];omega,one v _ hk⟩
    ·have:=v8 l el he m (acc++[v]) (k1+1) vs k' (one v k1 hk) h;rw[aG,List.length_singleton]at this;exact⟨by omega,this.2⟩
theorem BD{α:Type}{P:α->Prop}(l:List aj)(el:Nat->PR α)(he:∀k v k',el k=.ok v k'->P v):∀(m:Nat)(acc:List α)(k:Nat)(vs:List α)(k':Nat),(∀v∈acc,P v)->gP l el m acc k=.ok vs k'->vs.length<=acc.length+m/\∀v∈vs,P v
 |0,acc,k,vs,k',ha,h=>by
  rw[gP]at h;obtain⟨_,_,_,h⟩:=bind_ok h;cases h;exact⟨by omega,ha⟩
 |m+1,acc,k,vs,k',ha,h=>by
  rw[gP]at h;cases hc:aC l [125] k<;>rw[hc]at h
  ·obtain⟨v,k1,hk,h⟩:=bind_ok h;have:=BD l el he m (acc++[v]) k1 vs k' (fun w hw=>by
    rcases df.1 hw with q|q
    ·exact ha w q
    ·rw[ej.1 q];exact he _ _ _ hk) h
   rw[aG,List.length_singleton]at this;exact⟨by omega,this.2⟩
  ·cases h;exact⟨by omega,ha⟩
theorem BE{P:aF->Prop}{Q:aS->Prop}(l:List aj)(hP:∀k v k',mW l k=.ok v k'->P v)(hQ:∀k v k',rT l k=.ok v k'->Q v):∀(m:Nat)(fs:List aF)(ws:List aS)(k:Nat)(v:List aF×List aS)(k':Nat),
 fs.length<=8->ws.length<=8->(∀f∈fs,P f)->(∀w∈ws,Q w)->fH l m fs ws k=.ok v k'->v.1.length<=8/\v.2.length<=8/\(∀f∈v.1,P f)/\∀w∈v.2,Q w
 |0,fs,ws,k,v,k',h1,h2,h3,h4,h=>by
  rw[fH]at h;cases hK:((bU l k).Kind==4)<;>rw[hK]at h
  ·cases h
  ·cases h;exact⟨h1,h2,h3,h4⟩
 |m+1,fs,ws,k,v,k',h1,h2,h3,h4,h=>by
  rw[fH]at h;cases hK:((bU l k).Kind==4)<;>rw[hK]at h
  ·simp only[al]at h;cases hF:(decide (((fs.length:Nat):Int)<8)&&aC l rW k)<;>rw[hF]at h
   ·simp only[al]at h;cases hW:(decide (((ws.length:Nat):Int)<8)&&aC l vX k)<;>rw[hW]at h
    ·cases h
    ·simp only[ad]at h;obtain⟨w,k1,hk,h⟩:=bind_ok h;have h8:=ll (Bool.and_eq_true_iff.1 hW).1;exact BE l hP hQ m fs (ws++[w]) k1 v k' h1 (by rw[aG,List.length_singleton];omega) h3 (fun x hx=>by
      rcases df.1 hx with q|q
      ·exact h4 x q
      ·rw[ej.1 q];exact hQ _ _ _ hk) h
   ·simp only[ad]at h;obtain⟨f,k1,hk,h⟩:=bind_ok h;have h8:=ll (Bool.and_eq_true_iff.1 hF).1;exact BE l hP hQ m (fs++[f]) ws k1 v k' (by rw[aG,List.length_singleton];omega) h2 (fun x hx=>by
     rcases df.1 hx with q|q
     ·exact h3 x q
     ·rw[ej.1 q];exact hP _ _ _ hk) h4 h
  ·cases h;exact⟨h1,h2,h3,h4⟩
theorem ahN(l:List aj)(nm:List UInt8)(k:Nat)(v:ai)(k':Nat)(h:oW l nm k=.ok v k'):v.Kind=3/\v.Uses=[]:=by
 have:∀as k,rS l nm as k=.ok v k'->v.Kind=3/\v.Uses=[]:=fun as k h=>by
  unfold rS at h;obtain⟨_,_,_,h⟩:=bind_ok h;obtain⟨_,_,_,h⟩:=bind_ok h;obtain⟨_,_,_,h⟩:=bind_ok h;cases h;exact⟨rfl,rfl⟩
 unfold oW at h;cases hc:aC l rR k<;>rw[hc]at h<;>exact this _ _ h
theorem ahO(l:List aj)(k:Nat)(v:ai)(k':Nat)(h:kU l k=.ok v k'):v.Uses.length<=16/\1<=v.Kind/\v.Kind<=4:=by
 unfold kU oY at h;obtain⟨x,k1,hx,h⟩:=bind_ok h;obtain⟨_,_,_,h⟩:=bind_ok h;cases h;obtain⟨nm,k2,_,hx⟩:=bind_ok hx;unfold lG at hx;cases jT:aC l [58] k2<;>rw[jT]at hx
 ·cases hR:(nm==nK)<;>rw[hR]at hx
  ·cases hY:(nm==qg)<;>rw[hY]at hx
   ·cases hU:(nm==qh)<;>rw[hU]at hx
    ·cases hx
    ·simp only[ad,al]at hx;unfold yp at hx;obtain⟨_,_,_,hx⟩:=bind_ok hx;obtain⟨_,_,_,hx⟩:=bind_ok hx;obtain⟨_,_,_,hx⟩:=bind_ok hx;obtain⟨us,_,hu,hx⟩:=bind_ok hx;obtain⟨_,_,_,hx⟩:=bind_ok hx;cases hx;have:=(v8 (P:=fun _=>True) l _ (fun _ _ _ _=>trivial) 15 [] _ us _ (fun _ _=>trivial) hu).1;exact⟨by simpa using this,by show(1:Int)<=4;decide,by show(4:Int)<=4;decide⟩
   ·simp only[ad,al]at hx;obtain⟨_,_,_,hx⟩:=bind_ok hx;obtain⟨_,_,_,hx⟩:=bind_ok hx;obtain⟨_,_,_,hx⟩:=bind_ok hx;cases hx;exact⟨by simp,by show(1:Int)<=2;decide,by show(2:Int)<=4;decide⟩
  ·simp only[ad,al]at hx;obtain⟨_,_,_,hx⟩:=bind_ok hx;cases hx;exact⟨by simp,by show(1:Int)<=1;decide,by show(1:Int)<=4;decide⟩
 ·obtain⟨e1,e2⟩:=ahN l _ _ _ _ hx;rw[e1,e2];exact⟨by simp,by decide,by decide⟩
theorem ahP(l:List aj)(k:Nat)(v:aF)(k':Nat)(h:mW l k=.ok v k'):yC v:=by
 unfold mW at h;obtain⟨_,_,_,h⟩:=bind_ok h;obtain⟨_,_,_,h⟩:=bind_ok h;obtain⟨xs,_,hx,h⟩:=bind_ok h;cases h;have:=BD (P:=fun v:ai=>v.Uses.length<=16/\1<=v.Kind/\v.Kind<=4) l (kU l) (ahO l) 16 [] _ xs _ (by simp) hx;exact⟨by simpa using this.1,this.2⟩
theorem ahQ(l:List aj)(k:Nat)(p:ah)(k':Nat)(h:iu l k=.ok p k'):Fa p:=by
 unfold iu at h;obtain⟨_,_,_,h⟩:=bind_ok h;obtain⟨_,_,_,h⟩:=bind_ok h;obtain⟨_,_,_,h⟩:=bind_ok h;obtain⟨_,_,_,h⟩:=bind_ok h;obtain⟨_,_,_,h⟩:=bind_ok h;obtain⟨q,k6,h6,h⟩:=bind_ok h;cases h;have:=BE (P:=yC) (Q:=fun _=>True) l (ahP l) (fun _ _ _ _=>trivial) 16 [] [] _ q _ (by simp) (by simp) (by simp) (by simp) h6;exact⟨this.1,this.2.1,this.2.2.1⟩
theorem SX(s:List UInt8)(p:ah)(h:gj s=.inr p):Fa p:=by
 unfold gj at h;split at h
 ·split at h
  ·cases h
  ·rename_i hp;cases h;exact ahQ _ _ _ _ hp
 ·cases h
def noPack:ah:=ah.mk [] [] [] []
noncomputable def kW(s:List UInt8):ah×Int×Int:=match gj s with
 |.inl e=>(noPack,e.1,e.2)
 |.inr p=>bif mX p then(p,0,0)else(noPack,0,1)
theorem ahR(s:List UInt8):M.tZ s=some (kW s):=by
 rw[ahH s mX fun p hp=>ahM p (SX s p hp)];rfl
theorem ahS(s:List UInt8):M.BF s=some (kW s):=by
 have h:=SJ s;unfold M.BF kW;cases hw:gj s with
 |inl e=>
  rw[hw]at h;obtain⟨h0,n,v,fs,ws,h1⟩:=h;have e0:(e.2 !=0)=true:=by rw[lR];exact h0
  simp only[h1,e0,an,ar,ad,ak];rfl
 |inr p=>
  rw[hw]at h;have h:M.qi s [] [] [] []=some (0,0,ah.Name p,ah.Version p,ah.aD p,ah.Worlds p):=h;have e0:((0:Int) !=0)=false:=rfl;have ep:ah.mk (ah.Name p) (ah.Version p) (ah.aD p) (ah.Worlds p)=p:=rfl;simp only[h,e0,ep,ahK p (SX s p hw),an,ar,al,ad,ak];cases mX p<;>rfl
end M
