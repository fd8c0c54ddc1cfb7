/-
  FUNCTIONS and items: both readers.
-/
import Derived.Test.YtghkckfhaljjjaaGreatDoorXXPa
set_option linter.unusedVariables false
set_option linter.unusedSimpArgs false
namespace M
open Go.V (inB cg ad bz)
def qy:List UInt8:=[97,115,121,110,99]
def zU:List UInt8:=[102,117,110,99]
def mM:List UInt8:=[114,101,115,111,117,114,99,101]
def oK:List UInt8:=[116,121,112,101]
def oL:List UInt8:=[117,115,101]
def jz:bc:=bc.mk [] [] []
def lF:aa:=aa.mk 0 [] [] []
def xf(l:List ai)(k:Nat):PR (List az):=(ct l [40] k).bind fun _ k1=>
 bif aI l [41] k1 then .ok [] (k1+1)else(dV l (kh l) 5 [] k1).bind fun ps k2=>(ct l [41] k2).bind fun _ k3=>.ok ps k3
def zV(l:List ai)(k:Nat):PR aa:=bif aI l [45,62] k then dX l 4 (k+1)else .ok dG k
def qz(l:List ai)(nm:List UInt8)(as:Bool)(k:Nat):PR ah:=
 (ct l zU k).bind fun _ k1=>(xf l k1).bind fun ps k2=>(zV l k2).bind fun t k3=>.ok (ah.mk 3 nm t ps as jz []) k3
def nD(l:List ai)(nm:List UInt8)(k:Nat):PR ah:=bif aI l qy k then qz l nm true (k+1)else qz l nm false k
def xg(l:List ai)(k:Nat):PR ah:=(oJ l k).bind fun p k1=>(ct l [46] k1).bind fun _ k2=>(ct l [123] k2).bind fun _ k3=>
 (dV l (l8 l) 15 [] k3).bind fun us k4=>(ct l [125] k4).bind fun _ k5=>.ok (ah.mk 4 [] lF [] false p us) k5
def kN(l:List ai)(nm:List UInt8)(k1:Nat):PR ah:=
 bif aI l [58] k1 then nD l nm (k1+1)
 else bif nm==mM then(l6 l k1).bind fun n k2=>.ok (ah.mk 1 n lF [] false jz []) k2
 else bif nm==oK then(l6 l k1).bind fun n k2=>(ct l [61] k2).bind fun _ k3=>(dX l 4 k3).bind fun t k4=>.ok (ah.mk 2 n t [] false jz []) k4
 else bif nm==oL then xg l k1
 else .no k1
def nE(l:List ai)(k:Nat):PR ah:=(gW l k).bind (kN l)
theorem Lr{l:List ai}(hL:bW l){k:Nat}(hk:k<l.length){t:List UInt8}(hn:rX t)(b:Bool):
 ∃c k' b',k'<l.length/\M.eB t (ip l k b)=some (c,ip l k' b')/\(c=true->k'=k+1/\b'=false)/\(c=false->k'=k/\b'=b)/\∀(α:Type)(x y:PR α),RB b k (bif aI l t k then x else y)=RB b' k' (bif c then x else y):=by
 rw[iQ hL hk hn b];cases h:(!b&&aI l t k)
 ·exact⟨false,k,b,hk,rfl,(fun q=>by cases q),(fun _=>⟨rfl,rfl⟩),fun α x y=>by rw[mI h];rfl⟩
 ·obtain⟨h2,hb⟩:=mJ hL hk h;subst hb;exact⟨true,k+1,false,h2,rfl,(fun _=>⟨rfl,rfl⟩),(fun q=>by cases q),fun α x y=>by rw[lB h];rfl⟩
theorem RG{l:List ai}(hL:bW l){k:Nat}(hk:k<l.length)(t:List UInt8)(b:Bool):
 ∃c k' b',k'<l.length/\M.dJ t (sp l k b)=some (c,sp l k' b')/\(c=true->k'=k+1/\b'=false)/\(c=false->k'=k/\b'=b)/\∀(α:Type)(x y:PR α),RB b k (bif aI l t k then x else y)=RB b' k' (bif c then x else y):=by
 rw[fg hL hk t b];cases h:(!b&&aI l t k)
 ·exact⟨false,k,b,hk,rfl,(fun q=>by cases q),(fun _=>⟨rfl,rfl⟩),fun α x y=>by rw[mI h];rfl⟩
 ·obtain⟨h2,hb⟩:=mJ hL hk h;subst hb;exact⟨true,k+1,false,h2,rfl,(fun _=>⟨rfl,rfl⟩),(fun q=>by cases q),fun α x y=>by rw[lB h];rfl⟩
theorem xh{l:List ai}{nm:List UInt8}{k1 k2:Nat}{b1 b2 as:Bool}(t2:as=true->k2=k1+1/\b2=false)(f2:as=false->k2=k1/\b2=b1)
 (r2:∀(α:Type)(x y:PR α),RB b1 k1 (bif aI l qy k1 then x else y)=RB b2 k2 (bif as then x else y)):RB b1 k1 (nD l nm k1)=RB b2 k2 (qz l nm as k2):=by
 unfold nD;rw[r2];cases as
 ·rw[(f2 rfl).1];rfl
 ·rw[(t2 rfl).1];rfl
theorem xi{l:List ai}{k1 k2:Nat}{b1 b2 as:Bool}(t2:as=true->k2=k1+1/\b2=false)(f2:as=false->k2=k1/\b2=b1)
 (r2:∀(α:Type)(x y:PR α),RB b1 k1 (bif aI l [45,62] k1 then x else y)=RB b2 k2 (bif as then x else y)):RB b1 k1 (zV l k1)=RB b2 k2 (bif as then dX l 4 k2 else .ok dG k2):=by
 unfold zV;rw[r2];cases as
 ·rw[(f2 rfl).1];rfl
 ·rw[(t2 rfl).1];rfl
theorem RH{l:List ai}(hL:bW l)(hT:∀t∈l,t.Text.length<=30000)(nm:List UInt8){k:Nat}(hk:k<l.length)(b:Bool):
 ∃v k' b',k'<l.length/\At (RB b k ((ct l [58] k).bind fun _ k1=>nD l nm k1)) v k' b'/\M.xj nm (ip l k b)=some (v,ip l k' b'):=by
 obtain⟨k1,b1,h1,a1,e1⟩:=jy hL hk (cT 58 (by decide)) b;obtain⟨as,k2,b2,h2,e2,t2,f2,r2⟩:=Lr hL h1 (t:=qy) (fun d r e=>by cases e;decide) b1;obtain⟨k3,b3,h3,a3,e3⟩:=jy hL h2 (t:=zU) (fun d r e=>by cases e;decide) b2;obtain⟨k4,b4,h4,a4,e4⟩:=jy hL h3 (cT 40 (by decide)) b3;have e5:=zE hL h4 (cT 41 (by decide)) b4;unfold qy at e2;unfold zU at e3;unfold M.xj;simp only[e1,e2,e3,e4,e5,ay,aB,al];cases oI:(!b4&&aI l [41] k4)
 ·obtain⟨ps,k5,b5,h5,a5,e6⟩:=ahZ hL hT 3 nm 1 [] as [] [] [] [] [] [] h4 b4;obtain⟨k6,b6,h6,a6,e7⟩:=jy hL h5 (cT 41 (by decide)) b5;obtain⟨c,k7,b7,h7,e8,t7,f7,r7⟩:=Lr hL h6 (t:=[45,62]) (fun d r e=>by cases e;decide) b6;have sA:At (RB b3 k3 (xf l k3)) ps k6 b6:=by
   refine a4.bN ?_;rw[mI oI];exact a5.bN (a6.bN (At.ret _ _ _))
  simp only[bu,ae,e6,e7,e8,ay,aB,al];cases c
  ·refine⟨ah.mk 3 nm dG ps as jz [],k7,b7,h7,a1.bN ?_,rfl⟩;rw[xh t2 f2 r2];refine a3.bN (sA.bN ?_);rw[uP,xi t7 f7 r7];exact At.bind (At.ret _ _ _) (At.ret _ _ _)
  ·obtain⟨v,k8,b8,h8,a8,e9⟩:=EH hL hT h7 b7;refine⟨ah.mk 3 nm v ps as jz [],k8,b8,h8,a1.bN ?_,?_⟩
   ·rw[xh t2 f2 r2];refine a3.bN (sA.bN ?_);rw[uP,xi t7 f7 r7];exact At.bind a8 (At.ret _ _ _)
   ·simp only[ae,e9,ay,aB,al,aa.aC];rfl
 ·obtain⟨h5,hb⟩:=mJ hL h4 oI;subst hb;have e7:M.dj [41] (ip l k4 false)=some (ip l (k4+1) false):=by rw[eX hL h4 (cT 41 (by decide)),oI];rfl
  obtain⟨c,k7,b7,h7,e8,t7,f7,r7⟩:=Lr hL h5 (t:=[45,62]) (fun d r e=>by cases e;decide) false;have sA:At (RB b3 k3 (xf l k3)) [] (k4+1) false:=by
   refine a4.bN ?_;rw[lB oI];exact Or.inl ⟨rfl,rfl⟩
  simp only[dT,aR,e7,e8,ay,aB,al];cases c
  ·refine⟨ah.mk 3 nm dG [] as jz [],k7,b7,h7,a1.bN ?_,rfl⟩;rw[xh t2 f2 r2];refine a3.bN (sA.bN ?_);rw[uP,xi t7 f7 r7];exact At.bind (At.ret _ _ _) (At.ret _ _ _)
  ·obtain⟨v,k8,b8,h8,a8,e9⟩:=EH hL hT h7 b7;refine⟨ah.mk 3 nm v [] as jz [],k8,b8,h8,a1.bN ?_,?_⟩
   ·rw[xh t2 f2 r2];refine a3.bN (sA.bN ?_);rw[uP,xi t7 f7 r7];exact At.bind a8 (At.ret _ _ _)
   ·simp only[ae,e9,ay,aB,al,aa.aC];rfl
theorem ah4{l:List ai}(hL:bW l)(hT:∀t∈l,t.Text.length<=30000){k:Nat}(hk:k<l.length)(b:Bool):
 ∃v k' b',k'<l.length/\At (RB b k (xf l k)) v k' b'/\M.zW (sp l k b)=some (v,sp l k' b'):=by
 obtain⟨k4,b4,h4,a4,e4⟩:=kg hL hk [40] b;unfold M.zW;simp only[e4,fg hL h4 [41] b4,ay,aB,al];cases oI:(!b4&&aI l [41] k4)
 ·simp only[aR];cases b4 with
  |true=>
   refine⟨[],k4,true,h4,a4.bN (At.no _ _ _),?_⟩;obtain⟨n,hn⟩:∃n,ad=n+1:=⟨ad-1,by have:=bz;omega⟩;rw[hn,M.mL];rfl
  |false=>
   obtain⟨vs,k',b',h1,a1,e1⟩:=ah2 hL hT ad 5 [] k4 (by have:=bz;omega) h4 rfl;refine⟨vs,k',b',h1,a4.bN ?_,?_⟩
   ·rw[mI oI,show ∀r:PR (List az),RB false k4 r=r from fun _=>rfl];rw[zQ l _ [41] (by decide)]at a1;exact a1
   ·rw[e1];rfl
 ·obtain⟨h5,hb⟩:=mJ hL h4 oI;subst hb;refine⟨[],k4+1,false,h5,a4.bN ?_,rfl⟩;rw[lB oI];exact Or.inl ⟨rfl,rfl⟩
theorem ah5{l:List ai}(hL:bW l)(hT:∀t∈l,t.Text.length<=30000)(nm:List UInt8){k1:Nat}(h1:k1<l.length)(b1:Bool):
 ∃v k' b',k'<l.length/\At (RB b1 k1 (nD l nm k1)) v k' b'/\M.zX nm (sp l k1 b1)=some (v,sp l k' b'):=by
 obtain⟨as,k2,b2,h2,e2,t2,f2,r2⟩:=RG hL h1 qy b1;obtain⟨k3,b3,h3,a3,e3⟩:=kg hL h2 zU b2;obtain⟨ps,k6,b6,h6,sA,e4⟩:=ah4 hL hT h3 b3;obtain⟨c,k7,b7,h7,e8,t7,f7,r7⟩:=RG hL h6 [45,62] b6;unfold qy at e2;unfold zU at e3;unfold M.zX;simp only[e2,e3,e4,e8,ay,aB,al];cases c
 ·refine⟨ah.mk 3 nm dG ps as jz [],k7,b7,h7,?_,rfl⟩;rw[xh t2 f2 r2];refine a3.bN (sA.bN ?_);rw[uP,xi t7 f7 r7];exact At.bind (At.ret _ _ _) (At.ret _ _ _)
 ·obtain⟨v,k8,b8,h8,a8,e9⟩:=Lo hL hT h7 b7;refine⟨ah.mk 3 nm v ps as jz [],k8,b8,h8,?_,?_⟩
  ·rw[xh t2 f2 r2];refine a3.bN (sA.bN ?_);rw[uP,xi t7 f7 r7];exact At.bind a8 (At.ret _ _ _)
  ·simp only[ae,e9,ay,aB,al,aa.aC];rfl
end M
namespace M
open Go.V (inB cg ad bz)
theorem ah6{l:List ai}(hL:bW l)(hT:∀t∈l,t.Text.length<=30000){k:Nat}(hk:k<l.length)(b:Bool):
 ∃p us k1 b1 k2 b2 k3 b3 k4 b4 k5 b5,k5<l.length/\M.mK (ip l k b)=some (p,ip l k1 b1)/\M.dj [46] (ip l k1 b1)=some (ip l k2 b2)/\M.dj [123] (ip l k2 b2)=some (ip l k3 b3)/\
  M.uS 16 (ip l k3 b3) 4 [] 0 [] false (bc.ba p) (bc.Name p) (bc.Version p) [] [] [] []=some (ip l k4 b4,4,[],0,[],false,bc.ba p,bc.Name p,bc.Version p,[],[],[],us)/\
  M.dj [125] (ip l k4 b4)=some (ip l k5 b5)/\At (RB b k (xg l k)) (ah.mk 4 [] lF [] false p us) k5 b5:=by
 obtain⟨p,k1,b1,h1,a1,e1⟩:=Lp hL hT hk b;obtain⟨k2,b2,h2,a2,e2⟩:=jy hL h1 (cT 46 (by decide)) b1;obtain⟨k3,b3,h3,a3,e3⟩:=jy hL h2 (cT 123 (by decide)) b2;obtain⟨us,k4,b4,h4,a4,e4⟩:=ah1 hL hT 4 [] 0 [] false (bc.ba p) (bc.Name p) (bc.Version p) [] [] [] h3 b3;obtain⟨k5,b5,h5,a5,e5⟩:=jy hL h4 (cT 125 (by decide)) b4;exact⟨p,us,k1,b1,k2,b2,k3,b3,k4,b4,k5,b5,h5,e1,e2,e3,e4,e5,a1.bN (a2.bN (a3.bN (a4.bN (a5.bN (At.ret _ _ _)))))⟩
theorem ah7{l:List ai}(hL:bW l)(hT:∀t∈l,t.Text.length<=30000){k:Nat}(hk:k<l.length)(b:Bool):
 ∃v k' b',k'<l.length/\At (RB b k (nE l k)) v k' b'/\M.zY (ip l k b)=some (v,ip l k' b'):=by
 obtain⟨v1,k1,b1,h1,a1,e1,-⟩:=uQ hL hT hk b;unfold M.zY;simp only[e1,ie,ay,aB,al];cases b1 with
 |true=>
  obtain⟨v,k',b',h,a,e⟩:=RH hL hT v1 h1 true;have a':At (PR.no k1) v k' b':=a;refine⟨v,k',b',h,a1.bN (f:=kN l) a',?_⟩;simp only[ae,e,ay,aB,al,df,ah.aC]
 |false=>
  have e2:=zE hL h1 (cT 58 (by decide)) false;simp only[aR,e2,ay,aB,al,bu,bU,df];cases jA:aI l [58] k1
  ·simp only[aR];cases hR:(v1==[114,101,115,111,117,114,99,101])
   ·simp only[aR];cases hY:(v1==[116,121,112,101])
    ·simp only[aR];cases hU:(v1==[117,115,101])
     ·refine⟨ah.mk 0 [] lF [] false jz [],k1,true,h1,a1.bN ?_,rfl⟩;unfold kN mM oK oL;rw[jA,hR,hY,hU];exact Or.inr ⟨rfl,rfl⟩
     ·obtain⟨p,us,k2,b2,k3,b3,k4,b4,k5,b5,k6,b6,h6,f1,f2,f3,f4,f5,a6⟩:=ah6 hL hT h1 false;refine⟨ah.mk 4 [] lF [] false p us,k6,b6,h6,a1.bN ?_,?_⟩
      ·unfold kN mM oK oL;rw[jA,hR,hY,hU];exact a6
      ·simp only[ae,f1,f2,f3,f4,f5,ay,aB,al];rfl
    ·obtain⟨v2,k2,b2,h2,a2,f2,-⟩:=EF hL hT h1 false;obtain⟨k3,b3,h3,a3,f3⟩:=jy hL h2 (cT 61 (by decide)) b2;obtain⟨v4,k4,b4,h4,a4,f4⟩:=EH hL hT h3 b3;refine⟨ah.mk 2 v2 v4 [] false jz [],k4,b4,h4,a1.bN ?_,?_⟩
     ·unfold kN mM oK oL;rw[jA,hR,hY];exact a2.bN (a3.bN (a4.bN (At.ret _ _ _)))
     ·simp only[ae,f2,f3,f4,ay,aB,al,aa.aC];rfl
   ·obtain⟨v2,k2,b2,h2,a2,f2,-⟩:=EF hL hT h1 false;refine⟨ah.mk 1 v2 lF [] false jz [],k2,b2,h2,a1.bN ?_,?_⟩
    ·unfold kN mM;rw[jA,hR];exact a2.bN (At.ret _ _ _)
    ·simp only[ae,f2,ay,aB,al];rfl
  ·obtain⟨v,k',b',h,a,e⟩:=RH hL hT v1 h1 false;refine⟨v,k',b',h,a1.bN ?_,?_⟩
   ·unfold kN;unfold ct at a;rw[jA]at a⊢;exact a
   ·simp only[ae,e,ay,aB,al,ah.aC]
theorem ah8{l:List ai}(hL:bW l)(hT:∀t∈l,t.Text.length<=30000){k:Nat}(hk:k<l.length)(b:Bool):
 ∃v k' b',k'<l.length/\At (RB b k (xg l k)) v k' b'/\M.zZ (sp l k b)=some (v,sp l k' b'):=by
 obtain⟨p,k1,b1,h1,a1,e1⟩:=Lq hL hT hk b;obtain⟨k2,b2,h2,a2,e2⟩:=kg hL h1 [46] b1;obtain⟨k3,b3,h3,a3,e3⟩:=kg hL h2 [123] b2;unfold M.zZ;simp only[e1,e2,e3,ay,aB,al];cases b3 with
 |true=>
  refine⟨ah.mk 4 [] lF [] false p [],k3,true,h3,a1.bN (a2.bN (a3.bN (At.no _ _ _))),?_⟩;obtain⟨n,hn⟩:∃n,ad=n+1:=⟨ad-1,by have:=bz;omega⟩;rw[hn,M.lE];rfl
 |false=>
  obtain⟨us,k',b',h4,a4,e4⟩:=ah3 hL hT (bc.ba p) (bc.Name p) (bc.Version p) ad 15 [] k3 (by have:=bz;omega) h3 rfl;rw[zQ l _ [125] (by decide)]at a4;refine⟨ah.mk 4 [] lF [] false p us,k',b',h4,a1.bN (a2.bN (a3.bN ?_)),?_⟩
  ·rw[show ∀r:PR ah,RB false k3 r=r from fun _=>rfl];generalize hr:dV l (l8 l) 15 [] k3=r at a4⊢;cases r with
   |no q=>
    rcases a4 with⟨q1,q2⟩|⟨q1,q2⟩
    ·cases q1
    ·cases q1;exact Or.inr ⟨rfl,q2⟩
   |ok us' q=>
    simp only[PR.bind]at a4⊢;cases hn:ct l [125] q with
    |no q'=>
     rw[hn]at a4;rcases a4 with⟨q1,q2⟩|⟨q1,q2⟩
     ·cases q1
     ·cases q1;exact Or.inr ⟨rfl,q2⟩
    |ok u q'=>
     rw[hn]at a4;rcases a4 with⟨q1,q2⟩|⟨q1,q2⟩
     ·cases q1;exact Or.inl ⟨rfl,q2⟩
     ·cases q1
  ·rw[e4];rfl
def ki(l:List ai)(k:Nat):PR ah:=(nE l k).bind fun x k1=>(ct l [59] k1).bind fun _ k2=>.ok x k2
theorem RI{l:List ai}(hL:bW l)(hT:∀t∈l,t.Text.length<=30000){k:Nat}(hk:k<l.length)(b:Bool):
 ∃v k' b',k'<l.length/\At (RB b k (ki l k)) v k' b'/\M.Aa (sp l k b)=some (v,sp l k' b'):=by
 obtain⟨v1,k1,b1,h1,a1,e1,z1⟩:=uR hL hT hk b;unfold M.Aa;simp only[e1,fg hL h1 [58] b1,ay,aB,al];cases b1 with
 |true=>
  rw[z1 rfl];refine⟨ah.mk 0 [] lF [] false jz [],k1,true,h1,At.bN (r:=nE l k) (v:=ah.mk 0 [] lF [] false jz []) (a1.bN (At.no _ _ _)) (At.no _ _ _),?_⟩;have f0:(([]:List UInt8)==[114,101,115,111,117,114,99,101])=false:=rfl;have f1:(([]:List UInt8)==[116,121,112,101])=false:=rfl;have f2:(([]:List UInt8)==[117,115,101])=false:=rfl;simp only[dT,cL,aR,f0,f1,f2,jb,jc,kf,gz hL h1 [59] true,aB,al,ae];rfl
 |false=>
  simp only[bu,bU];cases jA:aI l [58] k1
  ·simp only[aR];cases hR:(v1==[114,101,115,111,117,114,99,101])
   ·simp only[aR];cases hY:(v1==[116,121,112,101])
    ·simp only[aR];cases hU:(v1==[117,115,101])
     ·refine⟨ah.mk 0 [] lF [] false jz [],k1,true,h1,At.bN (r:=nE l k) (v:=ah.mk 0 [] lF [] false jz []) (k1:=k1) (b1:=true) (a1.bN ?_) (At.no _ _ _),?_⟩
      ·unfold kN mM oK oL;rw[jA,hR,hY,hU];exact Or.inr ⟨rfl,rfl⟩
      ·simp only[aR,jb,jc,kf,gz hL h1 [59] true,aB,al,ae];rfl
     ·obtain⟨v2,k2,b2,h2,a2,f2⟩:=ah8 hL hT h1 false;obtain⟨k3,b3,h3,a3,f3⟩:=kg hL h2 [59] b2;refine⟨v2,k3,b3,h3,At.bN (r:=nE l k) (a1.bN ?_) (a3.bN (At.ret _ _ _)),?_⟩
      ·unfold kN mM oK oL;rw[jA,hR,hY,hU];exact a2
      ·simp only[ae,f2,f3,ay,aB,al,ah.aC]
    ·obtain⟨v2,k2,b2,h2,a2,f2,-⟩:=EG hL hT h1 false;obtain⟨k3,b3,h3,a3,f3⟩:=kg hL h2 [61] b2;obtain⟨v4,k4,b4,h4,a4,f4⟩:=Lo hL hT h3 b3;obtain⟨k5,b5,h5,a5,f5⟩:=kg hL h4 [59] b4;refine⟨ah.mk 2 v2 v4 [] false jz [],k5,b5,h5,At.bN (r:=nE l k) (a1.bN ?_) (a5.bN (At.ret _ _ _)),?_⟩
     ·unfold kN mM oK oL;rw[jA,hR,hY];exact a2.bN (a3.bN (a4.bN (At.ret _ _ _)))
     ·simp only[ae,f2,f3,f4,f5,ay,aB,al,aa.aC];rfl
   ·obtain⟨v2,k2,b2,h2,a2,f2,-⟩:=EG hL hT h1 false;obtain⟨k3,b3,h3,a3,f3⟩:=kg hL h2 [59] b2;refine⟨ah.mk 1 v2 lF [] false jz [],k3,b3,h3,At.bN (r:=nE l k) (a1.bN ?_) (a3.bN (At.ret _ _ _)),?_⟩
    ·unfold kN mM;rw[jA,hR];exact a2.bN (At.ret _ _ _)
    ·simp only[ae,f2,f3,ay,aB,al];rfl
  ·obtain⟨v2,k2,b2,h2,a2,f2⟩:=ah5 hL hT v1 (cU hL h1 jA) false;obtain⟨k3,b3,h3,a3,f3⟩:=kg hL h2 [59] b2;refine⟨v2,k3,b3,h3,At.bN (r:=nE l k) (a1.bN ?_) (a3.bN (At.ret _ _ _)),?_⟩
   ·unfold kN;rw[jA];exact a2
   ·simp only[ae,f2,f3,ay,aB,al,ah.aC]
end M
namespace M
open Go.V (inB cg ad bz)
def gC{α:Type}(l:List ai)(el:Nat->PR α):Nat->List α->Nat->PR (List α)
 |0,acc,k=>(ct l [125] k).bind fun _ k1=>.ok acc k1
 |m+1,acc,k=>bif aI l [125] k then .ok acc (k+1)else(el k).bind fun x k1=>gC l el m (acc++[x]) k1
def l9(l:List ai)(k:Nat):PR aE:=(gW l k).bind fun n k1=>(ct l [123] k1).bind fun _ k2=>(gC l (ki l) 16 [] k2).bind fun xs k3=>.ok (aE.mk n xs) k3
theorem ah9{l:List ai}(hL:bW l)(hT:∀t∈l,t.Text.length<=30000)(t2 x:List UInt8)(o5:List ah):∀(f m:Nat)(acc:List ah)(k:Nat)(b:Bool),m+1<f->k<l.length->acc.length+m=16->
 ∃vs k' b' k2 b2,k2<l.length/\M.xk t2 x o5 f (ip l k b) acc=some (ip l k' b',t2,x,o5,vs)/\M.dj [125] (ip l k' b')=some (ip l k2 b2)/\At (RB b k (gC l (ki l) m acc k)) vs k2 b2:=by
 intro f
 induction f with
 |zero=>intro m acc k b h;omega
 |succ f ih=>
  intro m acc k b hf hk hacc;rw[M.xk];cases b with
  |true=>
   refine⟨acc,k,true,k,true,hk,?_,?_,At.no _ _ _⟩
   ·simp only[ie,dT,Bool.and_false,aR,al,df,ae]
   ·rw[eX hL hk (cT 125 (by decide)) true];rfl
  |false=>
   cases m with
   |zero=>
    obtain⟨k2,b2,h2,a2,e2⟩:=jy hL hk (cT 125 (by decide)) false;refine⟨acc,k,false,k2,b2,h2,?_,e2,?_⟩
    ·rw[cA (show ¬((acc.length:Nat):Int)<16 by omega)];simp only[ie,bu,cL,aR,al,df,ae]
    ·rw[gC];exact a2.bN (At.ret _ _ _)
   |succ m=>
    rw[da (show((acc.length:Nat):Int)<16 by omega),gC];simp only[ie,bu,bU,ae,zE hL hk (cT 125 (by decide)) false,ay,aB,al,df];cases h:aI l [125] k
    ·obtain⟨v1,k1,b1,h1,a1,e1⟩:=ah7 hL hT hk false;obtain⟨k2,b2,h2,a2,e2⟩:=jy hL h1 (cT 59 (by decide)) b1;obtain⟨vs,k3,b3,k4,b4,h4,e3,e4,a4⟩:=ih m (acc++[v1]) k2 b2 (by omega) h2 (by rw[aN,List.length_singleton];omega);refine⟨vs,k3,b3,k4,b4,h4,?_,e4,?_⟩
     ·simp only[bu,ae,e1,e2,ay,aB,dH (show acc.length<=1000 by omega),al,ah.aC,e3]
     ·simp only[aR];refine At.bN (r:=ki l k) (v:=v1) (k1:=k2) (b1:=b2) ?_ a4;unfold ki;exact a1.bN (a2.bN (At.ret _ _ _))
    ·refine⟨acc,k,false,k+1,false,cU hL hk h,?_,?_,?_⟩
     ·simp only[dT,aR,ae]
     ·rw[eX hL hk (cT 125 (by decide)) false,h];rfl
     ·exact Or.inl ⟨rfl,rfl⟩
theorem aia{l:List ai}(hL:bW l)(hT:∀t∈l,t.Text.length<=30000){k:Nat}(hk:k<l.length)(b:Bool):
 ∃v k' b',k'<l.length/\At (RB b k (l9 l k)) v k' b'/\M.xl (ip l k b)=some (v,ip l k' b'):=by
 obtain⟨v1,k1,b1,h1,a1,e1,-⟩:=uQ hL hT hk b;obtain⟨k2,b2,h2,a2,e2⟩:=jy hL h1 (cT 123 (by decide)) b1;obtain⟨vs,k3,b3,k4,b4,h4,e3,e4,a4⟩:=ah9 hL hT [] v1 [] ad 16 [] k2 b2 (by have:=bz;omega) h2 rfl;refine⟨aE.mk v1 vs,k4,b4,h4,a1.bN (a2.bN (a4.bN (At.ret _ _ _))),?_⟩;unfold M.xl;simp only[e1,e2,e3,e4,ay,aB,al,ae]
theorem aib{l:List ai}(hL:bW l)(hT:∀t∈l,t.Text.length<=30000)(t2 x:List UInt8)(o5:List ah):∀(f m:Nat)(acc:List ah)(k:Nat)(b:Bool),m+1<f->k<l.length->acc.length+m=16->
 ∃vs k' b',k'<l.length/\At (RB b k (gC l (ki l) m acc k)) vs k' b'/\M.so t2 x o5 f (sp l k b) acc=some (l,(k':Int),b',t2,x,o5,vs):=by
 intro f
 induction f with
 |zero=>intro m acc k b h;omega
 |succ f ih=>
  intro m acc k b hf hk hacc;obtain⟨f',rfl⟩:∃f',f=f'+1:=⟨f-1,by omega⟩;have hend:∀(f:Nat)(k:Nat)(xs:List ah),M.so t2 x o5 (f+1) (sp l k true) xs=some (l,(k:Int),true,t2,x,o5,xs):=fun f k xs=>by
   rw[M.so];rfl
  cases b with
  |true=>exact⟨acc,k,true,hk,At.no _ _ _,hend _ k acc⟩
  |false=>
   rw[M.so];simp only[iw,bu,ae,fg hL hk [125] false,bU,ay,aB,al,df];cases h:aI l [125] k
   ·simp only[aR,bu,ae,jb,jc,kf];cases m with
    |zero=>
     rw[da (show(16:Int)<=((acc.length:Nat):Int) by omega)];obtain⟨v1,k1,b1,h1,a1,e1⟩:=RI hL hT hk true;have q:b1=true/\k1=k:=by
      rcases a1 with⟨q1,q2⟩|⟨q1,q2⟩
      ·cases q1
      ·cases q1;exact⟨q2,rfl⟩
     rw[q.1,q.2]at e1;refine⟨acc++[v1],k,true,hk,?_,?_⟩
     ·rw[gC];unfold ct;rw[h];exact Or.inr ⟨rfl,rfl⟩
     ·simp only[e1,ay,aB,dH (show acc.length<=1000 by omega),al,ae,ah.aC];exact hend _ k _
    |succ m=>
     rw[cA (show ¬(16:Int)<=((acc.length:Nat):Int) by omega)];obtain⟨v1,k1,b1,h1,a1,e1⟩:=RI hL hT hk false;obtain⟨vs,k3,b3,h3,a3,e3⟩:=ih m (acc++[v1]) k1 b1 (by omega) h1 (by rw[aN,List.length_singleton];omega);refine⟨vs,k3,b3,h3,?_,?_⟩
     ·rw[gC,h];exact At.bN (r:=ki l k) a1 a3
     ·simp only[e1,ay,aB,dH (show acc.length<=1000 by omega),al,ae,ah.aC,e3]
   ·refine⟨acc,k+1,false,cU hL hk h,?_,rfl⟩;cases m with
    |zero=>
     rw[gC];unfold ct;rw[h];exact Or.inl ⟨rfl,rfl⟩
    |succ m=>
     rw[gC,h];exact Or.inl ⟨rfl,rfl⟩
theorem aic{l:List ai}(hL:bW l)(hT:∀t∈l,t.Text.length<=30000){k:Nat}(hk:k<l.length)(b:Bool):
 ∃v k' b',k'<l.length/\At (RB b k (l9 l k)) v k' b'/\M.xm (sp l k b)=some (v,sp l k' b'):=by
 obtain⟨v1,k1,b1,h1,a1,e1,-⟩:=uR hL hT hk b;obtain⟨k2,b2,h2,a2,e2⟩:=kg hL h1 [123] b1;obtain⟨vs,k3,b3,h3,a3,e3⟩:=aib hL hT [] v1 [] ad 16 [] k2 b2 (by have:=bz;omega) h2 rfl;refine⟨aE.mk v1 vs,k3,b3,h3,a1.bN (a2.bN (a3.bN (At.ret _ _ _))),?_⟩;unfold M.xm;simp only[e1,e2,e3,ay,aB,al,ae];rfl
end M
namespace M
open Go.V (inB cg ad bz)
def nF:List UInt8:=[105,109,112,111,114,116]
def nG:List UInt8:=[101,120,112,111,114,116]
def nH:List UInt8:=[105,110,99,108,117,100,101]
def sq(l:List ai)(kind:Int)(k:Nat):PR aH:=(oJ l k).bind fun p k1=>(ct l [59] k1).bind fun _ k2=>.ok (aH.mk kind p) k2
def jB(l:List ai)(k:Nat):PR aH:=
 bif aI l nF k then sq l 1 (k+1)else bif aI l nG k then sq l 2 (k+1)else bif aI l nH k then sq l 3 (k+1)else .no k
def qA(l:List ai)(k:Nat):PR aJ:=(gW l k).bind fun n k1=>(ct l [123] k1).bind fun _ k2=>(gC l (jB l) 16 [] k2).bind fun xs k3=>.ok (aJ.mk n xs) k3
theorem aid{l:List ai}(hL:bW l)(hT:∀t∈l,t.Text.length<=30000)(t2 x:List UInt8)(o5:List aH):∀(f m:Nat)(acc:List aH)(k:Nat)(b:Bool),m+1<f->k<l.length->acc.length+m=16->
 ∃vs k' b' k2 b2,k2<l.length/\M.qB t2 x o5 f (ip l k b) acc=some (ip l k' b',t2,x,o5,vs)/\M.dj [125] (ip l k' b')=some (ip l k2 b2)/\At (RB b k (gC l (jB l) m acc k)) vs k2 b2:=by
 intro f
 induction f with
 |zero=>intro m acc k b h;omega
 |succ f ih=>
  intro m acc k b hf hk hacc;rw[M.qB];cases b with
  |true=>
   refine⟨acc,k,true,k,true,hk,?_,?_,At.no _ _ _⟩
   ·simp only[ie,dT,Bool.and_false,aR,al,df,ae]
   ·rw[eX hL hk (cT 125 (by decide)) true];rfl
  |false=>
   cases m with
   |zero=>
    obtain⟨k2,b2,h2,a2,e2⟩:=jy hL hk (cT 125 (by decide)) false;refine⟨acc,k,false,k2,b2,h2,?_,e2,?_⟩
    ·rw[cA (show ¬((acc.length:Nat):Int)<16 by omega)];simp only[ie,bu,cL,aR,al,df,ae]
    ·rw[gC];exact a2.bN (At.ret _ _ _)
   |succ m=>
    rw[da (show((acc.length:Nat):Int)<16 by omega),gC];simp only[ie,bu,bU,ae,zE hL hk (cT 125 (by decide)) false,ay,aB,al,df];have key:∀(kind:Int)(kk:Nat),kk<l.length->∃v1 k1 b1 k2 b2,k2<l.length/\M.mK (ip l kk false)=some (v1,ip l k1 b1)/\M.dj [59] (ip l k1 b1)=some (ip l k2 b2)/\At (sq l kind kk) (aH.mk kind v1) k2 b2:=by
     intro kind kk hkk;obtain⟨v1,k1,b1,h1,a1,e1⟩:=Lp hL hT hkk false;obtain⟨k2,b2,h2,a2,e2⟩:=jy hL h1 (cT 59 (by decide)) b1;exact⟨v1,k1,b1,k2,b2,h2,e1,e2,At.bind (r:=oJ l kk) a1 (a2.bN (At.ret _ _ _))⟩
    have tI:=iQ hL hk (text:=[105,109,112,111,114,116]) (fun d r e=>by cases e;decide) false;have tE:=iQ hL hk (text:=[101,120,112,111,114,116]) (fun d r e=>by cases e;decide) false;have tC:=iQ hL hk (text:=[105,110,99,108,117,100,101]) (fun d r e=>by cases e;decide) false;rw[bu,bU]at tI tE tC;cases h:aI l [125] k
    ·simp only[bu,ae,aR];cases hI:aI l [105,109,112,111,114,116] k
     ·rw[hI]at tI;cases hE:aI l [101,120,112,111,114,116] k
      ·rw[hE]at tE;cases hC:aI l [105,110,99,108,117,100,101] k
       ·rw[hC]at tC;obtain⟨v1,k1,b1,h1,a1,e1⟩:=Lp hL hT hk true;have q:b1=true/\k1=k:=by
         rcases a1 with⟨q1,q2⟩|⟨q1,q2⟩
         ·cases q1
         ·cases q1;exact⟨q2,rfl⟩
        rw[q.1,q.2]at e1;have e2:M.dj [59] (ip l k true)=some (ip l k true):=by rw[eX hL hk (cT 59 (by decide))];rfl
        obtain⟨vs,k3,b3,k4,b4,h4,e3,e4,a4⟩:=ih m (acc++[aH.mk 0 v1]) k true (by omega) hk (by rw[aN,List.length_singleton];omega);refine⟨vs,k3,b3,k4,b4,h4,?_,e4,?_⟩
        ·simp only[tI,tE,tC,aR,ae,ay,aB,kM,jL,lC,e1,e2,dH (show acc.length<=1000 by omega),al,e3]
        ·unfold jB nF nG nH;rw[hI,hE,hC];exact a4
       ·rw[hC]at tC;obtain⟨v1,k1,b1,k2,b2,h2,e1,e2,a2⟩:=key 3 (k+1) (cU hL hk hC);obtain⟨vs,k3,b3,k4,b4,h4,e3,e4,a4⟩:=ih m (acc++[aH.mk 3 v1]) k2 b2 (by omega) h2 (by rw[aN,List.length_singleton];omega);refine⟨vs,k3,b3,k4,b4,h4,?_,e4,?_⟩
        ·simp only[tI,tE,tC,aR,ae,ay,aB,e1,e2,dH (show acc.length<=1000 by omega),al,e3]
        ·unfold jB nF nG nH;rw[hI,hE,hC];exact At.bind a2 a4
      ·rw[hE]at tE;obtain⟨v1,k1,b1,k2,b2,h2,e1,e2,a2⟩:=key 2 (k+1) (cU hL hk hE);obtain⟨vs,k3,b3,k4,b4,h4,e3,e4,a4⟩:=ih m (acc++[aH.mk 2 v1]) k2 b2 (by omega) h2 (by rw[aN,List.length_singleton];omega);refine⟨vs,k3,b3,k4,b4,h4,?_,e4,?_⟩
       ·simp only[tI,tE,aR,ae,ay,aB,e1,e2,dH (show acc.length<=1000 by omega),al,e3]
       ·unfold jB nF nG nH;rw[hI,hE];exact At.bind a2 a4
     ·rw[hI]at tI;obtain⟨v1,k1,b1,k2,b2,h2,e1,e2,a2⟩:=key 1 (k+1) (cU hL hk hI);obtain⟨vs,k3,b3,k4,b4,h4,e3,e4,a4⟩:=ih m (acc++[aH.mk 1 v1]) k2 b2 (by omega) h2 (by rw[aN,List.length_singleton];omega);refine⟨vs,k3,b3,k4,b4,h4,?_,e4,?_⟩
      ·simp only[tI,aR,ae,ay,aB,e1,e2,dH (show acc.length<=1000 by omega),al,e3]
      ·unfold jB nF nG nH;rw[hI];exact At.bind a2 a4
    ·refine⟨acc,k,false,k+1,false,cU hL hk h,?_,?_,?_⟩
     ·simp only[dT,aR,ae]
     ·rw[eX hL hk (cT 125 (by decide)) false,h];rfl
     ·exact Or.inl ⟨rfl,rfl⟩
theorem aie{l:List ai}(hL:bW l)(hT:∀t∈l,t.Text.length<=30000){k:Nat}(hk:k<l.length)(b:Bool):
 ∃v k' b',k'<l.length/\At (RB b k (qA l k)) v k' b'/\M.uT (ip l k b)=some (v,ip l k' b'):=by
 obtain⟨v1,k1,b1,h1,a1,e1,-⟩:=uQ hL hT hk b;obtain⟨k2,b2,h2,a2,e2⟩:=jy hL h1 (cT 123 (by decide)) b1;obtain⟨vs,k3,b3,k4,b4,h4,e3,e4,a4⟩:=aid hL hT [] v1 [] ad 16 [] k2 b2 (by have:=bz;omega) h2 rfl;refine⟨aJ.mk v1 vs,k4,b4,h4,a1.bN (a2.bN (a4.bN (At.ret _ _ _))),?_⟩;unfold M.uT;simp only[e1,e2,e3,e4,ay,aB,al,ae]
end M
namespace M
open Go.V (inB cg ad bz)
theorem Ls{l:List ai}(hL:bW l)(t2 w:List UInt8)(o6 o7:List aH)(P:bc){k:Nat}(hk:k<l.length)(b:Bool)(n:Nat)(i j:Int)(t:List UInt8)
 (h1:List.getD (Option.getD M.jC Inhabited.default) (Int.toNat i) []=t) (h2:inB i (List.length (Option.getD M.jC Inhabited.default))=true) (h3:decide (i<(3:Int))=true) (h4:Go.IntKind.wrap Go.IntKind.i64 (i+1)=j):
 M.kj t2 w o6 o7 (n+1) i (sp l k b) (aH.mk 0 P)=bif !b&&aI l t k then M.kj t2 w o6 o7 n j (sp l (k+1) b) (aH.mk j P)else M.kj t2 w o6 o7 n j (sp l k b) (aH.mk 0 P):=by
 have hs:Option.isSome M.jC=true:=rfl;rw[M.kj];simp only[h1,h2,h3,h4,hs,fg hL hk t b,ay,aB,al,ae,df];cases (!b&&aI l t k)
 ·simp only[aR]
 ·simp only[ae]
theorem Lt(t2 w:List UInt8)(o6 o7:List aH)(P:bc)(p:aD)(n:Nat)(i j kd:Int)(h0:(kd==(0:Int))=false)(h3:decide (i<(3:Int))=true)(h4:Go.IntKind.wrap Go.IntKind.i64 (i+1)=j):
 M.kj t2 w o6 o7 (n+1) i p (aH.mk kd P)=M.kj t2 w o6 o7 n j p (aH.mk kd P):=by
 rw[M.kj];simp only[h3,h4,h0,ae,aR,df,al]
theorem EI(t2 w:List UInt8)(o6 o7:List aH)(p:aD)(x:aH)(n:Nat):M.kj t2 w o6 o7 (n+1) 3 p x=some (p,t2,w,x,o6,o7):=by
 rw[M.kj];rfl
theorem RJ{l:List ai}(hL:bW l)(t2 w:List UInt8)(o6 o7:List aH)(P:bc){k:Nat}(hk:k<l.length)(b:Bool):
 M.kj t2 w o6 o7 ad 0 (sp l k b) (aH.mk 0 P)=
   bif !b&&aI l nF k then some (sp l (k+1) b,t2,w,aH.mk 1 P,o6,o7)
   else bif !b&&aI l nG k then some (sp l (k+1) b,t2,w,aH.mk 2 P,o6,o7)
   else bif !b&&aI l nH k then some (sp l (k+1) b,t2,w,aH.mk 3 P,o6,o7)
   else some (sp l k b,t2,w,aH.mk 0 P,o6,o7):=by
 obtain⟨n,hn⟩:∃n,ad=n+1+1+1+1:=⟨ad-4,by have:=bz;omega⟩;rw[hn,Ls hL t2 w o6 o7 P hk b _ 0 1 nF rfl rfl rfl (by decide)];cases (!b&&aI l nF k)
 ·simp only[aR];rw[Ls hL t2 w o6 o7 P hk b _ 1 2 nG rfl rfl rfl (by decide)];cases (!b&&aI l nG k)
  ·simp only[aR];rw[Ls hL t2 w o6 o7 P hk b _ 2 3 nH rfl rfl rfl (by decide)];cases (!b&&aI l nH k)
   ·simp only[aR];exact EI _ _ _ _ _ _ _
   ·simp only[ae];exact EI _ _ _ _ _ _ _
  ·simp only[ae];rw[Lt _ _ _ _ _ _ _ 2 3 2 rfl rfl (by decide)];exact EI _ _ _ _ _ _ _
 ·simp only[ae];rw[Lt _ _ _ _ _ _ _ 1 2 1 rfl rfl (by decide),Lt _ _ _ _ _ _ _ 2 3 1 rfl rfl (by decide)];exact EI _ _ _ _ _ _ _
theorem aif{l:List ai}(hL:bW l)(hT:∀t∈l,t.Text.length<=30000)(t2 x:List UInt8)(o5:List aH):∀(f m:Nat)(acc:List aH)(k:Nat)(b:Bool),m+1<f->k<l.length->acc.length+m=16->
 ∃vs k' b',k'<l.length/\At (RB b k (gC l (jB l) m acc k)) vs k' b'/\M.qC f (sp l k b) t2 x o5 acc=some (l,(k':Int),b',t2,x,o5,vs):=by
 intro f
 induction f with
 |zero=>intro m acc k b h;omega
 |succ f ih=>
  intro m acc k b hf hk hacc;obtain⟨f',rfl⟩:∃f',f=f'+1:=⟨f-1,by omega⟩;have hend:∀(f:Nat)(k:Nat)(xs:List aH),M.qC (f+1) (sp l k true) t2 x o5 xs=some (l,(k:Int),true,t2,x,o5,xs):=fun f k xs=>by
   rw[M.qC];rfl
  cases b with
  |true=>exact⟨acc,k,true,hk,At.no _ _ _,hend _ k acc⟩
  |false=>
   have hbad:∃v,M.lD (sp l k true)=some (v,sp l k true):=by
    obtain⟨v1,k1,b1,h1,a1,e1⟩:=Lq hL hT hk true;have q:b1=true/\k1=k:=by
     rcases a1 with⟨q1,q2⟩|⟨q1,q2⟩
     ·cases q1
     ·cases q1;exact⟨q2,rfl⟩
    rw[q.1,q.2]at e1;exact⟨v1,e1⟩
   obtain⟨vb,eb⟩:=hbad;have mb:M.dE [59] (sp l k true)=some (sp l k true):=by rw[gz hL hk];rfl
   have key:∀(kind:Int)(kk:Nat),kk<l.length->∃v1 k1 b1 k2 b2,k2<l.length/\M.lD (sp l kk false)=some (v1,sp l k1 b1)/\M.dE [59] (sp l k1 b1)=some (sp l k2 b2)/\At (sq l kind kk) (aH.mk kind v1) k2 b2:=by
    intro kind kk hkk;obtain⟨v1,k1,b1,h1,a1,e1⟩:=Lq hL hT hkk false;obtain⟨k2,b2,h2,a2,e2⟩:=kg hL h1 [59] b1;exact⟨v1,k1,b1,k2,b2,h2,e1,e2,At.bind (r:=oJ l kk) a1 (a2.bN (At.ret _ _ _))⟩
   rw[M.qC];simp only[iw,bu,ae,fg hL hk [125] false,bU,ay,aB,al,df];cases h:aI l [125] k
   ·simp only[aR,bu,ae,jb,jc,kf];cases m with
    |zero=>
     rw[da (show(16:Int)<=((acc.length:Nat):Int) by omega),RJ hL _ _ _ _ _ hk true];refine⟨acc++[aH.mk 0 vb],k,true,hk,?_,?_⟩
     ·rw[gC];unfold ct;rw[h];exact Or.inr ⟨rfl,rfl⟩
     ·simp only[dT,cL,aR,jb,jc,iw,kf,cq,eb,mb,ay,aB,dH (show acc.length<=1000 by omega),al,ae];exact hend _ k _
    |succ m=>
     rw[cA (show ¬(16:Int)<=((acc.length:Nat):Int) by omega),RJ hL _ _ _ _ _ hk false];rw[gC,h];simp only[bu,bU];have go:∀kind:Int,(kind==(0:Int))=false->aI l (bif kind==1 then nF else bif kind==2 then nG else nH) k=true->(RB false k (bif false then PR.ok acc (k+1)else(jB l k).bind fun x k1=>gC l (jB l) m (acc++[x]) k1))=(sq l kind (k+1)).bind (fun x k1=>gC l (jB l) m (acc++[x]) k1)->
      ∃vs k' b',k'<l.length/\At (RB false k (bif false then PR.ok acc (k+1)else(jB l k).bind fun x k1=>gC l (jB l) m (acc++[x]) k1)) vs k' b'/\
       (match(some (sp l (k+1) false,t2,x,aH.mk kind (bc.mk [] [] []),o5,acc):Option (aD×List UInt8×List UInt8×aH×List aH×List aH))with
         |none=>none
         |some y3=>bif(decide (((List.length y3.2.2.2.2.2)+(List.length [(M.aH.mk (M.aH.Kind y3.2.2.2.1) (Option.getD (M.lD (M.aD.mk (M.aD.list y3.1) (M.aD.at_ y3.1) ((M.aD.bad y3.1)||((M.aH.Kind y3.2.2.2.1)==(0:Int))))) Inhabited.default).1)]))<=1073741824))&&((Option.isSome (M.dE [(59:UInt8)] (Option.getD (M.lD (M.aD.mk (M.aD.list y3.1) (M.aD.at_ y3.1) ((M.aD.bad y3.1)||((M.aH.Kind y3.2.2.2.1)==(0:Int))))) Inhabited.default).2))&&((Option.isSome (M.lD (M.aD.mk (M.aD.list y3.1) (M.aD.at_ y3.1) ((M.aD.bad y3.1)||((M.aH.Kind y3.2.2.2.1)==(0:Int))))))&&true))then
           M.qC (f'+1) (Option.getD (M.dE [(59:UInt8)] (Option.getD (M.lD (M.aD.mk (M.aD.list y3.1) (M.aD.at_ y3.1) ((M.aD.bad y3.1)||((M.aH.Kind y3.2.2.2.1)==(0:Int))))) Inhabited.default).2) Inhabited.default) y3.2.1 y3.2.2.1 y3.2.2.2.2.1 (y3.2.2.2.2.2++[(M.aH.mk (M.aH.Kind y3.2.2.2.1) (Option.getD (M.lD (M.aD.mk (M.aD.list y3.1) (M.aD.at_ y3.1) ((M.aD.bad y3.1)||((M.aH.Kind y3.2.2.2.1)==(0:Int))))) Inhabited.default).1)])
          else none)=some (l,(k':Int),b',t2,x,o5,vs):=by
      intro kind h0 hB hR;obtain⟨v1,k1,b1,k2,b2,h2,e1,e2,a2⟩:=key kind (k+1) (cU hL hk hB);obtain⟨vs,k3,b3,h3,a3,e3⟩:=ih m (acc++[aH.mk kind v1]) k2 b2 (by omega) h2 (by rw[aN,List.length_singleton];omega);refine⟨vs,k3,b3,h3,?_,?_⟩
      ·rw[hR];exact At.bind a2 a3
      ·simp only[h0,jb,jc,iw,lV,kf,e1,e2,ay,aB,dH (show acc.length<=1000 by omega),al,ae,e3]
     cases hI:aI l nF k
     ·cases hE:aI l nG k
      ·cases hC:aI l nH k
       ·refine⟨acc++[aH.mk 0 vb],k,true,hk,?_,?_⟩
        ·unfold jB;rw[hI,hE,hC];exact Or.inr ⟨rfl,rfl⟩
        ·simp only[aR,jb,jc,iw,kf,df,iz,eb,mb,ay,aB,dH (show acc.length<=1000 by omega),al,ae];exact hend _ k _
       ·have:=go 3 rfl hC (by unfold jB;rw[hI,hE,hC];rfl);exact this
      ·have:=go 2 rfl hE (by unfold jB;rw[hI,hE];rfl);exact this
     ·have:=go 1 rfl hI (by unfold jB;rw[hI];rfl);exact this
   ·refine⟨acc,k+1,false,cU hL hk h,?_,rfl⟩;cases m with
    |zero=>
     rw[gC];unfold ct;rw[h];exact Or.inl ⟨rfl,rfl⟩
    |succ m=>
     rw[gC,h];exact Or.inl ⟨rfl,rfl⟩
theorem aih{l:List ai}(hL:bW l)(hT:∀t∈l,t.Text.length<=30000){k:Nat}(hk:k<l.length)(b:Bool):
 ∃v k' b',k'<l.length/\At (RB b k (qA l k)) v k' b'/\M.uU (sp l k b)=some (v,sp l k' b'):=by
 obtain⟨v1,k1,b1,h1,a1,e1,-⟩:=uR hL hT hk b;obtain⟨k2,b2,h2,a2,e2⟩:=kg hL h1 [123] b1;obtain⟨vs,k3,b3,h3,a3,e3⟩:=aif hL hT [] v1 [] ad 16 [] k2 b2 (by have:=bz;omega) h2 rfl;refine⟨aJ.mk v1 vs,k3,b3,h3,a1.bN (a2.bN (a3.bN (At.ret _ _ _))),?_⟩;unfold M.uU;simp only[e1,e2,e3,ay,aB,al,ae];rfl
end M
namespace M
open Go.V (inB cg ad bz)
def qD:List UInt8:=[105,110,116,101,114,102,97,99,101]
def uV:List UInt8:=[119,111,114,108,100]
def Ab:List UInt8:=[112,97,99,107,97,103,101]
def fy(l:List ai):Nat->List aE->List aJ->Nat->PR (List aE×List aJ)
 |0,fs,ws,k=>bif(bV l k).Kind==4 then .ok (fs,ws) k else .no k
 |m+1,fs,ws,k=>bif(bV l k).Kind==4 then .ok (fs,ws) k
  else bif decide (((fs.length:Nat):Int)<8)&&aI l qD k then(l9 l (k+1)).bind fun f k1=>fy l m (fs++[f]) ws k1
  else bif decide (((ws.length:Nat):Int)<8)&&aI l uV k then(qA l (k+1)).bind fun w k1=>fy l m fs (ws++[w]) k1
  else .no k
def jd(l:List ai)(k:Nat):PR aj:=(ct l Ab k).bind fun _ k1=>(gW l k1).bind fun n k2=>(ct l [64] k2).bind fun _ k3=>(Ez l k3).bind fun v k4=>(ct l [59] k4).bind fun _ k5=>
 (fy l 16 [] [] k5).bind fun q k6=>.ok (aj.mk n v q.1 q.2) k6
theorem nI(l:List ai)(k:Nat):List.getD l (Int.toNat ((k:Nat):Int)) ai.zero=bV l k:=by rw[bw];rfl
theorem aii{l:List ai}(hL:bW l)(hT:∀t∈l,t.Text.length<=30000)(t2 t22 x x2:List UInt8)(o7:List aE)(o8:List aJ):∀(f m:Nat)(fs:List aE)(ws:List aJ)(k:Nat)(b:Bool),m+1<f->k<l.length->fs.length+ws.length+m=16->fs.length<=8->ws.length<=8->
 ∃v k' b',k'<l.length/\At (RB b k (fy l m fs ws k)) v k' b'/\M.jM t2 t22 x x2 o7 o8 f (ip l k b) fs ws=some (l,(k':Int),b',t2,t22,x,x2,o7,o8,v.1,v.2):=by
 have hend:∀(f k:Nat)(fs:List aE)(ws:List aJ),k<l.length->M.jM t2 t22 x x2 o7 o8 (f+1) (ip l k true) fs ws=some (l,(k:Int),true,t2,t22,x,x2,o7,o8,fs,ws):=fun f k fs ws hk=>by
  rw[M.jM];simp only[ie,kM,jL,lC,nI,kb hk,dT,cL,aR,cq,al,ae,df]
 intro f
 induction f with
 |zero=>intro m fs ws k b h;omega
 |succ f ih=>
  intro m fs ws k b hf hk hm hfs hws;obtain⟨f',rfl⟩:∃f',f=f'+1:=⟨f-1,by omega⟩;cases b with
  |true=>exact⟨(fs,ws),k,true,hk,At.no _ _ _,hend _ k fs ws hk⟩
  |false=>
   rw[M.jM];cases hK:((bV l k).Kind==4)
   ·have bad:fy l m fs ws k=.no k->∃v k' b',k'<l.length/\At (RB false k (fy l m fs ws k)) v k' b'/\M.jM t2 t22 x x2 o7 o8 (f'+1) (ip l k true) fs ws=some (l,(k':Int),b',t2,t22,x,x2,o7,o8,v.1,v.2):=fun e=>by
     rw[e];exact⟨(fs,ws),k,true,hk,Or.inr ⟨rfl,rfl⟩,hend _ k fs ws hk⟩
    have tF:=iQ hL hk (text:=[105,110,116,101,114,102,97,99,101]) (fun d r e=>by cases e;decide) false;have tW:=iQ hL hk (text:=[119,111,114,108,100]) (fun d r e=>by cases e;decide) false;rw[bu,bU]at tF tW;have Lu:fs.length<8->aI l [105,110,116,101,114,102,97,99,101] k=true->∃v1 k1 b1 v k' b',k'<l.length/\M.xl (ip l (k+1) false)=some (v1,ip l k1 b1)/\At (RB false k (fy l m fs ws k)) v k' b'/\M.jM t2 t22 x x2 o7 o8 (f'+1) (ip l k1 b1) (fs++[v1]) ws=some (l,(k':Int),b',t2,t22,x,x2,o7,o8,v.1,v.2):=fun h8 hB=>by
     obtain⟨v1,k1,b1,h1,a1,e1⟩:=aia hL hT (cU hL hk hB) false;obtain⟨m',rfl⟩:∃m',m=m'+1:=⟨m-1,by omega⟩;obtain⟨v,k',b',h2,a2,e2⟩:=ih m' (fs++[v1]) ws k1 b1 (by omega) h1 (by rw[aN,List.length_singleton];omega) (by rw[aN,List.length_singleton];omega) hws;refine⟨v1,k1,b1,v,k',b',h2,e1,?_,e2⟩;rw[fy,hK];unfold qD;rw[hB,da (show((fs.length:Nat):Int)<8 by omega)];exact At.bind (r:=l9 l (k+1)) a1 a2
    have world:(decide (((fs.length:Nat):Int)<8)&&aI l [105,110,116,101,114,102,97,99,101] k)=false->ws.length<8->aI l [119,111,114,108,100] k=true->∃v1 k1 b1 v k' b',k'<l.length/\M.uT (ip l (k+1) false)=some (v1,ip l k1 b1)/\At (RB false k (fy l m fs ws k)) v k' b'/\M.jM t2 t22 x x2 o7 o8 (f'+1) (ip l k1 b1) fs (ws++[v1])=some (l,(k':Int),b',t2,t22,x,x2,o7,o8,v.1,v.2):=fun hF h8 hB=>by
     obtain⟨v1,k1,b1,h1,a1,e1⟩:=aie hL hT (cU hL hk hB) false;obtain⟨m',rfl⟩:∃m',m=m'+1:=⟨m-1,by omega⟩;obtain⟨v,k',b',h2,a2,e2⟩:=ih m' fs (ws++[v1]) k1 b1 (by omega) h1 (by rw[aN,List.length_singleton];omega) hfs (by rw[aN,List.length_singleton];omega);refine⟨v1,k1,b1,v,k',b',h2,e1,?_,e2⟩;rw[fy,hK];unfold qD uV;rw[hF,hB,da (show((ws.length:Nat):Int)<8 by omega)];exact At.bind (r:=qA l (k+1)) a1 a2
    have nothing:(decide (((fs.length:Nat):Int)<8)&&aI l [105,110,116,101,114,102,97,99,101] k)=false->(decide (((ws.length:Nat):Int)<8)&&aI l [119,111,114,108,100] k)=false->fy l m fs ws k=.no k:=fun hF hW=>by
     cases m with
     |zero=>rw[fy,hK];rfl
     |succ m=>rw[fy,hK];unfold qD uV;rw[hF,hW];rfl
    have world':(decide (((fs.length:Nat):Int)<8)&&aI l [105,110,116,101,114,102,97,99,101] k)=false->∀dW:decide (((ws.length:Nat):Int)<8)=true,aI l [119,111,114,108,100] k=true->ws.length<8:=fun _ h _=>by
     have:=kZ h;omega
    cases dF:decide (((fs.length:Nat):Int)<8)
    ·rw[dF,cL]at world nothing;cases dW:decide (((ws.length:Nat):Int)<8)
     ·simp only[ie,kM,jL,lC,nI,kb hk,hK,dF,dW,bne,dT,bu,bU,dB,cL,ae,aR,ay,aB,df,al,iz,cq];exact bad (nothing rfl (by rw[dW];rfl))
     ·cases hW:aI l [119,111,114,108,100] k
      ·rw[hW]at tW;simp only[ie,kM,jL,lC,nI,kb hk,hK,dF,dW,bne,dT,bu,bU,dB,cL,ae,aR,ay,aB,df,al,iz,cq,tW];exact bad (nothing rfl (by rw[hW,Bool.and_false]))
      ·rw[hW]at tW;obtain⟨v1,k1,b1,v,k',b',h2,e1,a2,e2⟩:=world rfl (by have:=kZ dW;omega) hW;refine⟨v,k',b',h2,a2,?_⟩;simp only[ie,kM,jL,lC,nI,kb hk,hK,dF,dW,bne,dT,bu,bU,dB,cL,ae,aR,ay,aB,df,al,iz,cq,tW,e1,dH (show ws.length<=1000 by omega)];exact e2
    ·cases hF:aI l [105,110,116,101,114,102,97,99,101] k
     ·rw[hF]at tF;rw[hF,Bool.and_false]at world nothing;cases dW:decide (((ws.length:Nat):Int)<8)
      ·simp only[ie,kM,jL,lC,nI,kb hk,hK,dF,dW,bne,dT,bu,bU,dB,cL,ae,aR,ay,aB,df,al,iz,cq,tF];exact bad (nothing rfl (by rw[dW];rfl))
      ·cases hW:aI l [119,111,114,108,100] k
       ·rw[hW]at tW;simp only[ie,kM,jL,lC,nI,kb hk,hK,dF,dW,bne,dT,bu,bU,dB,cL,ae,aR,ay,aB,df,al,iz,cq,tF,tW];exact bad (nothing rfl (by rw[hW,Bool.and_false]))
       ·rw[hW]at tW;obtain⟨v1,k1,b1,v,k',b',h2,e1,a2,e2⟩:=world rfl (by have:=kZ dW;omega) hW;refine⟨v,k',b',h2,a2,?_⟩;simp only[ie,kM,jL,lC,nI,kb hk,hK,dF,dW,bne,dT,bu,bU,dB,cL,ae,aR,ay,aB,df,al,iz,cq,tF,tW,e1,dH (show ws.length<=1000 by omega)];exact e2
     ·rw[hF]at tF;obtain⟨v1,k1,b1,v,k',b',h2,e1,a2,e2⟩:=Lu (by have:=kZ dF;omega) hF;refine⟨v,k',b',h2,a2,?_⟩;simp only[ie,kM,jL,lC,nI,kb hk,hK,dF,bne,dT,bu,bU,dB,cL,ae,aR,ay,aB,df,al,iz,cq,tF,e1,dH (show fs.length<=1000 by omega)];exact e2
   ·refine⟨(fs,ws),k,false,hk,?_,?_⟩
    ·cases m<;>(rw[fy,hK];exact Or.inl ⟨rfl,rfl⟩)
    ·simp only[ie,kM,jL,lC,nI,kb hk,hK,bne,dT,bu,Bool.and_false,aR,ae,ay,aB,df,al,cq]
theorem aij{l:List ai}(hL:bW l)(hT:∀t∈l,t.Text.length<=30000)(t2 t22 x x2:List UInt8)(o7:List aE)(o8:List aJ):∀(f m:Nat)(fs:List aE)(ws:List aJ)(k:Nat)(b:Bool),m+1<f->k<l.length->fs.length+ws.length+m=16->fs.length<=8->ws.length<=8->
 ∃v k' b',k'<l.length/\At (RB b k (fy l m fs ws k)) v k' b'/\M.jN t2 t22 x x2 o7 o8 f (sp l k b) fs ws=some (l,(k':Int),b',t2,t22,x,x2,o7,o8,v.1,v.2):=by
 have hend:∀(f k:Nat)(fs:List aE)(ws:List aJ),k<l.length->M.jN t2 t22 x x2 o7 o8 (f+1) (sp l k true) fs ws=some (l,(k:Int),true,t2,t22,x,x2,o7,o8,fs,ws):=fun f k fs ws hk=>by
  rw[M.jN];simp only[iw,jb,jc,kf,lp hk,dT,cL,aR,cq,al,ae,df]
 intro f
 induction f with
 |zero=>intro m fs ws k b h;omega
 |succ f ih=>
  intro m fs ws k b hf hk hm hfs hws;obtain⟨f',rfl⟩:∃f',f=f'+1:=⟨f-1,by omega⟩;cases b with
  |true=>exact⟨(fs,ws),k,true,hk,At.no _ _ _,hend _ k fs ws hk⟩
  |false=>
   rw[M.jN];cases hK:((bV l k).Kind==4)
   ·have bad:fy l m fs ws k=.no k->∃v k' b',k'<l.length/\At (RB false k (fy l m fs ws k)) v k' b'/\M.jN t2 t22 x x2 o7 o8 (f'+1) (sp l k true) fs ws=some (l,(k':Int),b',t2,t22,x,x2,o7,o8,v.1,v.2):=fun e=>by
     rw[e];exact⟨(fs,ws),k,true,hk,Or.inr ⟨rfl,rfl⟩,hend _ k fs ws hk⟩
    have tF:=fg hL hk [105,110,116,101,114,102,97,99,101] false;have tW:=fg hL hk [119,111,114,108,100] false;rw[bu,bU]at tF tW;have Lu:fs.length<8->aI l [105,110,116,101,114,102,97,99,101] k=true->∃v1 k1 b1 v k' b',k'<l.length/\M.xm (sp l (k+1) false)=some (v1,sp l k1 b1)/\At (RB false k (fy l m fs ws k)) v k' b'/\M.jN t2 t22 x x2 o7 o8 (f'+1) (sp l k1 b1) (fs++[v1]) ws=some (l,(k':Int),b',t2,t22,x,x2,o7,o8,v.1,v.2):=fun h8 hB=>by
     obtain⟨v1,k1,b1,h1,a1,e1⟩:=aic hL hT (cU hL hk hB) false;obtain⟨m',rfl⟩:∃m',m=m'+1:=⟨m-1,by omega⟩;obtain⟨v,k',b',h2,a2,e2⟩:=ih m' (fs++[v1]) ws k1 b1 (by omega) h1 (by rw[aN,List.length_singleton];omega) (by rw[aN,List.length_singleton];omega) hws;refine⟨v1,k1,b1,v,k',b',h2,e1,?_,e2⟩;rw[fy,hK];unfold qD;rw[hB,da (show((fs.length:Nat):Int)<8 by omega)];exact At.bind (r:=l9 l (k+1)) a1 a2
    have world:(decide (((fs.length:Nat):Int)<8)&&aI l [105,110,116,101,114,102,97,99,101] k)=false->ws.length<8->aI l [119,111,114,108,100] k=true->∃v1 k1 b1 v k' b',k'<l.length/\M.uU (sp l (k+1) false)=some (v1,sp l k1 b1)/\At (RB false k (fy l m fs ws k)) v k' b'/\M.jN t2 t22 x x2 o7 o8 (f'+1) (sp l k1 b1) fs (ws++[v1])=some (l,(k':Int),b',t2,t22,x,x2,o7,o8,v.1,v.2):=fun hF h8 hB=>by
     obtain⟨v1,k1,b1,h1,a1,e1⟩:=aih hL hT (cU hL hk hB) false;obtain⟨m',rfl⟩:∃m',m=m'+1:=⟨m-1,by omega⟩;obtain⟨v,k',b',h2,a2,e2⟩:=ih m' fs (ws++[v1]) k1 b1 (by omega) h1 (by rw[aN,List.length_singleton];omega) hfs (by rw[aN,List.length_singleton];omega);refine⟨v1,k1,b1,v,k',b',h2,e1,?_,e2⟩;rw[fy,hK];unfold qD uV;rw[hF,hB,da (show((ws.length:Nat):Int)<8 by omega)];exact At.bind (r:=qA l (k+1)) a1 a2
    have nothing:(decide (((fs.length:Nat):Int)<8)&&aI l [105,110,116,101,114,102,97,99,101] k)=false->(decide (((ws.length:Nat):Int)<8)&&aI l [119,111,114,108,100] k)=false->fy l m fs ws k=.no k:=fun hF hW=>by
     cases m with
     |zero=>rw[fy,hK];rfl
     |succ m=>rw[fy,hK];unfold qD uV;rw[hF,hW];rfl
    have world':(decide (((fs.length:Nat):Int)<8)&&aI l [105,110,116,101,114,102,97,99,101] k)=false->∀dW:decide (((ws.length:Nat):Int)<8)=true,aI l [119,111,114,108,100] k=true->ws.length<8:=fun _ h _=>by
     have:=kZ h;omega
    cases dF:decide (((fs.length:Nat):Int)<8)
    ·rw[dF,cL]at world nothing;cases dW:decide (((ws.length:Nat):Int)<8)
     ·simp only[iw,jb,jc,kf,lp hk,hK,dF,dW,bne,dT,bu,bU,dB,cL,ae,aR,ay,aB,df,al,iz,cq];exact bad (nothing rfl (by rw[dW];rfl))
     ·cases hW:aI l [119,111,114,108,100] k
      ·rw[hW]at tW;simp only[iw,jb,jc,kf,lp hk,hK,dF,dW,bne,dT,bu,bU,dB,cL,ae,aR,ay,aB,df,al,iz,cq,tW];exact bad (nothing rfl (by rw[hW,Bool.and_false]))
      ·rw[hW]at tW;obtain⟨v1,k1,b1,v,k',b',h2,e1,a2,e2⟩:=world rfl (by have:=kZ dW;omega) hW;refine⟨v,k',b',h2,a2,?_⟩;simp only[iw,jb,jc,kf,lp hk,hK,dF,dW,bne,dT,bu,bU,dB,cL,ae,aR,ay,aB,df,al,iz,cq,tW,e1,dH (show ws.length<=1000 by omega)];exact e2
    ·cases hF:aI l [105,110,116,101,114,102,97,99,101] k
     ·rw[hF]at tF;rw[hF,Bool.and_false]at world nothing;cases dW:decide (((ws.length:Nat):Int)<8)
      ·simp only[iw,jb,jc,kf,lp hk,hK,dF,dW,bne,dT,bu,bU,dB,cL,ae,aR,ay,aB,df,al,iz,cq,tF];exact bad (nothing rfl (by rw[dW];rfl))
      ·cases hW:aI l [119,111,114,108,100] k
       ·rw[hW]at tW;simp only[iw,jb,jc,kf,lp hk,hK,dF,dW,bne,dT,bu,bU,dB,cL,ae,aR,ay,aB,df,al,iz,cq,tF,tW];exact bad (nothing rfl (by rw[hW,Bool.and_false]))
       ·rw[hW]at tW;obtain⟨v1,k1,b1,v,k',b',h2,e1,a2,e2⟩:=world rfl (by have:=kZ dW;omega) hW;refine⟨v,k',b',h2,a2,?_⟩;simp only[iw,jb,jc,kf,lp hk,hK,dF,dW,bne,dT,bu,bU,dB,cL,ae,aR,ay,aB,df,al,iz,cq,tF,tW,e1,dH (show ws.length<=1000 by omega)];exact e2
     ·rw[hF]at tF;obtain⟨v1,k1,b1,v,k',b',h2,e1,a2,e2⟩:=Lu (by have:=kZ dF;omega) hF;refine⟨v,k',b',h2,a2,?_⟩;simp only[iw,jb,jc,kf,lp hk,hK,dF,bne,dT,bu,bU,dB,cL,ae,aR,ay,aB,df,al,iz,cq,tF,e1,dH (show fs.length<=1000 by omega)];exact e2
   ·refine⟨(fs,ws),k,false,hk,?_,?_⟩
    ·cases m<;>(rw[fy,hK];exact Or.inl ⟨rfl,rfl⟩)
    ·simp only[iw,jb,jc,kf,lp hk,hK,bne,dT,bu,Bool.and_false,aR,ae,ay,aB,df,al,cq]
theorem aik{l:List ai}(hL:bW l)(hT:∀t∈l,t.Text.length<=30000){k:Nat}(hk:k<l.length)(b:Bool):
 ∃v k' b',k'<l.length/\At (RB b k (jd l k)) v k' b'/\M.Ac (ip l k b)=some (aj.Name v,aj.Version v,ip l k' b',aj.aF v,aj.Worlds v):=by
 obtain⟨k1,b1,h1,a1,e1⟩:=jy hL hk (t:=Ab) (fun d r e=>by cases e;decide) b;obtain⟨v2,k2,b2,h2,a2,e2,-⟩:=uQ hL hT h1 b1;obtain⟨k3,b3,h3,a3,e3⟩:=jy hL h2 (cT 64 (by decide)) b2;obtain⟨v4,k4,b4,h4,a4,e4,-⟩:=RE hL hT h3 b3;obtain⟨k5,b5,h5,a5,e5⟩:=jy hL h4 (cT 59 (by decide)) b4;obtain⟨v6,k6,b6,h6,a6,e6⟩:=aii hL hT [] [] v2 v4 [] [] ad 16 [] [] k5 b5 (by have:=bz;omega) h5 rfl (by simp) (by simp);refine⟨aj.mk v2 v4 v6.1 v6.2,k6,b6,h6,a1.bN (a2.bN (a3.bN (a4.bN (a5.bN (a6.bN (At.ret _ _ _)))))),?_⟩;unfold Ab at e1;unfold M.Ac;simp only[e1,e2,e3,e4,e5,e6,ay,aB,al,ae];rfl
theorem ail{l:List ai}(hL:bW l)(hT:∀t∈l,t.Text.length<=30000){k:Nat}(hk:k<l.length)(b:Bool):
 ∃v k' b',k'<l.length/\At (RB b k (jd l k)) v k' b'/\M.xn (sp l k b)=some (v,sp l k' b'):=by
 obtain⟨k1,b1,h1,a1,e1⟩:=kg hL hk Ab b;obtain⟨v2,k2,b2,h2,a2,e2,-⟩:=uR hL hT h1 b1;obtain⟨k3,b3,h3,a3,e3⟩:=kg hL h2 [64] b2;obtain⟨v4,k4,b4,h4,a4,e4,-⟩:=RF hL h3 b3;obtain⟨k5,b5,h5,a5,e5⟩:=kg hL h4 [59] b4;obtain⟨v6,k6,b6,h6,a6,e6⟩:=aij hL hT [] [] v2 v4 [] [] ad 16 [] [] k5 b5 (by have:=bz;omega) h5 rfl (by simp) (by simp);refine⟨aj.mk v2 v4 v6.1 v6.2,k6,b6,h6,a1.bN (a2.bN (a3.bN (a4.bN (a5.bN (a6.bN (At.ret _ _ _)))))),?_⟩;unfold Ab at e1;unfold M.xn;simp only[e1,e2,e3,e4,e5,e6,ay,aB,al,ae];rfl
end M
namespace M
open Go.V (inB cg ad bz)
theorem RL(s:List UInt8):∀(f a:Nat)(line:Int)(out:List ai)(y:Int×List ai),(∀t∈out,t.Text.length<=s.length)->jv s f a line out=.inr y->∀t∈y.2,t.Text.length<=s.length
 |0,a,line,out,y,ho,h=>by cases h
 |f+1,a,line,out,y,ho,h=>by
  unfold jv at h;split at h
  ·split at h
   ·cases h
   ·split at h
    ·cases h
    ·refine RL s f _ _ _ y (fun t ht=>?_) h;rcases dO.1 ht with q|q
     ·exact ho t q
     ·rw[fJ]at q;rw[q];show(nz s a _).length<=_
      unfold nz;rw[om,List.length_drop];omega
  ·cases h;exact ho
theorem RN(s:List UInt8):∀t∈(eA s).1,t.Text.length<=30000:=by
 unfold eA;split
 ·intro t h;cases h
 ·rename_i hl;have hs:=RL s ad (cF false s 1).1 (cF false s 1).2 [];generalize jv s ad (cF false s 1).1 (cF false s 1).2 []=r at*;cases r with
  |inl x=>intro t h;cases h
  |inr y=>
   intro t h;rcases dO.1 h with q|q
   ·have:=hs y (fun t q=>by cases q) rfl t q;omega
   ·rw[fJ]at q;rw[q];simp
theorem Lx(l:List ai):∀(m:Nat)(fs:List aE)(ws:List aJ)(k:Nat)(v:List aE×List aJ)(k':Nat),fy l m fs ws k=.ok v k'->(bV l k').Kind=4
 |0,fs,ws,k,v,k',h=>by
  rw[fy]at h;cases hK:((bV l k).Kind==4)<;>rw[hK]at h
  ·cases h
  ·cases h;exact cK.1 hK
 |m+1,fs,ws,k,v,k',h=>by
  rw[fy]at h;cases hK:((bV l k).Kind==4)<;>rw[hK]at h
  ·simp only[aR]at h;cases hF:(decide (((fs.length:Nat):Int)<8)&&aI l qD k)<;>rw[hF]at h
   ·simp only[aR]at h;cases hW:(decide (((ws.length:Nat):Int)<8)&&aI l uV k)<;>rw[hW]at h
    ·cases h
    ·simp only[ae]at h;cases hf:qA l (k+1)with
     |no q=>rw[hf]at h;cases h
     |ok w q=>rw[hf]at h;exact Lx l m _ _ _ _ _ h
   ·simp only[ae]at h;cases hf:l9 l (k+1)with
    |no q=>rw[hf]at h;cases h
    |ok w q=>rw[hf]at h;exact Lx l m _ _ _ _ _ h
  ·cases h;exact cK.1 hK
theorem bind_ok{α β:Type}{r:PR α}{f:α->Nat->PR β}{v:β}{k:Nat}(h:r.bind f=.ok v k):∃a k1,r=.ok a k1/\f a k1=.ok v k:=by
 cases r with
 |no q=>cases h
 |ok a q=>exact⟨a,q,rfl,h⟩
theorem aim(l:List ai)(k:Nat)(p:aj)(k':Nat)(h:jd l k=.ok p k'):(bV l k').Kind=4:=by
 unfold jd at h;obtain⟨_,_,_,h⟩:=bind_ok h;obtain⟨_,_,_,h⟩:=bind_ok h;obtain⟨_,_,_,h⟩:=bind_ok h;obtain⟨_,_,_,h⟩:=bind_ok h;obtain⟨_,_,_,h⟩:=bind_ok h;obtain⟨q,k6,h6,h⟩:=bind_ok h;cases h;exact Lx l _ _ _ _ _ _ h6
noncomputable def ix(s:List UInt8):(Int×Int)⊕aj:=
 if(eA s).2.2=0 then match jd (eA s).1 0 with
  |.no k=>.inl ((bV (eA s).1 k).Line,6)
  |.ok p _=>.inr p
 else .inl ((eA s).2.1,(eA s).2.2)
theorem RO(s:List UInt8):match ix s with
 |.inl e=>e.2≠0/\∃n v fs ws,M.oM s [] [] [] []=some (e.1,e.2,n,v,fs,ws)
 |.inr p=>M.oM s [] [] [] []=some (0,0,aj.Name p,aj.Version p,aj.aF p,aj.Worlds p):=by
 have ht:=ahv s;unfold ix;by_cases h0:(eA s).2.2=0
 ·rw[aY h0];have hL:=Lh s h0;have hT:=RN s;have e0:((eA s).2.2 !=0)=false:=by rw[bne_eq_false_iff_eq];exact h0
  obtain⟨p,k,b,hk,a,e⟩:=aik hL hT hL.pos false;have ew:∀n v fs ws,M.Ad (au.mk (eA s).1 0 false) n v fs ws=some (ip (eA s).1 k b,aj.Name p,aj.Version p,aj.aF p,aj.Worlds p):=fun n v fs ws=>by
   unfold M.Ad;rw[show au.mk (eA s).1 0 false=ip (eA s).1 0 false from rfl,e];rfl
  rcases a with⟨q1,q2⟩|⟨q1,q2⟩
  ·rw[show RB false 0 (jd (eA s).1 0)=jd (eA s).1 0 from rfl]at q1;have h4:=aim _ _ _ _ q1;rw[q1];have e4:((bV (eA s).1 k).Kind !=4)=false:=by rw[bne_eq_false_iff_eq];exact h4
   show M.oM s [] [] [] []=_
   unfold M.oM;simp only[ht,e0,ew,q2,ie,jL,nI,e4,kb hk,ay,aB,aR,ae,lV,cq,al]
  ·rw[show RB false 0 (jd (eA s).1 0)=jd (eA s).1 0 from rfl]at q1;rw[q1];refine⟨show(6:Int)≠0 by decide,aj.Name p,aj.Version p,aj.aF p,aj.Worlds p,?_⟩;unfold M.oM;simp only[ht,e0,ew,q2,ie,jL,nI,kb hk,ay,aB,aR,ae,cq,al]
 ·rw[aT h0];have e0:((eA s).2.2 !=0)=true:=by rw[yN];exact h0
  refine⟨h0,[],[],[],[],?_⟩;unfold M.oM;simp only[ht,e0,ay,aB,ae,al]
theorem ain(s:List UInt8)(c:aj->Bool)(hc:∀p,ix s=.inr p->M.xo p=some (c p)):M.sr s=some (match ix s with
 |.inl e=>(aj.mk [] [] [] [],e.1,e.2)
 |.inr p=>bif c p then(p,0,0)else(aj.mk [] [] [] [],0,1)):=by
 have ht:=ahu s;by_cases h0:(eA s).2.2=0
 ·have hL:=Lh s h0;have hT:=RN s;have e0:((eA s).2.2 !=0)=false:=by rw[bne_eq_false_iff_eq];exact h0
  obtain⟨p,k,b,hk,a,e⟩:=ail hL hT hL.pos false;have e':M.xn (aD.mk (eA s).1 0 false)=some (p,sp (eA s).1 k b):=e;rcases a with⟨q1,q2⟩|⟨q1,q2⟩
  ·rw[show RB false 0 (jd (eA s).1 0)=jd (eA s).1 0 from rfl]at q1;have hw:ix s=.inr p:=by unfold ix;rw[aY h0,q1]
   have hcp:=hc p hw;rw[hw];unfold M.sr;simp only[ht,e0,e',q2,iw,hcp,ay,aB,aR,al,ae];cases c p<;>rfl
  ·rw[show RB false 0 (jd (eA s).1 0)=jd (eA s).1 0 from rfl]at q1;have hw:ix s=.inl ((bV (eA s).1 k).Line,6):=by unfold ix;rw[aY h0,q1]
   rw[hw];unfold M.sr;simp only[ht,e0,e',q2,iw,lp hk,ay,aB,aR,al,ae]
 ·have hw:ix s=.inl ((eA s).2.1,(eA s).2.2):=by unfold ix;rw[aT h0]
  have e0:((eA s).2.2 !=0)=true:=by rw[yN];exact h0
  rw[hw];unfold M.sr;simp only[ht,e0,ay,aB,ae,al]
end M
namespace M
open Go.V (inB cg ad bz)
theorem dI{n k:Nat}(h:k<n):inB (k:Int) n=true:=by rw[dD];simpa using h
theorem twice_in(list:List (List UInt8))(hl:list.length<=1000000)(i:Nat)(hi:i<list.length):∀(f k:Nat),i-k<f->k<=i->
 ((∃j,k<=j/\j<i/\list.getD i []=list.getD j [])/\M.uW list (i:Int) f (k:Int)=some (.inl true))\/
 ((¬∃j,k<=j/\j<i/\list.getD i []=list.getD j [])/\M.uW list (i:Int) f (k:Int)=some (.inr (list,(i:Int))))
 |0,k,h,_=>by omega
 |f+1,k,h,hk=>by
  rw[M.uW];rcases cP k i with q|q
  ·rw[da (show((k:Nat):Int)<((i:Nat):Int) by omega)];simp only[bw,dI (show k<list.length by omega),dI hi,ae,al];have hw:Go.IntKind.wrap .i64 ((k:Int)+1)=((k+1:Nat):Int):=by rw[wrap_i64 (by omega) (by omega)];omega
   cases e:(list.getD i []==list.getD k [])
   ·have hne:list.getD i []≠list.getD k []:=cQ.1 e;simp only[aR,hw];rcases twice_in list hl i hi f (k+1) (by omega) (by omega)with⟨⟨j,h1,h2,h3⟩,e1⟩|⟨h1,e1⟩
    ·exact Or.inl ⟨⟨j,by omega,h2,h3⟩,e1⟩
    ·refine Or.inr ⟨fun⟨j,a,b,c⟩=>?_,e1⟩;rcases Nat.eq_or_lt_of_le a with z|z
     ·rw[<-z]at c;exact hne c
     ·exact h1 ⟨j,by omega,b,c⟩
   ·exact Or.inl ⟨⟨k,fh _,q,cK.1 e⟩,rfl⟩
  ·rw[cA (show ¬((k:Nat):Int)<((i:Nat):Int) by omega)];exact Or.inr ⟨fun⟨j,a,b,_⟩=>by omega,rfl⟩
theorem RP(list:List (List UInt8))(hl:list.length<=1000000):∀(f i:Nat),list.length-i<f->i<=list.length->
 ((∃a b,i<=a/\a<list.length/\b<a/\list.getD a []=list.getD b [])/\M.uX f list (i:Int)=some (.inl true))\/
 ((¬∃a b,i<=a/\a<list.length/\b<a/\list.getD a []=list.getD b [])/\M.uX f list (i:Int)=some (.inr ()))
 |0,i,h,_=>by omega
 |f+1,i,h,hi=>by
  rw[M.uX];rcases cP i list.length with q|q
  ·rw[da (show((i:Nat):Int)<((list.length:Nat):Int) by omega)];have hw:Go.IntKind.wrap .i64 ((i:Int)+1)=((i+1:Nat):Int):=by rw[wrap_i64 (by omega) (by omega)];omega
   rcases twice_in list hl i q ad 0 (by have:=bz;omega) (dN _)with⟨⟨j,h1,h2,h3⟩,e1⟩|⟨h1,e1⟩
   ·refine Or.inl ⟨⟨i,j,fh _,q,h2,h3⟩,?_⟩;rw[show((0:Nat):Int)=0 from rfl]at e1;simp only[ae,e1]
   ·rw[show((0:Nat):Int)=0 from rfl]at e1;simp only[ae,e1,hw];rcases RP list hl f (i+1) (by omega) (by omega)with⟨⟨a,b,x1,x2,x3,x4⟩,e2⟩|⟨h2,e2⟩
    ·exact Or.inl ⟨⟨a,b,by omega,x2,x3,x4⟩,e2⟩
    ·refine Or.inr ⟨fun⟨a,b,x1,x2,x3,x4⟩=>?_,e2⟩;rcases Nat.eq_or_lt_of_le x1 with z|z
     ·rw[<-z]at x3 x4;exact h1 ⟨b,dN _,x3,x4⟩
     ·exact h2 ⟨a,b,by omega,x2,x3,x4⟩
  ·rw[cA (show ¬((i:Nat):Int)<((list.length:Nat):Int) by omega)];exact Or.inr ⟨fun⟨a,b,x1,x2,_,_⟩=>by omega,rfl⟩
theorem EJ(list:List (List UInt8))(hl:list.length<=1000000):M.su list=some (!nodupB list):=by
 unfold M.su;have h:=RP list hl ad 0 (by have:=bz;omega) (dN _);rw[show((0:Nat):Int)=0 from rfl]at h;rcases h with⟨⟨a,b,_,x2,x3,x4⟩,e⟩|⟨h1,e⟩
 ·have:nodupB list=false:=by
   rw[Bool.eq_false_iff];intro hn;have hn:=(EK list).1 hn;have:=uc.1 hn b a (by omega) x2 x3;rw[gn,gn,cH x2,cH (show b<list.length by omega)]at x4;exact this x4.symm
  simp only[e,this,bu]
 ·have:nodupB list=true:=by
   rw[EK];refine uc.2 fun i j hi hj hij e2=>h1 ⟨j,i,dN _,hj,hij,?_⟩
   rw[gn,gn,cH hj,cH hi];exact e2.symm
  simp only[e,this,dT]
end M
namespace M
open Go.V (inB cg ad bz)
def nJ(u:aM):List UInt8:=bif !(u.As==[])then u.As else u.Name
def typeOf(x:ah):List (List UInt8):=bif x.Kind==3 then[]else bif x.Kind==4 then x.Uses.map nJ else[x.Name]
def funcOf(x:ah):List (List UInt8):=bif x.Kind==3 then[x.Name]else[]
def je(xs:List ah):List (List UInt8):=(xs.map typeOf).flatten
def jf(xs:List ah):List (List UInt8):=(xs.map funcOf).flatten
theorem aio(u:aM):M.Ae u=some (nJ u):=by
 unfold M.Ae nJ;cases (!(u.As==[]))<;>rfl
theorem aip(u:aM):M.Af u=some (nJ u):=by
 unfold M.Af nJ;cases (!(u.As==[]))<;>rfl
theorem dz{α:Type}{l:List α}{k:Nat}(d:α)(h:k<l.length):List.getD l k d=l[k]:=by
 rw[gn,cH h];rfl
theorem jg{α:Type}{l:List α}{k:Nat}(h:k<l.length):l.drop k=l[k]::l.drop (k+1):=List.drop_eq_getElem_cons h
theorem eS{k n:Nat}(h:k<n):decide ((k:Int)<(n:Int))=true:=da (by omega)
theorem jD{k n:Nat}(h:n<=k):decide ((k:Int)<(n:Int))=false:=cA (by omega)
theorem oN{k:Nat}(h:k<=1000000):Go.IntKind.wrap .i64 ((k:Int)+1)=((k+1:Nat):Int):=by rw[wrap_i64 (by omega) (by omega)];omega
theorem RQ{t18:List aE}{t19 t20:Int}{t27:List ah}{t28 t29:Int}{x:aj}{f:aE}{faces worlds funcs:List (List UInt8)}(us:List aM)(hU:us.length<=1000):∀(n k:Nat)(types:List (List UInt8)),us.length-k<n->k<=us.length->types.length+(us.length-k)<=1000->
 M.xp t18 t19 t20 t27 t28 t29 us ((us.length:Nat):Int) x f faces worlds funcs n (k:Int) types=some (t18,t19,t20,t27,t28,t29,x,f,faces,worlds,funcs,types++(us.drop k).map nJ)
 |0,k,types,h,_,_=>by omega
 |n+1,k,types,h,hk,hb=>by
  rw[M.xp];rcases cP k us.length with q|q
  ·have:=RQ (t18:=t18) (t19:=t19) (t20:=t20) (t27:=t27) (t28:=t28) (t29:=t29) (x:=x) (f:=f) (faces:=faces) (worlds:=worlds) (funcs:=funcs) us hU n (k+1) (types++[nJ us[k]]) (by omega) (by omega) (by rw[aN,List.length_singleton];omega);simp only[eS q,bw,dz _ q,aio,ay,aB,dH (show types.length<=1000 by omega),dI q,al,ae,oN (show k<=1000000 by omega),this];rw[jg q,eG,fO,List.singleton_append]
  ·simp only[jD q,aR];rw[List.drop_eq_nil_of_le q,List.map_nil,ue]
theorem RR{t18:List aE}{t19 t20:Int}{x:aj}{f:aE}{faces worlds:List (List UInt8)}(xs:List ah)(hX:xs.length<=1000)(hu:∀i∈xs,i.Uses.length<=16):∀(n k:Nat)(funcs types:List (List UInt8)),xs.length-k<n->k<=xs.length->types.length+17*(xs.length-k)<=1000->funcs.length+(xs.length-k)<=1000->
 M.sw n t18 t19 t20 xs ((xs.length:Nat):Int) (k:Int) x f faces worlds funcs types=some (t18,t19,t20,x,f,faces,worlds,funcs++jf (xs.drop k),types++je (xs.drop k))
 |0,k,_,_,h,_,_,_=>by omega
 |n+1,k,funcs,types,h,hk,hb,hc=>by
  rw[M.sw];rcases cP k xs.length with q|q
  ·have hx:=hu xs[k] (cE q);have ih:=fun fs ts=>RR (t18:=t18) (t19:=t19) (t20:=t20) (x:=x) (f:=f) (faces:=faces) (worlds:=worlds) xs hX hu n (k+1) fs ts (by omega) (by omega)
   have eF:jf (xs.drop k)=funcOf xs[k]++jf (xs.drop (k+1)):=by unfold jf;rw[jg q];rfl
   have eT:je (xs.drop k)=typeOf xs[k]++je (xs.drop (k+1)):=by unfold je;rw[jg q];rfl
   rw[eF,eT];unfold funcOf typeOf;simp only[eS q,bw,dz _ q,ae,dI q,al,oN (show k<=1000000 by omega)];cases h3:(xs[k].Kind==(3:Int))
   ·cases h4:(xs[k].Kind==(4:Int))
    ·have:=ih funcs (types++[xs[k].Name]) (by rw[aN,List.length_singleton];omega) (by omega);simp only[aR,ae,dH (show types.length<=1000 by omega),al,this,fB,fO]
    ·have hm:=RQ (t18:=t18) (t19:=t19) (t20:=t20) (t27:=xs) (t28:=((xs.length:Nat):Int)) (t29:=((k:Nat):Int)) (x:=x) (f:=f) (faces:=faces) (worlds:=worlds) (funcs:=funcs) xs[k].Uses (by omega) ad 0 types (by have:=bz;omega) (dN _) (by omega);rw[show((0:Nat):Int)=0 from rfl,lR]at hm;have:=ih funcs (types++xs[k].Uses.map nJ) (by rw[aN,fq];omega) (by omega);simp only[aR,ae,hm,oN (show k<=1000000 by omega),this,fB,fO]
   ·have:=ih (funcs++[xs[k].Name]) types (by omega) (by rw[aN,List.length_singleton];omega);simp only[ae,dH (show funcs.length<=1000 by omega),al,this,fB,fO]
  ·simp only[jD q,aR];rw[List.drop_eq_nil_of_le q];simp[jf,je]
theorem RS{i:Int}{f:aE}{funcs:List (List UInt8)}(x:ah)(hU:x.Uses.length<=1000):∀(n k:Nat)(types:List (List UInt8)),x.Uses.length-k<n->k<=x.Uses.length->types.length+(x.Uses.length-k)<=1000->
 M.xq i f funcs n (k:Int) x types=some (i,f,types++(x.Uses.drop k).map nJ,funcs)
 |0,k,types,h,_,_=>by omega
 |n+1,k,types,h,hk,hb=>by
  rw[M.xq];rcases cP k x.Uses.length with q|q
  ·have:=RS (i:=i) (f:=f) (funcs:=funcs) x hU n (k+1) (types++[nJ x.Uses[k]]) (by omega) (by omega) (by rw[aN,List.length_singleton];omega);simp only[eS q,bw,dz _ q,aip,ay,aB,dH (show types.length<=1000 by omega),dI q,al,ae,oN (show k<=1000000 by omega),ah.aC,this];rw[jg q,eG,fO,List.singleton_append]
  ·simp only[jD q,aR];rw[List.drop_eq_nil_of_le q,List.map_nil,ue]
theorem RU(f:aE)(hX:f.Items.length<=1000)(hu:∀i∈f.Items,i.Uses.length<=16/\1<=i.Kind/\i.Kind<=4):∀(n k:Nat)(funcs types:List (List UInt8)),f.Items.length-k<n->k<=f.Items.length->types.length+17*(f.Items.length-k)<=1000->funcs.length+(f.Items.length-k)<=1000->
 M.qE n (k:Int) f types funcs=some (types++je (f.Items.drop k),funcs++jf (f.Items.drop k))
 |0,k,_,_,h,_,_,_=>by omega
 |n+1,k,funcs,types,h,hk,hb,hc=>by
  rw[M.qE];rcases cP k f.Items.length with q|q
  ·have hx:=hu f.Items[k] (cE q);have ih:=fun fs ts=>RU f hX hu n (k+1) fs ts (by omega) (by omega)
   have eF:jf (f.Items.drop k)=funcOf f.Items[k]++jf (f.Items.drop (k+1)):=by unfold jf;rw[jg q];rfl
   have eT:je (f.Items.drop k)=typeOf f.Items[k]++je (f.Items.drop (k+1)):=by unfold je;rw[jg q];rfl
   rw[eF,eT];unfold funcOf typeOf;simp only[eS q,bw,dz _ q,ae,dI q,al,cq,oN (show k<=1000000 by omega),ah.aC];have hkd:f.Items[k].Kind=1\/f.Items[k].Kind=2\/f.Items[k].Kind=3\/f.Items[k].Kind=4:=by omega
   rcases hkd with e|e|e|e
   ·have:=ih funcs (types++[f.Items[k].Name]) (by rw[aN,List.length_singleton];omega) (by omega);rw[e];simp only[Int.reduceBEq,aR,ae,dH (show types.length<=1000 by omega),al,this,fB,fO]
   ·have:=ih funcs (types++[f.Items[k].Name]) (by rw[aN,List.length_singleton];omega) (by omega);rw[e];simp only[Int.reduceBEq,aR,ae,dH (show types.length<=1000 by omega),al,this,fB,fO]
   ·have:=ih (funcs++[f.Items[k].Name]) types (by omega) (by rw[aN,List.length_singleton];omega);rw[e];simp only[Int.reduceBEq,aR,ae,dH (show funcs.length<=1000 by omega),al,this,fB,fO]
   ·have hm:=RS (i:=((k:Nat):Int)) (f:=f) (funcs:=funcs) f.Items[k] (by omega) ad 0 types (by have:=bz;omega) (dN _) (by omega);rw[show((0:Nat):Int)=0 from rfl,lR]at hm;have:=ih funcs (types++f.Items[k].Uses.map nJ) (by rw[aN,fq];omega) (by omega);rw[e];simp only[Int.reduceBEq,aR,ae,hm,oN (show k<=1000000 by omega),this,fB,fO]
  ·simp only[jD q,aR];rw[List.drop_eq_nil_of_le q];simp[jf,je]
end M
namespace M
open Go.V (inB cg ad bz)
def xr(f:aE):Prop:=f.Items.length<=16/\∀i∈f.Items,i.Uses.length<=16/\1<=i.Kind/\i.Kind<=4
def EL(p:aj):Prop:=p.aF.length<=8/\p.Worlds.length<=8/\∀f∈p.aF,xr f
def uY(f:aE):Bool:=nodupB (je f.Items)&&nodupB (jf f.Items)
def qF(p:aj):Bool:=p.aF.all uY&&(nodupB (p.aF.map (·.Name))&&nodupB (p.Worlds.map (·.Name)))
theorem Ly:∀(xs:List ah),(∀i∈xs,i.Uses.length<=16)->(je xs).length<=17*xs.length
 |[],_=>fh _
 |x::r,h=>by
  have h1:=h x (by simp);have h2:=Ly r fun i hi=>h i (by simp[hi])
  have e:je (x::r)=typeOf x++je r:=rfl;rw[e,aN,ak];have:(typeOf x).length<=16:=by
   unfold typeOf;cases (x.Kind==3)
   ·cases (x.Kind==4)
    ·simp
    ·simpa using h1
   ·simp
  omega
theorem LA:∀(xs:List ah),(jf xs).length<=xs.length
 |[]=>fh _
 |x::r=>by
  have h2:=LA r;have e:jf (x::r)=funcOf x++jf r:=rfl;rw[e,aN,ak];have:(funcOf x).length<=1:=by
   unfold funcOf;cases (x.Kind==3)<;>simp
  omega
theorem RV{x:aj}{worlds:List (List UInt8)}(fs:List aE)(hX:fs.length<=8)(hf:∀f∈fs,xr f):∀(n k:Nat)(faces:List (List UInt8)),fs.length-k<n->k<=fs.length->faces.length+(fs.length-k)<=1000->
 M.xt n fs ((fs.length:Nat):Int) (k:Int) x faces worlds=some (bif(fs.drop k).all uY then .inr (x,faces++(fs.drop k).map (·.Name),worlds)else .inl false)
 |0,k,faces,h,_,_=>by omega
 |n+1,k,faces,h,hk,hb=>by
  rw[M.xt];rcases cP k fs.length with q|q
  ·obtain⟨hf1,hf2⟩:=hf fs[k] (cE q);have hu:=fun i hi=>(hf2 i hi).1
   have hm:=RR (t18:=fs) (t19:=((fs.length:Nat):Int)) (t20:=((k:Nat):Int)) (x:=x) (f:=fs[k]) (faces:=faces) (worlds:=worlds) fs[k].Items (by omega) hu ad 0 [] [] (by have:=bz;omega) (dN _) (by simp;omega) (by simp;omega);rw[show((0:Nat):Int)=0 from rfl,lR,fB,fB]at hm;have l1:=Ly fs[k].Items hu;have l2:=LA fs[k].Items;have d1:=EM (je fs[k].Items) (by omega);have d2:=EM (jf fs[k].Items) (by omega);have ih:=RV (x:=x) (worlds:=worlds) fs hX hf n (k+1) (faces++[fs[k].Name]) (by omega) (by omega) (by rw[aN,List.length_singleton];omega);rw[jg q,mj];simp only[eS q,bw,dz _ q,ae,hm,d1,d2,ay,aB,cq,dI q,al,oN (show k<=1000000 by omega),dH (show faces.length<=1000 by omega),ih];unfold uY;cases nodupB (jf fs[k].Items)
   ·simp only[bu,cq,ae,Bool.and_false,cL,aR]
   ·cases nodupB (je fs[k].Items)
    ·simp only[bu,dT,iz,ae,cL,aR]
    ·simp only[dT,lV,aR,al,bU,eG,fO,List.singleton_append]
  ·simp only[jD q,aR];rw[List.drop_eq_nil_of_le q];simp
theorem RX{faces:List (List UInt8)}(ws:List aJ)(hX:ws.length<=8):∀(n k:Nat)(worlds:List (List UInt8)),ws.length-k<n->k<=ws.length->worlds.length+(ws.length-k)<=1000->
 M.xu ws ((ws.length:Nat):Int) faces n (k:Int) worlds=some (faces,worlds++(ws.drop k).map (·.Name))
 |0,k,_,h,_,_=>by omega
 |n+1,k,worlds,h,hk,hb=>by
  rw[M.xu];rcases cP k ws.length with q|q
  ·have ih:=RX (faces:=faces) ws hX n (k+1) (worlds++[ws[k].Name]) (by omega) (by omega) (by rw[aN,List.length_singleton];omega);simp only[eS q,bw,dz _ q,ae,dI q,al,oN (show k<=1000000 by omega),dH (show worlds.length<=1000 by omega),ih];rw[jg q,eG,fO,List.singleton_append]
  ·simp only[jD q,aR];rw[List.drop_eq_nil_of_le q];simp
theorem aiq(p:aj)(hp:EL p):M.Ag p=some (qF p):=by
 obtain⟨h1,h2,h3⟩:=hp;have e1:=RV (x:=p) (worlds:=[]) p.aF h1 h3 ad 0 [] (by have:=bz;omega) (dN _) (by simp;omega);have e2:=RX (faces:=p.aF.map (·.Name)) p.Worlds h2 ad 0 [] (by have:=bz;omega) (dN _) (by simp;omega);rw[show((0:Nat):Int)=0 from rfl,lR,fB]at e1 e2;have d1:=EM (p.aF.map (·.Name)) (by rw[fq];omega);have d2:=EM (p.Worlds.map (·.Name)) (by rw[fq];omega);unfold M.Ag qF;rw[e1];cases p.aF.all uY
 ·rfl
 ·simp only[ae,e2,d1,d2,ay,aB,cq,al,bU]
theorem air(f:aE)(hf:xr f):M.Ah f=some (je f.Items,jf f.Items):=by
 have hm:=RU f (by have:=hf.1;omega) hf.2 ad 0 [] [] (by have:=bz;have:=hf.1;omega) (dN _) (by simp;have:=hf.1;omega) (by simp;have:=hf.1;omega);rw[show((0:Nat):Int)=0 from rfl,lR,fB,fB]at hm;unfold M.Ah;simp only[hm]
theorem RY(x:aj){worlds:List (List UInt8)}(hX:x.aF.length<=8)(hf:∀f∈x.aF,xr f):∀(n k:Nat)(faces:List (List UInt8)),x.aF.length-k<n->k<=x.aF.length->faces.length+(x.aF.length-k)<=1000->
 M.xw x worlds n (k:Int) faces=some (bif(x.aF.drop k).all uY then .inr (x,faces++(x.aF.drop k).map (·.Name),worlds)else .inl false)
 |0,k,faces,h,_,_=>by omega
 |n+1,k,faces,h,hk,hb=>by
  rw[M.xw];rcases cP k x.aF.length with q|q
  ·have hfk:=hf x.aF[k] (cE q);have hu:=fun i hi=>(hfk.2 i hi).1
   have l1:=Ly x.aF[k].Items hu;have l2:=LA x.aF[k].Items;have l3:=hfk.1;have d1:=EJ (je x.aF[k].Items) (by omega);have d2:=EJ (jf x.aF[k].Items) (by omega);have ih:=RY x (worlds:=worlds) hX hf n (k+1) (faces++[x.aF[k].Name]) (by omega) (by omega) (by rw[aN,List.length_singleton];omega);rw[jg q,mj];simp only[eS q,bw,dz _ q,ae,air _ hfk,d1,d2,ay,aB,cq,dI q,al,oN (show k<=1000000 by omega),dH (show faces.length<=1000 by omega),ih];unfold uY;cases nodupB (je x.aF[k].Items)
   ·simp only[bu,cq,ae,Bool.and_false,cL,aR]
   ·cases nodupB (jf x.aF[k].Items)
    ·simp only[bu,dT,iz,ae,Bool.and_false,cL,aR]
    ·simp only[dT,lV,aR,al,bU,eG,fO,List.singleton_append]
  ·simp only[jD q,aR];rw[List.drop_eq_nil_of_le q];simp
theorem RZ(x:aj){faces:List (List UInt8)}(hX:x.Worlds.length<=8):∀(n k:Nat)(worlds:List (List UInt8)),x.Worlds.length-k<n->k<=x.Worlds.length->worlds.length+(x.Worlds.length-k)<=1000->
 M.xx x faces n (k:Int) worlds=some (faces,worlds++(x.Worlds.drop k).map (·.Name))
 |0,k,_,h,_,_=>by omega
 |n+1,k,worlds,h,hk,hb=>by
  rw[M.xx];rcases cP k x.Worlds.length with q|q
  ·have ih:=RZ x (faces:=faces) hX n (k+1) (worlds++[x.Worlds[k].Name]) (by omega) (by omega) (by rw[aN,List.length_singleton];omega);simp only[eS q,bw,dz _ q,ae,dI q,al,oN (show k<=1000000 by omega),dH (show worlds.length<=1000 by omega),ih];rw[jg q,eG,fO,List.singleton_append]
  ·simp only[jD q,aR];rw[List.drop_eq_nil_of_le q];simp
theorem ais(p:aj)(hp:EL p):M.xo p=some (qF p):=by
 obtain⟨h1,h2,h3⟩:=hp;have e1:=RY p (worlds:=[]) h1 h3 ad 0 [] (by have:=bz;omega) (dN _) (by simp;omega);have e2:=RZ p (faces:=p.aF.map (·.Name)) h2 ad 0 [] (by have:=bz;omega) (dN _) (by simp;omega);rw[show((0:Nat):Int)=0 from rfl,lR,fB]at e1 e2;have d1:=EJ (p.aF.map (·.Name)) (by rw[fq];omega);have d2:=EJ (p.Worlds.map (·.Name)) (by rw[fq];omega);unfold M.xo qF;rw[e1];cases p.aF.all uY
 ·rfl
 ·simp only[ae,e2,d1,d2,ay,aB,cq,al,bU,Bool.not_not]
end M
namespace M
open Go.V (inB cg ad bz)
theorem uZ{α:Type}{P:α->Prop}(l:List ai)(el:Nat->PR α)(he:∀k v k',el k=.ok v k'->P v):∀(m:Nat)(acc:List α)(k:Nat)(vs:List α)(k':Nat),(∀v∈acc,P v)->dV l el m acc k=.ok vs k'->vs.length<=acc.length+m+1/\∀v∈vs,P v
 |m,acc,k,vs,k',ha,h=>by
  rw[dV.eq_def]at h;dsimp only at h;have one:∀v k1,el k=.ok v k1->∀w∈acc++[v],P w:=fun v k1 e w hw=>by
   rcases dO.1 hw with q|q
   ·exact ha w q
   ·rw[fJ.1 q];exact he _ _ _ e
  cases hk:el k with
  |no q=>rw[hk]at h;cases h
  |ok v k1=>
   rw[hk]at h;cases m with
   |zero=>
    cases h;exact⟨by rw[aN,List.length_singleton];omega,one v _ hk⟩
   |succ m=>
    simp only at h;cases hc:aI l [44] k1<;>rw[hc]at h
    ·cases h;exact⟨by rw[aN,List.length_singleton];omega,one v _ hk⟩
    ·have:=uZ l el he m (acc++[v]) (k1+1) vs k' (one v k1 hk) h;rw[aN,List.length_singleton]at this;exact⟨by omega,this.2⟩
theorem Ai{α:Type}{P:α->Prop}(l:List ai)(el:Nat->PR α)(he:∀k v k',el k=.ok v k'->P v):∀(m:Nat)(acc:List α)(k:Nat)(vs:List α)(k':Nat),(∀v∈acc,P v)->gC l el m acc k=.ok vs k'->vs.length<=acc.length+m/\∀v∈vs,P v
 |0,acc,k,vs,k',ha,h=>by
  rw[gC]at h;obtain⟨_,_,_,h⟩:=bind_ok h;cases h;exact⟨by omega,ha⟩
 |m+1,acc,k,vs,k',ha,h=>by
  rw[gC]at h;cases hc:aI l [125] k<;>rw[hc]at h
  ·obtain⟨v,k1,hk,h⟩:=bind_ok h;have:=Ai l el he m (acc++[v]) k1 vs k' (fun w hw=>by
    rcases dO.1 hw with q|q
    ·exact ha w q
    ·rw[fJ.1 q];exact he _ _ _ hk) h
   rw[aN,List.length_singleton]at this;exact⟨by omega,this.2⟩
  ·cases h;exact⟨by omega,ha⟩
theorem Aj{P:aE->Prop}{Q:aJ->Prop}(l:List ai)(hP:∀k v k',l9 l k=.ok v k'->P v)(hQ:∀k v k',qA l k=.ok v k'->Q v):∀(m:Nat)(fs:List aE)(ws:List aJ)(k:Nat)(v:List aE×List aJ)(k':Nat),
 fs.length<=8->ws.length<=8->(∀f∈fs,P f)->(∀w∈ws,Q w)->fy l m fs ws k=.ok v k'->v.1.length<=8/\v.2.length<=8/\(∀f∈v.1,P f)/\∀w∈v.2,Q w
 |0,fs,ws,k,v,k',h1,h2,h3,h4,h=>by
  rw[fy]at h;cases hK:((bV l k).Kind==4)<;>rw[hK]at h
  ·cases h
  ·cases h;exact⟨h1,h2,h3,h4⟩
 |m+1,fs,ws,k,v,k',h1,h2,h3,h4,h=>by
  rw[fy]at h;cases hK:((bV l k).Kind==4)<;>rw[hK]at h
  ·simp only[aR]at h;cases hF:(decide (((fs.length:Nat):Int)<8)&&aI l qD k)<;>rw[hF]at h
   ·simp only[aR]at h;cases hW:(decide (((ws.length:Nat):Int)<8)&&aI l uV k)<;>rw[hW]at h
    ·cases h
    ·simp only[ae]at h;obtain⟨w,k1,hk,h⟩:=bind_ok h;have h8:=kZ (Bool.and_eq_true_iff.1 hW).1;exact Aj l hP hQ m fs (ws++[w]) k1 v k' h1 (by rw[aN,List.length_singleton];omega) h3 (fun x hx=>by
      rcases dO.1 hx with q|q
      ·exact h4 x q
      ·rw[fJ.1 q];exact hQ _ _ _ hk) h
   ·simp only[ae]at h;obtain⟨f,k1,hk,h⟩:=bind_ok h;have h8:=kZ (Bool.and_eq_true_iff.1 hF).1;exact Aj l hP hQ m (fs++[f]) ws k1 v k' (by rw[aN,List.length_singleton];omega) h2 (fun x hx=>by
     rcases dO.1 hx with q|q
     ·exact h3 x q
     ·rw[fJ.1 q];exact hP _ _ _ hk) h4 h
  ·cases h;exact⟨h1,h2,h3,h4⟩
theorem ait(l:List ai)(nm:List UInt8)(k:Nat)(v:ah)(k':Nat)(h:nD l nm k=.ok v k'):v.Kind=3/\v.Uses=[]:=by
 have:∀as k,qz l nm as k=.ok v k'->v.Kind=3/\v.Uses=[]:=fun as k h=>by
  unfold qz at h;obtain⟨_,_,_,h⟩:=bind_ok h;obtain⟨_,_,_,h⟩:=bind_ok h;obtain⟨_,_,_,h⟩:=bind_ok h;cases h;exact⟨rfl,rfl⟩
 unfold nD at h;cases hc:aI l qy k<;>rw[hc]at h<;>exact this _ _ h
theorem aiu(l:List ai)(k:Nat)(v:ah)(k':Nat)(h:ki l k=.ok v k'):v.Uses.length<=16/\1<=v.Kind/\v.Kind<=4:=by
 unfold ki nE at h;obtain⟨x,k1,hx,h⟩:=bind_ok h;obtain⟨_,_,_,h⟩:=bind_ok h;cases h;obtain⟨nm,k2,_,hx⟩:=bind_ok hx;unfold kN at hx;cases jA:aI l [58] k2<;>rw[jA]at hx
 ·cases hR:(nm==mM)<;>rw[hR]at hx
  ·cases hY:(nm==oK)<;>rw[hY]at hx
   ·cases hU:(nm==oL)<;>rw[hU]at hx
    ·cases hx
    ·simp only[ae,aR]at hx;unfold xg at hx;obtain⟨_,_,_,hx⟩:=bind_ok hx;obtain⟨_,_,_,hx⟩:=bind_ok hx;obtain⟨_,_,_,hx⟩:=bind_ok hx;obtain⟨us,_,hu,hx⟩:=bind_ok hx;obtain⟨_,_,_,hx⟩:=bind_ok hx;cases hx;have:=(uZ (P:=fun _=>True) l _ (fun _ _ _ _=>trivial) 15 [] _ us _ (fun _ _=>trivial) hu).1;exact⟨by simpa using this,by show(1:Int)<=4;decide,by show(4:Int)<=4;decide⟩
   ·simp only[ae,aR]at hx;obtain⟨_,_,_,hx⟩:=bind_ok hx;obtain⟨_,_,_,hx⟩:=bind_ok hx;obtain⟨_,_,_,hx⟩:=bind_ok hx;cases hx;exact⟨by simp,by show(1:Int)<=2;decide,by show(2:Int)<=4;decide⟩
  ·simp only[ae,aR]at hx;obtain⟨_,_,_,hx⟩:=bind_ok hx;cases hx;exact⟨by simp,by show(1:Int)<=1;decide,by show(1:Int)<=4;decide⟩
 ·obtain⟨e1,e2⟩:=ait l _ _ _ _ hx;rw[e1,e2];exact⟨by simp,by decide,by decide⟩
theorem aiv(l:List ai)(k:Nat)(v:aE)(k':Nat)(h:l9 l k=.ok v k'):xr v:=by
 unfold l9 at h;obtain⟨_,_,_,h⟩:=bind_ok h;obtain⟨_,_,_,h⟩:=bind_ok h;obtain⟨xs,_,hx,h⟩:=bind_ok h;cases h;have:=Ai (P:=fun v:ah=>v.Uses.length<=16/\1<=v.Kind/\v.Kind<=4) l (ki l) (aiu l) 16 [] _ xs _ (by simp) hx;exact⟨by simpa using this.1,this.2⟩
theorem aiw(l:List ai)(k:Nat)(p:aj)(k':Nat)(h:jd l k=.ok p k'):EL p:=by
 unfold jd at h;obtain⟨_,_,_,h⟩:=bind_ok h;obtain⟨_,_,_,h⟩:=bind_ok h;obtain⟨_,_,_,h⟩:=bind_ok h;obtain⟨_,_,_,h⟩:=bind_ok h;obtain⟨_,_,_,h⟩:=bind_ok h;obtain⟨q,k6,h6,h⟩:=bind_ok h;cases h;have:=Aj (P:=xr) (Q:=fun _=>True) l (aiv l) (fun _ _ _ _=>trivial) 16 [] [] _ q _ (by simp) (by simp) (by simp) (by simp) h6;exact⟨this.1,this.2.1,this.2.2.1⟩
theorem R7(s:List UInt8)(p:aj)(h:ix s=.inr p):EL p:=by
 unfold ix at h;split at h
 ·split at h
  ·cases h
  ·rename_i hp;cases h;exact aiw _ _ _ _ hp
 ·cases h
def noPack:aj:=aj.mk [] [] [] []
noncomputable def mN(s:List UInt8):aj×Int×Int:=match ix s with
 |.inl e=>(noPack,e.1,e.2)
 |.inr p=>bif qF p then(p,0,0)else(noPack,0,1)
theorem aix(s:List UInt8):M.sr s=some (mN s):=by
 rw[ain s qF fun p hp=>ais p (R7 s p hp)];rfl
theorem aiy(s:List UInt8):M.Ak s=some (mN s):=by
 have h:=RO s;unfold M.Ak mN;cases hw:ix s with
 |inl e=>
  rw[hw]at h;obtain⟨h0,n,v,fs,ws,h1⟩:=h;have e0:(e.2 !=0)=true:=by rw[yN];exact h0
  simp only[h1,e0,ay,aB,ae,al];rfl
 |inr p=>
  rw[hw]at h;have h:M.oM s [] [] [] []=some (0,0,aj.Name p,aj.Version p,aj.aF p,aj.Worlds p):=h;have e0:((0:Int) !=0)=false:=rfl;have ep:aj.mk (aj.Name p) (aj.Version p) (aj.aF p) (aj.Worlds p)=p:=rfl;simp only[h,e0,ep,aiq p (R7 s p hw),ay,aB,aR,ae,al];cases qF p<;>rfl
end M
