/-
  FUNCTIONS and items: both readers.
-/
import Derived.Test.YtfeedngnaochdaaGreatDoorXXPa
set_option linter.unusedVariables false
set_option linter.unusedSimpArgs false
namespace M
open Go.V (inB bT ai bB)
def qF:List UInt8:=[97,115,121,110,99]
def yb:List UInt8:=[102,117,110,99]
def mG:List UInt8:=[114,101,115,111,117,114,99,101]
def pg:List UInt8:=[116,121,112,101]
def pj:List UInt8:=[117,115,101]
def gK:bh:=bh.mk [] [] []
def kf:aa:=aa.mk 0 [] [] []
def vF(l:List ae)(k:Nat):PR (List aA):=(bV l [40] k).bind fun _ k1=>
 bif aB l [41] k1 then .ok [] (k1+1)else(dN l (kP l) 5 [] k1).bind fun ps k2=>(bV l [41] k2).bind fun _ k3=>.ok ps k3
def yc(l:List ae)(k:Nat):PR aa:=bif aB l [45,62] k then d5 l 4 (k+1)else .ok dO k
def sF(l:List ae)(nm:List UInt8)(as:Bool)(k:Nat):PR ak:=
 (bV l yb k).bind fun _ k1=>(vF l k1).bind fun ps k2=>(yc l k2).bind fun t k3=>.ok (ak.mk 3 nm t ps as gK []) k3
def pn(l:List ae)(nm:List UInt8)(k:Nat):PR ak:=bif aB l qF k then sF l nm true (k+1)else sF l nm false k
def yd(l:List ae)(k:Nat):PR ak:=(nB l k).bind fun p k1=>(bV l [46] k1).bind fun _ k2=>(bV l [123] k2).bind fun _ k3=>
 (dN l (ke l) 15 [] k3).bind fun us k4=>(bV l [125] k4).bind fun _ k5=>.ok (ak.mk 4 [] kf [] false p us) k5
def kR(l:List ae)(nm:List UInt8)(k1:Nat):PR ak:=
 bif aB l [58] k1 then pn l nm (k1+1)
 else bif nm==mG then(ly l k1).bind fun n k2=>.ok (ak.mk 1 n kf [] false gK []) k2
 else bif nm==pg then(ly l k1).bind fun n k2=>(bV l [61] k2).bind fun _ k3=>(d5 l 4 k3).bind fun t k4=>.ok (ak.mk 2 n t [] false gK []) k4
 else bif nm==pj then yd l k1
 else .no k1
def nC(l:List ae)(k:Nat):PR ak:=(f9 l k).bind (kR l)
theorem GF{l:List ae}(hL:bI l){k:Nat}(hk:k<l.length){t:List UInt8}(hn:qz t)(b:Bool):
 ∃c k' b',k'<l.length/\M.cJ t (ip l k b)=some (c,ip l k' b')/\(c=true->k'=k+1/\b'=false)/\(c=false->k'=k/\b'=b)/\∀(α:Type)(x y:PR α),RB b k (bif aB l t k then x else y)=RB b' k' (bif c then x else y):=by
 rw[ic hL hk hn b];cases h:(!b&&aB l t k)
 ·exact⟨false,k,b,hk,rfl,(fun q=>by cases q),(fun _=>⟨rfl,rfl⟩),fun α x y=>by rw[lT h];rfl⟩
 ·obtain⟨h2,hb⟩:=lU hL hk h;subst hb;exact⟨true,k+1,false,h2,rfl,(fun _=>⟨rfl,rfl⟩),(fun q=>by cases q),fun α x y=>by rw[kM h];rfl⟩
theorem MC{l:List ae}(hL:bI l){k:Nat}(hk:k<l.length)(t:List UInt8)(b:Bool):
 ∃c k' b',k'<l.length/\M.dC t (sp l k b)=some (c,sp l k' b')/\(c=true->k'=k+1/\b'=false)/\(c=false->k'=k/\b'=b)/\∀(α:Type)(x y:PR α),RB b k (bif aB l t k then x else y)=RB b' k' (bif c then x else y):=by
 rw[eM hL hk t b];cases h:(!b&&aB l t k)
 ·exact⟨false,k,b,hk,rfl,(fun q=>by cases q),(fun _=>⟨rfl,rfl⟩),fun α x y=>by rw[lT h];rfl⟩
 ·obtain⟨h2,hb⟩:=lU hL hk h;subst hb;exact⟨true,k+1,false,h2,rfl,(fun _=>⟨rfl,rfl⟩),(fun q=>by cases q),fun α x y=>by rw[kM h];rfl⟩
theorem vG{l:List ae}{nm:List UInt8}{k1 k2:Nat}{b1 b2 as:Bool}(t2:as=true->k2=k1+1/\b2=false)(f2:as=false->k2=k1/\b2=b1)
 (r2:∀(α:Type)(x y:PR α),RB b1 k1 (bif aB l qF k1 then x else y)=RB b2 k2 (bif as then x else y)):RB b1 k1 (pn l nm k1)=RB b2 k2 (sF l nm as k2):=by
 unfold pn;rw[r2];cases as
 ·rw[(f2 rfl).1];rfl
 ·rw[(t2 rfl).1];rfl
theorem vH{l:List ae}{k1 k2:Nat}{b1 b2 as:Bool}(t2:as=true->k2=k1+1/\b2=false)(f2:as=false->k2=k1/\b2=b1)
 (r2:∀(α:Type)(x y:PR α),RB b1 k1 (bif aB l [45,62] k1 then x else y)=RB b2 k2 (bif as then x else y)):RB b1 k1 (yc l k1)=RB b2 k2 (bif as then d5 l 4 k2 else .ok dO k2):=by
 unfold yc;rw[r2];cases as
 ·rw[(f2 rfl).1];rfl
 ·rw[(t2 rfl).1];rfl
theorem MD{l:List ae}(hL:bI l)(hT:∀t∈l,t.Text.length<=30000)(nm:List UInt8){k:Nat}(hk:k<l.length)(b:Bool):
 ∃v k' b',k'<l.length/\At (RB b k ((bV l [58] k).bind fun _ k1=>pn l nm k1)) v k' b'/\M.um nm (ip l k b)=some (v,ip l k' b'):=by
 obtain⟨k1,b1,h1,a1,e1⟩:=iT hL hk (cz 58 (by decide)) b;obtain⟨as,k2,b2,h2,e2,t2,f2,r2⟩:=GF hL h1 (t:=qF) (fun d r e=>by cases e;decide) b1;obtain⟨k3,b3,h3,a3,e3⟩:=iT hL h2 (t:=yb) (fun d r e=>by cases e;decide) b2;obtain⟨k4,b4,h4,a4,e4⟩:=iT hL h3 (cz 40 (by decide)) b3;have e5:=xN hL h4 (cz 41 (by decide)) b4;unfold qF at e2;unfold yb at e3;unfold M.um;simp only[e1,e2,e3,e4,e5,aw,ay,au];cases nA:(!b4&&aB l [41] k4)
 ·obtain⟨ps,k5,b5,h5,a5,e6⟩:=ZJ hL hT 3 nm 1 [] as [] [] [] [] [] [] h4 b4;obtain⟨k6,b6,h6,a6,e7⟩:=iT hL h5 (cz 41 (by decide)) b5;obtain⟨c,k7,b7,h7,e8,t7,f7,r7⟩:=GF hL h6 (t:=[45,62]) (fun d r e=>by cases e;decide) b6;have sA:At (RB b3 k3 (vF l k3)) ps k6 b6:=by
   refine a4.bo ?_;rw[lT nA];exact a5.bo (a6.bo (At.ret _ _ _))
  simp only[bp,af,e6,e7,e8,aw,ay,au];cases c
  ·refine⟨ak.mk 3 nm dO ps as gK [],k7,b7,h7,a1.bo ?_,rfl⟩;rw[vG t2 f2 r2];refine a3.bo (sA.bo ?_);rw[sC,vH t7 f7 r7];exact At.bind (At.ret _ _ _) (At.ret _ _ _)
  ·obtain⟨v,k8,b8,h8,a8,e9⟩:=A9 hL hT h7 b7;refine⟨ak.mk 3 nm v ps as gK [],k8,b8,h8,a1.bo ?_,?_⟩
   ·rw[vG t2 f2 r2];refine a3.bo (sA.bo ?_);rw[sC,vH t7 f7 r7];exact At.bind a8 (At.ret _ _ _)
   ·simp only[af,e9,aw,ay,au,aa.bq];rfl
 ·obtain⟨h5,hb⟩:=lU hL h4 nA;subst hb;have e7:M.bF [41] (ip l k4 false)=some (ip l (k4+1) false):=by rw[eG hL h4 (cz 41 (by decide)),nA];rfl
  obtain⟨c,k7,b7,h7,e8,t7,f7,r7⟩:=GF hL h5 (t:=[45,62]) (fun d r e=>by cases e;decide) false;have sA:At (RB b3 k3 (vF l k3)) [] (k4+1) false:=by
   refine a4.bo ?_;rw[kM nA];exact Or.inl ⟨rfl,rfl⟩
  simp only[bQ,ar,e7,e8,aw,ay,au];cases c
  ·refine⟨ak.mk 3 nm dO [] as gK [],k7,b7,h7,a1.bo ?_,rfl⟩;rw[vG t2 f2 r2];refine a3.bo (sA.bo ?_);rw[sC,vH t7 f7 r7];exact At.bind (At.ret _ _ _) (At.ret _ _ _)
  ·obtain⟨v,k8,b8,h8,a8,e9⟩:=A9 hL hT h7 b7;refine⟨ak.mk 3 nm v [] as gK [],k8,b8,h8,a1.bo ?_,?_⟩
   ·rw[vG t2 f2 r2];refine a3.bo (sA.bo ?_);rw[sC,vH t7 f7 r7];exact At.bind a8 (At.ret _ _ _)
   ·simp only[af,e9,aw,ay,au,aa.bq];rfl
theorem ZO{l:List ae}(hL:bI l)(hT:∀t∈l,t.Text.length<=30000){k:Nat}(hk:k<l.length)(b:Bool):
 ∃v k' b',k'<l.length/\At (RB b k (vF l k)) v k' b'/\M.ye (sp l k b)=some (v,sp l k' b'):=by
 obtain⟨k4,b4,h4,a4,e4⟩:=jK hL hk [40] b;unfold M.ye;simp only[e4,eM hL h4 [41] b4,aw,ay,au];cases nA:(!b4&&aB l [41] k4)
 ·simp only[ar];cases b4 with
  |true=>
   refine⟨[],k4,true,h4,a4.bo (At.no _ _ _),?_⟩;obtain⟨n,hn⟩:∃n,ai=n+1:=⟨ai-1,by have:=bB;omega⟩;rw[hn,M.lV];rfl
  |false=>
   obtain⟨vs,k',b',h1,a1,e1⟩:=ZM hL hT ai 5 [] k4 (by have:=bB;omega) h4 rfl;refine⟨vs,k',b',h1,a4.bo ?_,?_⟩
   ·rw[lT nA,show ∀r:PR (List aA),RB false k4 r=r from fun _=>rfl];rw[x9 l _ [41] (by decide)]at a1;exact a1
   ·rw[e1];rfl
 ·obtain⟨h5,hb⟩:=lU hL h4 nA;subst hb;refine⟨[],k4+1,false,h5,a4.bo ?_,rfl⟩;rw[kM nA];exact Or.inl ⟨rfl,rfl⟩
theorem ZP{l:List ae}(hL:bI l)(hT:∀t∈l,t.Text.length<=30000)(nm:List UInt8){k1:Nat}(h1:k1<l.length)(b1:Bool):
 ∃v k' b',k'<l.length/\At (RB b1 k1 (pn l nm k1)) v k' b'/\M.yf nm (sp l k1 b1)=some (v,sp l k' b'):=by
 obtain⟨as,k2,b2,h2,e2,t2,f2,r2⟩:=MC hL h1 qF b1;obtain⟨k3,b3,h3,a3,e3⟩:=jK hL h2 yb b2;obtain⟨ps,k6,b6,h6,sA,e4⟩:=ZO hL hT h3 b3;obtain⟨c,k7,b7,h7,e8,t7,f7,r7⟩:=MC hL h6 [45,62] b6;unfold qF at e2;unfold yb at e3;unfold M.yf;simp only[e2,e3,e4,e8,aw,ay,au];cases c
 ·refine⟨ak.mk 3 nm dO ps as gK [],k7,b7,h7,?_,rfl⟩;rw[vG t2 f2 r2];refine a3.bo (sA.bo ?_);rw[sC,vH t7 f7 r7];exact At.bind (At.ret _ _ _) (At.ret _ _ _)
 ·obtain⟨v,k8,b8,h8,a8,e9⟩:=Gx hL hT h7 b7;refine⟨ak.mk 3 nm v ps as gK [],k8,b8,h8,?_,?_⟩
  ·rw[vG t2 f2 r2];refine a3.bo (sA.bo ?_);rw[sC,vH t7 f7 r7];exact At.bind a8 (At.ret _ _ _)
  ·simp only[af,e9,aw,ay,au,aa.bq];rfl
end M
namespace M
open Go.V (inB bT ai bB)
theorem ZQ{l:List ae}(hL:bI l)(hT:∀t∈l,t.Text.length<=30000){k:Nat}(hk:k<l.length)(b:Bool):
 ∃p us k1 b1 k2 b2 k3 b3 k4 b4 k5 b5,k5<l.length/\M.jc (ip l k b)=some (p,ip l k1 b1)/\M.bF [46] (ip l k1 b1)=some (ip l k2 b2)/\M.bF [123] (ip l k2 b2)=some (ip l k3 b3)/\
  M.qY 16 (ip l k3 b3) 4 [] 0 [] false (bh.dw p) (bh.Name p) (bh.Version p) [] [] [] []=some (ip l k4 b4,4,[],0,[],false,bh.dw p,bh.Name p,bh.Version p,[],[],[],us)/\
  M.bF [125] (ip l k4 b4)=some (ip l k5 b5)/\At (RB b k (yd l k)) (ak.mk 4 [] kf [] false p us) k5 b5:=by
 obtain⟨p,k1,b1,h1,a1,e1⟩:=Gy hL hT hk b;obtain⟨k2,b2,h2,a2,e2⟩:=iT hL h1 (cz 46 (by decide)) b1;obtain⟨k3,b3,h3,a3,e3⟩:=iT hL h2 (cz 123 (by decide)) b2;obtain⟨us,k4,b4,h4,a4,e4⟩:=ZL hL hT 4 [] 0 [] false (bh.dw p) (bh.Name p) (bh.Version p) [] [] [] h3 b3;obtain⟨k5,b5,h5,a5,e5⟩:=iT hL h4 (cz 125 (by decide)) b4;exact⟨p,us,k1,b1,k2,b2,k3,b3,k4,b4,k5,b5,h5,e1,e2,e3,e4,e5,a1.bo (a2.bo (a3.bo (a4.bo (a5.bo (At.ret _ _ _)))))⟩
theorem ZR{l:List ae}(hL:bI l)(hT:∀t∈l,t.Text.length<=30000){k:Nat}(hk:k<l.length)(b:Bool):
 ∃v k' b',k'<l.length/\At (RB b k (nC l k)) v k' b'/\M.wC (ip l k b)=some (v,ip l k' b'):=by
 obtain⟨v1,k1,b1,h1,a1,e1,-⟩:=sD hL hT hk b;unfold M.wC;simp only[e1,gd,aw,ay,au];cases b1 with
 |true=>
  obtain⟨v,k',b',h,a,e⟩:=MD hL hT v1 h1 true;have a':At (PR.no k1) v k' b':=a;refine⟨v,k',b',h,a1.bo (f:=kR l) a',?_⟩;simp only[af,e,aw,ay,au,cF,ak.bq]
 |false=>
  have e2:=xN hL h1 (cz 58 (by decide)) false;simp only[ar,e2,aw,ay,au,bp,bc,cF];cases jL:aB l [58] k1
  ·simp only[ar];cases hR:(v1==[114,101,115,111,117,114,99,101])
   ·simp only[ar];cases hY:(v1==[116,121,112,101])
    ·simp only[ar];cases hU:(v1==[117,115,101])
     ·refine⟨ak.mk 0 [] kf [] false gK [],k1,true,h1,a1.bo ?_,rfl⟩;unfold kR mG pg pj;rw[jL,hR,hY,hU];exact Or.inr ⟨rfl,rfl⟩
     ·obtain⟨p,us,k2,b2,k3,b3,k4,b4,k5,b5,k6,b6,h6,f1,f2,f3,f4,f5,a6⟩:=ZQ hL hT h1 false;refine⟨ak.mk 4 [] kf [] false p us,k6,b6,h6,a1.bo ?_,?_⟩
      ·unfold kR mG pg pj;rw[jL,hR,hY,hU];exact a6
      ·simp only[af,f1,f2,f3,f4,f5,aw,ay,au];rfl
    ·obtain⟨v2,k2,b2,h2,a2,f2,-⟩:=A7 hL hT h1 false;obtain⟨k3,b3,h3,a3,f3⟩:=iT hL h2 (cz 61 (by decide)) b2;obtain⟨v4,k4,b4,h4,a4,f4⟩:=A9 hL hT h3 b3;refine⟨ak.mk 2 v2 v4 [] false gK [],k4,b4,h4,a1.bo ?_,?_⟩
     ·unfold kR mG pg pj;rw[jL,hR,hY];exact a2.bo (a3.bo (a4.bo (At.ret _ _ _)))
     ·simp only[af,f2,f3,f4,aw,ay,au,aa.bq];rfl
   ·obtain⟨v2,k2,b2,h2,a2,f2,-⟩:=A7 hL hT h1 false;refine⟨ak.mk 1 v2 kf [] false gK [],k2,b2,h2,a1.bo ?_,?_⟩
    ·unfold kR mG;rw[jL,hR];exact a2.bo (At.ret _ _ _)
    ·simp only[af,f2,aw,ay,au];rfl
  ·obtain⟨v,k',b',h,a,e⟩:=MD hL hT v1 h1 false;refine⟨v,k',b',h,a1.bo ?_,?_⟩
   ·unfold kR;unfold bV at a;rw[jL]at a⊢;exact a
   ·simp only[af,e,aw,ay,au,ak.bq]
theorem ZS{l:List ae}(hL:bI l)(hT:∀t∈l,t.Text.length<=30000){k:Nat}(hk:k<l.length)(b:Bool):
 ∃v k' b',k'<l.length/\At (RB b k (yd l k)) v k' b'/\M.yg (sp l k b)=some (v,sp l k' b'):=by
 obtain⟨p,k1,b1,h1,a1,e1⟩:=Gz hL hT hk b;obtain⟨k2,b2,h2,a2,e2⟩:=jK hL h1 [46] b1;obtain⟨k3,b3,h3,a3,e3⟩:=jK hL h2 [123] b2;unfold M.yg;simp only[e1,e2,e3,aw,ay,au];cases b3 with
 |true=>
  refine⟨ak.mk 4 [] kf [] false p [],k3,true,h3,a1.bo (a2.bo (a3.bo (At.no _ _ _))),?_⟩;obtain⟨n,hn⟩:∃n,ai=n+1:=⟨ai-1,by have:=bB;omega⟩;rw[hn,M.kQ];rfl
 |false=>
  obtain⟨us,k',b',h4,a4,e4⟩:=ZN hL hT (bh.dw p) (bh.Name p) (bh.Version p) ai 15 [] k3 (by have:=bB;omega) h3 rfl;rw[x9 l _ [125] (by decide)]at a4;refine⟨ak.mk 4 [] kf [] false p us,k',b',h4,a1.bo (a2.bo (a3.bo ?_)),?_⟩
  ·rw[show ∀r:PR ak,RB false k3 r=r from fun _=>rfl];generalize hr:dN l (ke l) 15 [] k3=r at a4⊢;cases r with
   |no q=>
    rcases a4 with⟨q1,q2⟩|⟨q1,q2⟩
    ·cases q1
    ·cases q1;exact Or.inr ⟨rfl,q2⟩
   |ok us' q=>
    simp only[PR.bind]at a4⊢;cases hn:bV l [125] q with
    |no q'=>
     rw[hn]at a4;rcases a4 with⟨q1,q2⟩|⟨q1,q2⟩
     ·cases q1
     ·cases q1;exact Or.inr ⟨rfl,q2⟩
    |ok u q'=>
     rw[hn]at a4;rcases a4 with⟨q1,q2⟩|⟨q1,q2⟩
     ·cases q1;exact Or.inl ⟨rfl,q2⟩
     ·cases q1
  ·rw[e4];rfl
def lW(l:List ae)(k:Nat):PR ak:=(nC l k).bind fun x k1=>(bV l [59] k1).bind fun _ k2=>.ok x k2
theorem ME{l:List ae}(hL:bI l)(hT:∀t∈l,t.Text.length<=30000){k:Nat}(hk:k<l.length)(b:Bool):
 ∃v k' b',k'<l.length/\At (RB b k (lW l k)) v k' b'/\M.yh (sp l k b)=some (v,sp l k' b'):=by
 obtain⟨v1,k1,b1,h1,a1,e1,z1⟩:=sE hL hT hk b;unfold M.yh;simp only[e1,eM hL h1 [58] b1,aw,ay,au];cases b1 with
 |true=>
  rw[z1 rfl];refine⟨ak.mk 0 [] kf [] false gK [],k1,true,h1,At.bo (r:=nC l k) (v:=ak.mk 0 [] kf [] false gK []) (a1.bo (At.no _ _ _)) (At.no _ _ _),?_⟩;have f0:(([]:List UInt8)==[114,101,115,111,117,114,99,101])=false:=rfl;have f1:(([]:List UInt8)==[116,121,112,101])=false:=rfl;have f2:(([]:List UInt8)==[117,115,101])=false:=rfl;simp only[bQ,cD,ar,f0,f1,f2,ir,iu,jJ,fQ hL h1 [59] true,ay,au,af];rfl
 |false=>
  simp only[bp,bc];cases jL:aB l [58] k1
  ·simp only[ar];cases hR:(v1==[114,101,115,111,117,114,99,101])
   ·simp only[ar];cases hY:(v1==[116,121,112,101])
    ·simp only[ar];cases hU:(v1==[117,115,101])
     ·refine⟨ak.mk 0 [] kf [] false gK [],k1,true,h1,At.bo (r:=nC l k) (v:=ak.mk 0 [] kf [] false gK []) (k1:=k1) (b1:=true) (a1.bo ?_) (At.no _ _ _),?_⟩
      ·unfold kR mG pg pj;rw[jL,hR,hY,hU];exact Or.inr ⟨rfl,rfl⟩
      ·simp only[ar,ir,iu,jJ,fQ hL h1 [59] true,ay,au,af];rfl
     ·obtain⟨v2,k2,b2,h2,a2,f2⟩:=ZS hL hT h1 false;obtain⟨k3,b3,h3,a3,f3⟩:=jK hL h2 [59] b2;refine⟨v2,k3,b3,h3,At.bo (r:=nC l k) (a1.bo ?_) (a3.bo (At.ret _ _ _)),?_⟩
      ·unfold kR mG pg pj;rw[jL,hR,hY,hU];exact a2
      ·simp only[af,f2,f3,aw,ay,au,ak.bq]
    ·obtain⟨v2,k2,b2,h2,a2,f2,-⟩:=A8 hL hT h1 false;obtain⟨k3,b3,h3,a3,f3⟩:=jK hL h2 [61] b2;obtain⟨v4,k4,b4,h4,a4,f4⟩:=Gx hL hT h3 b3;obtain⟨k5,b5,h5,a5,f5⟩:=jK hL h4 [59] b4;refine⟨ak.mk 2 v2 v4 [] false gK [],k5,b5,h5,At.bo (r:=nC l k) (a1.bo ?_) (a5.bo (At.ret _ _ _)),?_⟩
     ·unfold kR mG pg pj;rw[jL,hR,hY];exact a2.bo (a3.bo (a4.bo (At.ret _ _ _)))
     ·simp only[af,f2,f3,f4,f5,aw,ay,au,aa.bq];rfl
   ·obtain⟨v2,k2,b2,h2,a2,f2,-⟩:=A8 hL hT h1 false;obtain⟨k3,b3,h3,a3,f3⟩:=jK hL h2 [59] b2;refine⟨ak.mk 1 v2 kf [] false gK [],k3,b3,h3,At.bo (r:=nC l k) (a1.bo ?_) (a3.bo (At.ret _ _ _)),?_⟩
    ·unfold kR mG;rw[jL,hR];exact a2.bo (At.ret _ _ _)
    ·simp only[af,f2,f3,aw,ay,au];rfl
  ·obtain⟨v2,k2,b2,h2,a2,f2⟩:=ZP hL hT v1 (cC hL h1 jL) false;obtain⟨k3,b3,h3,a3,f3⟩:=jK hL h2 [59] b2;refine⟨v2,k3,b3,h3,At.bo (r:=nC l k) (a1.bo ?_) (a3.bo (At.ret _ _ _)),?_⟩
   ·unfold kR;rw[jL];exact a2
   ·simp only[af,f2,f3,aw,ay,au,ak.bq]
end M
namespace M
open Go.V (inB bT ai bB)
def fl{α:Type}(l:List ae)(el:Nat->PR α):Nat->List α->Nat->PR (List α)
 |0,acc,k=>(bV l [125] k).bind fun _ k1=>.ok acc k1
 |m+1,acc,k=>bif aB l [125] k then .ok acc (k+1)else(el k).bind fun x k1=>fl l el m (acc++[x]) k1
def mH(l:List ae)(k:Nat):PR aC:=(f9 l k).bind fun n k1=>(bV l [123] k1).bind fun _ k2=>(fl l (lW l) 16 [] k2).bind fun xs k3=>.ok (aC.mk n xs) k3
theorem ZT{l:List ae}(hL:bI l)(hT:∀t∈l,t.Text.length<=30000)(t2 x:List UInt8)(o5:List ak):∀(f m:Nat)(acc:List ak)(k:Nat)(b:Bool),m+1<f->k<l.length->acc.length+m=16->
 ∃vs k' b' k2 b2,k2<l.length/\M.uo t2 x o5 f (ip l k b) acc=some (ip l k' b',t2,x,o5,vs)/\M.bF [125] (ip l k' b')=some (ip l k2 b2)/\At (RB b k (fl l (lW l) m acc k)) vs k2 b2:=by
 intro f
 induction f with
 |zero=>intro m acc k b h;omega
 |succ f ih=>
  intro m acc k b hf hk hacc;rw[M.uo];cases b with
  |true=>
   refine⟨acc,k,true,k,true,hk,?_,?_,At.no _ _ _⟩
   ·simp only[gd,bQ,Bool.and_false,ar,au,cF,af]
   ·rw[eG hL hk (cz 125 (by decide)) true];rfl
  |false=>
   cases m with
   |zero=>
    obtain⟨k2,b2,h2,a2,e2⟩:=iT hL hk (cz 125 (by decide)) false;refine⟨acc,k,false,k2,b2,h2,?_,e2,?_⟩
    ·rw[fL (show ¬((acc.length:Nat):Int)<16 by omega)];simp only[gd,bp,cD,ar,au,cF,af]
    ·rw[fl];exact a2.bo (At.ret _ _ _)
   |succ m=>
    rw[eX (show((acc.length:Nat):Int)<16 by omega),fl];simp only[gd,bp,bc,af,xN hL hk (cz 125 (by decide)) false,aw,ay,au,cF];cases h:aB l [125] k
    ·obtain⟨v1,k1,b1,h1,a1,e1⟩:=ZR hL hT hk false;obtain⟨k2,b2,h2,a2,e2⟩:=iT hL h1 (cz 59 (by decide)) b1;obtain⟨vs,k3,b3,k4,b4,h4,e3,e4,a4⟩:=ih m (acc++[v1]) k2 b2 (by omega) h2 (by rw[cq,List.length_singleton];omega);refine⟨vs,k3,b3,k4,b4,h4,?_,e4,?_⟩
     ·simp only[bp,af,e1,e2,aw,ay,dy (show acc.length<=1000 by omega),au,ak.bq,e3]
     ·simp only[ar];refine At.bo (r:=lW l k) (v:=v1) (k1:=k2) (b1:=b2) ?_ a4;unfold lW;exact a1.bo (a2.bo (At.ret _ _ _))
    ·refine⟨acc,k,false,k+1,false,cC hL hk h,?_,?_,?_⟩
     ·simp only[bQ,ar,af]
     ·rw[eG hL hk (cz 125 (by decide)) false,h];rfl
     ·exact Or.inl ⟨rfl,rfl⟩
theorem ZU{l:List ae}(hL:bI l)(hT:∀t∈l,t.Text.length<=30000){k:Nat}(hk:k<l.length)(b:Bool):
 ∃v k' b',k'<l.length/\At (RB b k (mH l k)) v k' b'/\M.uu (ip l k b)=some (v,ip l k' b'):=by
 obtain⟨v1,k1,b1,h1,a1,e1,-⟩:=sD hL hT hk b;obtain⟨k2,b2,h2,a2,e2⟩:=iT hL h1 (cz 123 (by decide)) b1;obtain⟨vs,k3,b3,k4,b4,h4,e3,e4,a4⟩:=ZT hL hT [] v1 [] ai 16 [] k2 b2 (by have:=bB;omega) h2 rfl;refine⟨aC.mk v1 vs,k4,b4,h4,a1.bo (a2.bo (a4.bo (At.ret _ _ _))),?_⟩;unfold M.uu;simp only[e1,e2,e3,e4,aw,ay,au,af]
theorem ZV{l:List ae}(hL:bI l)(hT:∀t∈l,t.Text.length<=30000)(t2 x:List UInt8)(o5:List ak):∀(f m:Nat)(acc:List ak)(k:Nat)(b:Bool),m+1<f->k<l.length->acc.length+m=16->
 ∃vs k' b',k'<l.length/\At (RB b k (fl l (lW l) m acc k)) vs k' b'/\M.qG t2 x o5 f (sp l k b) acc=some (l,(k':Int),b',t2,x,o5,vs):=by
 intro f
 induction f with
 |zero=>intro m acc k b h;omega
 |succ f ih=>
  intro m acc k b hf hk hacc;obtain⟨f',rfl⟩:∃f',f=f'+1:=⟨f-1,by omega⟩;have hend:∀(f:Nat)(k:Nat)(xs:List ak),M.qG t2 x o5 (f+1) (sp l k true) xs=some (l,(k:Int),true,t2,x,o5,xs):=fun f k xs=>by
   rw[M.qG];rfl
  cases b with
  |true=>exact⟨acc,k,true,hk,At.no _ _ _,hend _ k acc⟩
  |false=>
   rw[M.qG];simp only[gv,bp,af,eM hL hk [125] false,bc,aw,ay,au,cF];cases h:aB l [125] k
   ·simp only[ar,bp,af,ir,iu,jJ];cases m with
    |zero=>
     rw[eX (show(16:Int)<=((acc.length:Nat):Int) by omega)];obtain⟨v1,k1,b1,h1,a1,e1⟩:=ME hL hT hk true;have q:b1=true/\k1=k:=by
      rcases a1 with⟨q1,q2⟩|⟨q1,q2⟩
      ·cases q1
      ·cases q1;exact⟨q2,rfl⟩
     rw[q.1,q.2]at e1;refine⟨acc++[v1],k,true,hk,?_,?_⟩
     ·rw[fl];unfold bV;rw[h];exact Or.inr ⟨rfl,rfl⟩
     ·simp only[e1,aw,ay,dy (show acc.length<=1000 by omega),au,af,ak.bq];exact hend _ k _
    |succ m=>
     rw[fL (show ¬(16:Int)<=((acc.length:Nat):Int) by omega)];obtain⟨v1,k1,b1,h1,a1,e1⟩:=ME hL hT hk false;obtain⟨vs,k3,b3,h3,a3,e3⟩:=ih m (acc++[v1]) k1 b1 (by omega) h1 (by rw[cq,List.length_singleton];omega);refine⟨vs,k3,b3,h3,?_,?_⟩
     ·rw[fl,h];exact At.bo (r:=lW l k) a1 a3
     ·simp only[e1,aw,ay,dy (show acc.length<=1000 by omega),au,af,ak.bq,e3]
   ·refine⟨acc,k+1,false,cC hL hk h,?_,rfl⟩;cases m with
    |zero=>
     rw[fl];unfold bV;rw[h];exact Or.inl ⟨rfl,rfl⟩
    |succ m=>
     rw[fl,h];exact Or.inl ⟨rfl,rfl⟩
theorem ZW{l:List ae}(hL:bI l)(hT:∀t∈l,t.Text.length<=30000){k:Nat}(hk:k<l.length)(b:Bool):
 ∃v k' b',k'<l.length/\At (RB b k (mH l k)) v k' b'/\M.vI (sp l k b)=some (v,sp l k' b'):=by
 obtain⟨v1,k1,b1,h1,a1,e1,-⟩:=sE hL hT hk b;obtain⟨k2,b2,h2,a2,e2⟩:=jK hL h1 [123] b1;obtain⟨vs,k3,b3,h3,a3,e3⟩:=ZV hL hT [] v1 [] ai 16 [] k2 b2 (by have:=bB;omega) h2 rfl;refine⟨aC.mk v1 vs,k3,b3,h3,a1.bo (a2.bo (a3.bo (At.ret _ _ _))),?_⟩;unfold M.vI;simp only[e1,e2,e3,aw,ay,au,af];rfl
end M
namespace M
open Go.V (inB bT ai bB)
def mI:List UInt8:=[105,109,112,111,114,116]
def mJ:List UInt8:=[101,120,112,111,114,116]
def mK:List UInt8:=[105,110,99,108,117,100,101]
def qH(l:List ae)(kind:Int)(k:Nat):PR aG:=(nB l k).bind fun p k1=>(bV l [59] k1).bind fun _ k2=>.ok (aG.mk kind p) k2
def iU(l:List ae)(k:Nat):PR aG:=
 bif aB l mI k then qH l 1 (k+1)else bif aB l mJ k then qH l 2 (k+1)else bif aB l mK k then qH l 3 (k+1)else .no k
def po(l:List ae)(k:Nat):PR aL:=(f9 l k).bind fun n k1=>(bV l [123] k1).bind fun _ k2=>(fl l (iU l) 16 [] k2).bind fun xs k3=>.ok (aL.mk n xs) k3
theorem ZX{l:List ae}(hL:bI l)(hT:∀t∈l,t.Text.length<=30000)(t2 x:List UInt8)(o5:List aG):∀(f m:Nat)(acc:List aG)(k:Nat)(b:Bool),m+1<f->k<l.length->acc.length+m=16->
 ∃vs k' b' k2 b2,k2<l.length/\M.nW t2 x o5 f (ip l k b) acc=some (ip l k' b',t2,x,o5,vs)/\M.bF [125] (ip l k' b')=some (ip l k2 b2)/\At (RB b k (fl l (iU l) m acc k)) vs k2 b2:=by
 intro f
 induction f with
 |zero=>intro m acc k b h;omega
 |succ f ih=>
  intro m acc k b hf hk hacc;rw[M.nW];cases b with
  |true=>
   refine⟨acc,k,true,k,true,hk,?_,?_,At.no _ _ _⟩
   ·simp only[gd,bQ,Bool.and_false,ar,au,cF,af]
   ·rw[eG hL hk (cz 125 (by decide)) true];rfl
  |false=>
   cases m with
   |zero=>
    obtain⟨k2,b2,h2,a2,e2⟩:=iT hL hk (cz 125 (by decide)) false;refine⟨acc,k,false,k2,b2,h2,?_,e2,?_⟩
    ·rw[fL (show ¬((acc.length:Nat):Int)<16 by omega)];simp only[gd,bp,cD,ar,au,cF,af]
    ·rw[fl];exact a2.bo (At.ret _ _ _)
   |succ m=>
    rw[eX (show((acc.length:Nat):Int)<16 by omega),fl];simp only[gd,bp,bc,af,xN hL hk (cz 125 (by decide)) false,aw,ay,au,cF];have key:∀(kind:Int)(kk:Nat),kk<l.length->∃v1 k1 b1 k2 b2,k2<l.length/\M.jc (ip l kk false)=some (v1,ip l k1 b1)/\M.bF [59] (ip l k1 b1)=some (ip l k2 b2)/\At (qH l kind kk) (aG.mk kind v1) k2 b2:=by
     intro kind kk hkk;obtain⟨v1,k1,b1,h1,a1,e1⟩:=Gy hL hT hkk false;obtain⟨k2,b2,h2,a2,e2⟩:=iT hL h1 (cz 59 (by decide)) b1;exact⟨v1,k1,b1,k2,b2,h2,e1,e2,At.bind (r:=nB l kk) a1 (a2.bo (At.ret _ _ _))⟩
    have tI:=ic hL hk (text:=[105,109,112,111,114,116]) (fun d r e=>by cases e;decide) false;have tE:=ic hL hk (text:=[101,120,112,111,114,116]) (fun d r e=>by cases e;decide) false;have tC:=ic hL hk (text:=[105,110,99,108,117,100,101]) (fun d r e=>by cases e;decide) false;rw[bp,bc]at tI tE tC;cases h:aB l [125] k
    ·simp only[bp,af,ar];cases hI:aB l [105,109,112,111,114,116] k
     ·rw[hI]at tI;cases hE:aB l [101,120,112,111,114,116] k
      ·rw[hE]at tE;cases hC:aB l [105,110,99,108,117,100,101] k
       ·rw[hC]at tC;obtain⟨v1,k1,b1,h1,a1,e1⟩:=Gy hL hT hk true;have q:b1=true/\k1=k:=by
         rcases a1 with⟨q1,q2⟩|⟨q1,q2⟩
         ·cases q1
         ·cases q1;exact⟨q2,rfl⟩
        rw[q.1,q.2]at e1;have e2:M.bF [59] (ip l k true)=some (ip l k true):=by rw[eG hL hk (cz 59 (by decide))];rfl
        obtain⟨vs,k3,b3,k4,b4,h4,e3,e4,a4⟩:=ih m (acc++[aG.mk 0 v1]) k true (by omega) hk (by rw[cq,List.length_singleton];omega);refine⟨vs,k3,b3,k4,b4,h4,?_,e4,?_⟩
        ·simp only[tI,tE,tC,ar,af,aw,ay,kb,jl,kN,e1,e2,dy (show acc.length<=1000 by omega),au,e3]
        ·unfold iU mI mJ mK;rw[hI,hE,hC];exact a4
       ·rw[hC]at tC;obtain⟨v1,k1,b1,k2,b2,h2,e1,e2,a2⟩:=key 3 (k+1) (cC hL hk hC);obtain⟨vs,k3,b3,k4,b4,h4,e3,e4,a4⟩:=ih m (acc++[aG.mk 3 v1]) k2 b2 (by omega) h2 (by rw[cq,List.length_singleton];omega);refine⟨vs,k3,b3,k4,b4,h4,?_,e4,?_⟩
        ·simp only[tI,tE,tC,ar,af,aw,ay,e1,e2,dy (show acc.length<=1000 by omega),au,e3]
        ·unfold iU mI mJ mK;rw[hI,hE,hC];exact At.bind a2 a4
      ·rw[hE]at tE;obtain⟨v1,k1,b1,k2,b2,h2,e1,e2,a2⟩:=key 2 (k+1) (cC hL hk hE);obtain⟨vs,k3,b3,k4,b4,h4,e3,e4,a4⟩:=ih m (acc++[aG.mk 2 v1]) k2 b2 (by omega) h2 (by rw[cq,List.length_singleton];omega);refine⟨vs,k3,b3,k4,b4,h4,?_,e4,?_⟩
       ·simp only[tI,tE,ar,af,aw,ay,e1,e2,dy (show acc.length<=1000 by omega),au,e3]
       ·unfold iU mI mJ mK;rw[hI,hE];exact At.bind a2 a4
     ·rw[hI]at tI;obtain⟨v1,k1,b1,k2,b2,h2,e1,e2,a2⟩:=key 1 (k+1) (cC hL hk hI);obtain⟨vs,k3,b3,k4,b4,h4,e3,e4,a4⟩:=ih m (acc++[aG.mk 1 v1]) k2 b2 (by omega) h2 (by rw[cq,List.length_singleton];omega);refine⟨vs,k3,b3,k4,b4,h4,?_,e4,?_⟩
      ·simp only[tI,ar,af,aw,ay,e1,e2,dy (show acc.length<=1000 by omega),au,e3]
      ·unfold iU mI mJ mK;rw[hI];exact At.bind a2 a4
    ·refine⟨acc,k,false,k+1,false,cC hL hk h,?_,?_,?_⟩
     ·simp only[bQ,ar,af]
     ·rw[eG hL hk (cz 125 (by decide)) false,h];rfl
     ·exact Or.inl ⟨rfl,rfl⟩
theorem ZY{l:List ae}(hL:bI l)(hT:∀t∈l,t.Text.length<=30000){k:Nat}(hk:k<l.length)(b:Bool):
 ∃v k' b',k'<l.length/\At (RB b k (po l k)) v k' b'/\M.qZ (ip l k b)=some (v,ip l k' b'):=by
 obtain⟨v1,k1,b1,h1,a1,e1,-⟩:=sD hL hT hk b;obtain⟨k2,b2,h2,a2,e2⟩:=iT hL h1 (cz 123 (by decide)) b1;obtain⟨vs,k3,b3,k4,b4,h4,e3,e4,a4⟩:=ZX hL hT [] v1 [] ai 16 [] k2 b2 (by have:=bB;omega) h2 rfl;refine⟨aL.mk v1 vs,k4,b4,h4,a1.bo (a2.bo (a4.bo (At.ret _ _ _))),?_⟩;unfold M.qZ;simp only[e1,e2,e3,e4,aw,ay,au,af]
end M
namespace M
open Go.V (inB bT ai bB)
theorem GG{l:List ae}(hL:bI l)(t2 w:List UInt8)(o6 o7:List aG)(P:bh){k:Nat}(hk:k<l.length)(b:Bool)(n:Nat)(i j:Int)(t:List UInt8)
 (h1:List.getD (Option.getD M.nD Inhabited.default) (Int.toNat i) []=t) (h2:inB i (List.length (Option.getD M.nD Inhabited.default))=true) (h3:decide (i<(3:Int))=true) (h4:Go.IntKind.wrap Go.IntKind.i64 (i+1)=j):
 M.jM t2 w o6 o7 (n+1) i (sp l k b) (aG.mk 0 P)=bif !b&&aB l t k then M.jM t2 w o6 o7 n j (sp l (k+1) b) (aG.mk j P)else M.jM t2 w o6 o7 n j (sp l k b) (aG.mk 0 P):=by
 have hs:Option.isSome M.nD=true:=rfl;rw[M.jM];simp only[h1,h2,h3,h4,hs,eM hL hk t b,aw,ay,au,af,cF];cases (!b&&aB l t k)
 ·simp only[ar]
 ·simp only[af]
theorem GH(t2 w:List UInt8)(o6 o7:List aG)(P:bh)(p:an)(n:Nat)(i j kd:Int)(h0:(kd==(0:Int))=false)(h3:decide (i<(3:Int))=true)(h4:Go.IntKind.wrap Go.IntKind.i64 (i+1)=j):
 M.jM t2 w o6 o7 (n+1) i p (aG.mk kd P)=M.jM t2 w o6 o7 n j p (aG.mk kd P):=by
 rw[M.jM];simp only[h3,h4,h0,af,ar,cF,au]
theorem Ba(t2 w:List UInt8)(o6 o7:List aG)(p:an)(x:aG)(n:Nat):M.jM t2 w o6 o7 (n+1) 3 p x=some (p,t2,w,x,o6,o7):=by
 rw[M.jM];rfl
theorem MF{l:List ae}(hL:bI l)(t2 w:List UInt8)(o6 o7:List aG)(P:bh){k:Nat}(hk:k<l.length)(b:Bool):
 M.jM t2 w o6 o7 ai 0 (sp l k b) (aG.mk 0 P)=
   bif !b&&aB l mI k then some (sp l (k+1) b,t2,w,aG.mk 1 P,o6,o7)
   else bif !b&&aB l mJ k then some (sp l (k+1) b,t2,w,aG.mk 2 P,o6,o7)
   else bif !b&&aB l mK k then some (sp l (k+1) b,t2,w,aG.mk 3 P,o6,o7)
   else some (sp l k b,t2,w,aG.mk 0 P,o6,o7):=by
 obtain⟨n,hn⟩:∃n,ai=n+1+1+1+1:=⟨ai-4,by have:=bB;omega⟩;rw[hn,GG hL t2 w o6 o7 P hk b _ 0 1 mI rfl rfl rfl (by decide)];cases (!b&&aB l mI k)
 ·simp only[ar];rw[GG hL t2 w o6 o7 P hk b _ 1 2 mJ rfl rfl rfl (by decide)];cases (!b&&aB l mJ k)
  ·simp only[ar];rw[GG hL t2 w o6 o7 P hk b _ 2 3 mK rfl rfl rfl (by decide)];cases (!b&&aB l mK k)
   ·simp only[ar];exact Ba _ _ _ _ _ _ _
   ·simp only[af];exact Ba _ _ _ _ _ _ _
  ·simp only[af];rw[GH _ _ _ _ _ _ _ 2 3 2 rfl rfl (by decide)];exact Ba _ _ _ _ _ _ _
 ·simp only[af];rw[GH _ _ _ _ _ _ _ 1 2 1 rfl rfl (by decide),GH _ _ _ _ _ _ _ 2 3 1 rfl rfl (by decide)];exact Ba _ _ _ _ _ _ _
theorem ZZ{l:List ae}(hL:bI l)(hT:∀t∈l,t.Text.length<=30000)(t2 x:List UInt8)(o5:List aG):∀(f m:Nat)(acc:List aG)(k:Nat)(b:Bool),m+1<f->k<l.length->acc.length+m=16->
 ∃vs k' b',k'<l.length/\At (RB b k (fl l (iU l) m acc k)) vs k' b'/\M.pq f (sp l k b) t2 x o5 acc=some (l,(k':Int),b',t2,x,o5,vs):=by
 intro f
 induction f with
 |zero=>intro m acc k b h;omega
 |succ f ih=>
  intro m acc k b hf hk hacc;obtain⟨f',rfl⟩:∃f',f=f'+1:=⟨f-1,by omega⟩;have hend:∀(f:Nat)(k:Nat)(xs:List aG),M.pq (f+1) (sp l k true) t2 x o5 xs=some (l,(k:Int),true,t2,x,o5,xs):=fun f k xs=>by
   rw[M.pq];rfl
  cases b with
  |true=>exact⟨acc,k,true,hk,At.no _ _ _,hend _ k acc⟩
  |false=>
   have hbad:∃v,M.kO (sp l k true)=some (v,sp l k true):=by
    obtain⟨v1,k1,b1,h1,a1,e1⟩:=Gz hL hT hk true;have q:b1=true/\k1=k:=by
     rcases a1 with⟨q1,q2⟩|⟨q1,q2⟩
     ·cases q1
     ·cases q1;exact⟨q2,rfl⟩
    rw[q.1,q.2]at e1;exact⟨v1,e1⟩
   obtain⟨vb,eb⟩:=hbad;have mb:M.dt [59] (sp l k true)=some (sp l k true):=by rw[fQ hL hk];rfl
   have key:∀(kind:Int)(kk:Nat),kk<l.length->∃v1 k1 b1 k2 b2,k2<l.length/\M.kO (sp l kk false)=some (v1,sp l k1 b1)/\M.dt [59] (sp l k1 b1)=some (sp l k2 b2)/\At (qH l kind kk) (aG.mk kind v1) k2 b2:=by
    intro kind kk hkk;obtain⟨v1,k1,b1,h1,a1,e1⟩:=Gz hL hT hkk false;obtain⟨k2,b2,h2,a2,e2⟩:=jK hL h1 [59] b1;exact⟨v1,k1,b1,k2,b2,h2,e1,e2,At.bind (r:=nB l kk) a1 (a2.bo (At.ret _ _ _))⟩
   rw[M.pq];simp only[gv,bp,af,eM hL hk [125] false,bc,aw,ay,au,cF];cases h:aB l [125] k
   ·simp only[ar,bp,af,ir,iu,jJ];cases m with
    |zero=>
     rw[eX (show(16:Int)<=((acc.length:Nat):Int) by omega),MF hL _ _ _ _ _ hk true];refine⟨acc++[aG.mk 0 vb],k,true,hk,?_,?_⟩
     ·rw[fl];unfold bV;rw[h];exact Or.inr ⟨rfl,rfl⟩
     ·simp only[bQ,cD,ar,ir,iu,gv,jJ,bP,eb,mb,aw,ay,dy (show acc.length<=1000 by omega),au,af];exact hend _ k _
    |succ m=>
     rw[fL (show ¬(16:Int)<=((acc.length:Nat):Int) by omega),MF hL _ _ _ _ _ hk false];rw[fl,h];simp only[bp,bc];have go:∀kind:Int,(kind==(0:Int))=false->aB l (bif kind==1 then mI else bif kind==2 then mJ else mK) k=true->(RB false k (bif false then PR.ok acc (k+1)else(iU l k).bind fun x k1=>fl l (iU l) m (acc++[x]) k1))=(qH l kind (k+1)).bind (fun x k1=>fl l (iU l) m (acc++[x]) k1)->
      ∃vs k' b',k'<l.length/\At (RB false k (bif false then PR.ok acc (k+1)else(iU l k).bind fun x k1=>fl l (iU l) m (acc++[x]) k1)) vs k' b'/\
       (match(some (sp l (k+1) false,t2,x,aG.mk kind (bh.mk [] [] []),o5,acc):Option (an×List UInt8×List UInt8×aG×List aG×List aG))with
         |none=>none
         |some y3=>bif(decide (((List.length y3.2.2.2.2.2)+(List.length [(M.aG.mk (M.aG.Kind y3.2.2.2.1) (Option.getD (M.kO (M.an.mk (M.an.list y3.1) (M.an.at_ y3.1) ((M.an.bad y3.1)||((M.aG.Kind y3.2.2.2.1)==(0:Int))))) Inhabited.default).1)]))<=1073741824))&&((Option.isSome (M.dt [(59:UInt8)] (Option.getD (M.kO (M.an.mk (M.an.list y3.1) (M.an.at_ y3.1) ((M.an.bad y3.1)||((M.aG.Kind y3.2.2.2.1)==(0:Int))))) Inhabited.default).2))&&((Option.isSome (M.kO (M.an.mk (M.an.list y3.1) (M.an.at_ y3.1) ((M.an.bad y3.1)||((M.aG.Kind y3.2.2.2.1)==(0:Int))))))&&true))then
           M.pq (f'+1) (Option.getD (M.dt [(59:UInt8)] (Option.getD (M.kO (M.an.mk (M.an.list y3.1) (M.an.at_ y3.1) ((M.an.bad y3.1)||((M.aG.Kind y3.2.2.2.1)==(0:Int))))) Inhabited.default).2) Inhabited.default) y3.2.1 y3.2.2.1 y3.2.2.2.2.1 (y3.2.2.2.2.2++[(M.aG.mk (M.aG.Kind y3.2.2.2.1) (Option.getD (M.kO (M.an.mk (M.an.list y3.1) (M.an.at_ y3.1) ((M.an.bad y3.1)||((M.aG.Kind y3.2.2.2.1)==(0:Int))))) Inhabited.default).1)])
          else none)=some (l,(k':Int),b',t2,x,o5,vs):=by
      intro kind h0 hB hR;obtain⟨v1,k1,b1,k2,b2,h2,e1,e2,a2⟩:=key kind (k+1) (cC hL hk hB);obtain⟨vs,k3,b3,h3,a3,e3⟩:=ih m (acc++[aG.mk kind v1]) k2 b2 (by omega) h2 (by rw[cq,List.length_singleton];omega);refine⟨vs,k3,b3,h3,?_,?_⟩
      ·rw[hR];exact At.bind a2 a3
      ·simp only[h0,ir,iu,gv,me,jJ,e1,e2,aw,ay,dy (show acc.length<=1000 by omega),au,af,e3]
     cases hI:aB l mI k
     ·cases hE:aB l mJ k
      ·cases hC:aB l mK k
       ·refine⟨acc++[aG.mk 0 vb],k,true,hk,?_,?_⟩
        ·unfold iU;rw[hI,hE,hC];exact Or.inr ⟨rfl,rfl⟩
        ·simp only[ar,ir,iu,gv,jJ,cF,ij,eb,mb,aw,ay,dy (show acc.length<=1000 by omega),au,af];exact hend _ k _
       ·have:=go 3 rfl hC (by unfold iU;rw[hI,hE,hC];rfl);exact this
      ·have:=go 2 rfl hE (by unfold iU;rw[hI,hE];rfl);exact this
     ·have:=go 1 rfl hI (by unfold iU;rw[hI];rfl);exact this
   ·refine⟨acc,k+1,false,cC hL hk h,?_,rfl⟩;cases m with
    |zero=>
     rw[fl];unfold bV;rw[h];exact Or.inl ⟨rfl,rfl⟩
    |succ m=>
     rw[fl,h];exact Or.inl ⟨rfl,rfl⟩
theorem Z0{l:List ae}(hL:bI l)(hT:∀t∈l,t.Text.length<=30000){k:Nat}(hk:k<l.length)(b:Bool):
 ∃v k' b',k'<l.length/\At (RB b k (po l k)) v k' b'/\M.sG (sp l k b)=some (v,sp l k' b'):=by
 obtain⟨v1,k1,b1,h1,a1,e1,-⟩:=sE hL hT hk b;obtain⟨k2,b2,h2,a2,e2⟩:=jK hL h1 [123] b1;obtain⟨vs,k3,b3,h3,a3,e3⟩:=ZZ hL hT [] v1 [] ai 16 [] k2 b2 (by have:=bB;omega) h2 rfl;refine⟨aL.mk v1 vs,k3,b3,h3,a1.bo (a2.bo (a3.bo (At.ret _ _ _))),?_⟩;unfold M.sG;simp only[e1,e2,e3,aw,ay,au,af];rfl
end M
namespace M
open Go.V (inB bT ai bB)
def nE:List UInt8:=[105,110,116,101,114,102,97,99,101]
def qI:List UInt8:=[119,111,114,108,100]
def yi:List UInt8:=[112,97,99,107,97,103,101]
def eC(l:List ae):Nat->List aC->List aL->Nat->PR (List aC×List aL)
 |0,fs,ws,k=>bif(bE l k).Kind==4 then .ok (fs,ws) k else .no k
 |m+1,fs,ws,k=>bif(bE l k).Kind==4 then .ok (fs,ws) k
  else bif decide (((fs.length:Nat):Int)<8)&&aB l nE k then(mH l (k+1)).bind fun f k1=>eC l m (fs++[f]) ws k1
  else bif decide (((ws.length:Nat):Int)<8)&&aB l qI k then(po l (k+1)).bind fun w k1=>eC l m fs (ws++[w]) k1
  else .no k
def iV(l:List ae)(k:Nat):PR bf:=(bV l yi k).bind fun _ k1=>(f9 l k1).bind fun n k2=>(bV l [64] k2).bind fun _ k3=>(vC l k3).bind fun v k4=>(bV l [59] k4).bind fun _ k5=>
 (eC l 16 [] [] k5).bind fun q k6=>.ok (bf.mk n v q.1 q.2) k6
theorem mL(l:List ae)(k:Nat):List.getD l (Int.toNat ((k:Nat):Int)) ae.zero=bE l k:=by rw[cH];rfl
theorem Z1{l:List ae}(hL:bI l)(hT:∀t∈l,t.Text.length<=30000)(t2 t22 x x2:List UInt8)(o7:List aC)(o8:List aL):∀(f m:Nat)(fs:List aC)(ws:List aL)(k:Nat)(b:Bool),m+1<f->k<l.length->fs.length+ws.length+m=16->fs.length<=8->ws.length<=8->
 ∃v k' b',k'<l.length/\At (RB b k (eC l m fs ws k)) v k' b'/\M.jd t2 t22 x x2 o7 o8 f (ip l k b) fs ws=some (l,(k':Int),b',t2,t22,x,x2,o7,o8,v.1,v.2):=by
 have hend:∀(f k:Nat)(fs:List aC)(ws:List aL),k<l.length->M.jd t2 t22 x x2 o7 o8 (f+1) (ip l k true) fs ws=some (l,(k:Int),true,t2,t22,x,x2,o7,o8,fs,ws):=fun f k fs ws hk=>by
  rw[M.jd];simp only[gd,kb,jl,kN,mL,jH hk,bQ,cD,ar,bP,au,af,cF]
 intro f
 induction f with
 |zero=>intro m fs ws k b h;omega
 |succ f ih=>
  intro m fs ws k b hf hk hm hfs hws;obtain⟨f',rfl⟩:∃f',f=f'+1:=⟨f-1,by omega⟩;cases b with
  |true=>exact⟨(fs,ws),k,true,hk,At.no _ _ _,hend _ k fs ws hk⟩
  |false=>
   rw[M.jd];cases hK:((bE l k).Kind==4)
   ·have bad:eC l m fs ws k=.no k->∃v k' b',k'<l.length/\At (RB false k (eC l m fs ws k)) v k' b'/\M.jd t2 t22 x x2 o7 o8 (f'+1) (ip l k true) fs ws=some (l,(k':Int),b',t2,t22,x,x2,o7,o8,v.1,v.2):=fun e=>by
     rw[e];exact⟨(fs,ws),k,true,hk,Or.inr ⟨rfl,rfl⟩,hend _ k fs ws hk⟩
    have tF:=ic hL hk (text:=[105,110,116,101,114,102,97,99,101]) (fun d r e=>by cases e;decide) false;have tW:=ic hL hk (text:=[119,111,114,108,100]) (fun d r e=>by cases e;decide) false;rw[bp,bc]at tF tW;have GI:fs.length<8->aB l [105,110,116,101,114,102,97,99,101] k=true->∃v1 k1 b1 v k' b',k'<l.length/\M.uu (ip l (k+1) false)=some (v1,ip l k1 b1)/\At (RB false k (eC l m fs ws k)) v k' b'/\M.jd t2 t22 x x2 o7 o8 (f'+1) (ip l k1 b1) (fs++[v1]) ws=some (l,(k':Int),b',t2,t22,x,x2,o7,o8,v.1,v.2):=fun h8 hB=>by
     obtain⟨v1,k1,b1,h1,a1,e1⟩:=ZU hL hT (cC hL hk hB) false;obtain⟨m',rfl⟩:∃m',m=m'+1:=⟨m-1,by omega⟩;obtain⟨v,k',b',h2,a2,e2⟩:=ih m' (fs++[v1]) ws k1 b1 (by omega) h1 (by rw[cq,List.length_singleton];omega) (by rw[cq,List.length_singleton];omega) hws;refine⟨v1,k1,b1,v,k',b',h2,e1,?_,e2⟩;rw[eC,hK];unfold nE;rw[hB,eX (show((fs.length:Nat):Int)<8 by omega)];exact At.bind (r:=mH l (k+1)) a1 a2
    have world:(decide (((fs.length:Nat):Int)<8)&&aB l [105,110,116,101,114,102,97,99,101] k)=false->ws.length<8->aB l [119,111,114,108,100] k=true->∃v1 k1 b1 v k' b',k'<l.length/\M.qZ (ip l (k+1) false)=some (v1,ip l k1 b1)/\At (RB false k (eC l m fs ws k)) v k' b'/\M.jd t2 t22 x x2 o7 o8 (f'+1) (ip l k1 b1) fs (ws++[v1])=some (l,(k':Int),b',t2,t22,x,x2,o7,o8,v.1,v.2):=fun hF h8 hB=>by
     obtain⟨v1,k1,b1,h1,a1,e1⟩:=ZY hL hT (cC hL hk hB) false;obtain⟨m',rfl⟩:∃m',m=m'+1:=⟨m-1,by omega⟩;obtain⟨v,k',b',h2,a2,e2⟩:=ih m' fs (ws++[v1]) k1 b1 (by omega) h1 (by rw[cq,List.length_singleton];omega) hfs (by rw[cq,List.length_singleton];omega);refine⟨v1,k1,b1,v,k',b',h2,e1,?_,e2⟩;rw[eC,hK];unfold nE qI;rw[hF,hB,eX (show((ws.length:Nat):Int)<8 by omega)];exact At.bind (r:=po l (k+1)) a1 a2
    have nothing:(decide (((fs.length:Nat):Int)<8)&&aB l [105,110,116,101,114,102,97,99,101] k)=false->(decide (((ws.length:Nat):Int)<8)&&aB l [119,111,114,108,100] k)=false->eC l m fs ws k=.no k:=fun hF hW=>by
     cases m with
     |zero=>rw[eC,hK];rfl
     |succ m=>rw[eC,hK];unfold nE qI;rw[hF,hW];rfl
    have world':(decide (((fs.length:Nat):Int)<8)&&aB l [105,110,116,101,114,102,97,99,101] k)=false->∀dW:decide (((ws.length:Nat):Int)<8)=true,aB l [119,111,114,108,100] k=true->ws.length<8:=fun _ h _=>by
     have:=jQ h;omega
    cases dF:decide (((fs.length:Nat):Int)<8)
    ·rw[dF,cD]at world nothing;cases dW:decide (((ws.length:Nat):Int)<8)
     ·simp only[gd,kb,jl,kN,mL,jH hk,hK,dF,dW,bne,bQ,bp,bc,cO,cD,af,ar,aw,ay,cF,au,ij,bP];exact bad (nothing rfl (by rw[dW];rfl))
     ·cases hW:aB l [119,111,114,108,100] k
      ·rw[hW]at tW;simp only[gd,kb,jl,kN,mL,jH hk,hK,dF,dW,bne,bQ,bp,bc,cO,cD,af,ar,aw,ay,cF,au,ij,bP,tW];exact bad (nothing rfl (by rw[hW,Bool.and_false]))
      ·rw[hW]at tW;obtain⟨v1,k1,b1,v,k',b',h2,e1,a2,e2⟩:=world rfl (by have:=jQ dW;omega) hW;refine⟨v,k',b',h2,a2,?_⟩;simp only[gd,kb,jl,kN,mL,jH hk,hK,dF,dW,bne,bQ,bp,bc,cO,cD,af,ar,aw,ay,cF,au,ij,bP,tW,e1,dy (show ws.length<=1000 by omega)];exact e2
    ·cases hF:aB l [105,110,116,101,114,102,97,99,101] k
     ·rw[hF]at tF;rw[hF,Bool.and_false]at world nothing;cases dW:decide (((ws.length:Nat):Int)<8)
      ·simp only[gd,kb,jl,kN,mL,jH hk,hK,dF,dW,bne,bQ,bp,bc,cO,cD,af,ar,aw,ay,cF,au,ij,bP,tF];exact bad (nothing rfl (by rw[dW];rfl))
      ·cases hW:aB l [119,111,114,108,100] k
       ·rw[hW]at tW;simp only[gd,kb,jl,kN,mL,jH hk,hK,dF,dW,bne,bQ,bp,bc,cO,cD,af,ar,aw,ay,cF,au,ij,bP,tF,tW];exact bad (nothing rfl (by rw[hW,Bool.and_false]))
       ·rw[hW]at tW;obtain⟨v1,k1,b1,v,k',b',h2,e1,a2,e2⟩:=world rfl (by have:=jQ dW;omega) hW;refine⟨v,k',b',h2,a2,?_⟩;simp only[gd,kb,jl,kN,mL,jH hk,hK,dF,dW,bne,bQ,bp,bc,cO,cD,af,ar,aw,ay,cF,au,ij,bP,tF,tW,e1,dy (show ws.length<=1000 by omega)];exact e2
     ·rw[hF]at tF;obtain⟨v1,k1,b1,v,k',b',h2,e1,a2,e2⟩:=GI (by have:=jQ dF;omega) hF;refine⟨v,k',b',h2,a2,?_⟩;simp only[gd,kb,jl,kN,mL,jH hk,hK,dF,bne,bQ,bp,bc,cO,cD,af,ar,aw,ay,cF,au,ij,bP,tF,e1,dy (show fs.length<=1000 by omega)];exact e2
   ·refine⟨(fs,ws),k,false,hk,?_,?_⟩
    ·cases m<;>(rw[eC,hK];exact Or.inl ⟨rfl,rfl⟩)
    ·simp only[gd,kb,jl,kN,mL,jH hk,hK,bne,bQ,bp,Bool.and_false,ar,af,aw,ay,cF,au,bP]
theorem Z2{l:List ae}(hL:bI l)(hT:∀t∈l,t.Text.length<=30000)(t2 t22 x x2:List UInt8)(o7:List aC)(o8:List aL):∀(f m:Nat)(fs:List aC)(ws:List aL)(k:Nat)(b:Bool),m+1<f->k<l.length->fs.length+ws.length+m=16->fs.length<=8->ws.length<=8->
 ∃v k' b',k'<l.length/\At (RB b k (eC l m fs ws k)) v k' b'/\M.jm t2 t22 x x2 o7 o8 f (sp l k b) fs ws=some (l,(k':Int),b',t2,t22,x,x2,o7,o8,v.1,v.2):=by
 have hend:∀(f k:Nat)(fs:List aC)(ws:List aL),k<l.length->M.jm t2 t22 x x2 o7 o8 (f+1) (sp l k true) fs ws=some (l,(k:Int),true,t2,t22,x,x2,o7,o8,fs,ws):=fun f k fs ws hk=>by
  rw[M.jm];simp only[gv,ir,iu,jJ,kG hk,bQ,cD,ar,bP,au,af,cF]
 intro f
 induction f with
 |zero=>intro m fs ws k b h;omega
 |succ f ih=>
  intro m fs ws k b hf hk hm hfs hws;obtain⟨f',rfl⟩:∃f',f=f'+1:=⟨f-1,by omega⟩;cases b with
  |true=>exact⟨(fs,ws),k,true,hk,At.no _ _ _,hend _ k fs ws hk⟩
  |false=>
   rw[M.jm];cases hK:((bE l k).Kind==4)
   ·have bad:eC l m fs ws k=.no k->∃v k' b',k'<l.length/\At (RB false k (eC l m fs ws k)) v k' b'/\M.jm t2 t22 x x2 o7 o8 (f'+1) (sp l k true) fs ws=some (l,(k':Int),b',t2,t22,x,x2,o7,o8,v.1,v.2):=fun e=>by
     rw[e];exact⟨(fs,ws),k,true,hk,Or.inr ⟨rfl,rfl⟩,hend _ k fs ws hk⟩
    have tF:=eM hL hk [105,110,116,101,114,102,97,99,101] false;have tW:=eM hL hk [119,111,114,108,100] false;rw[bp,bc]at tF tW;have GI:fs.length<8->aB l [105,110,116,101,114,102,97,99,101] k=true->∃v1 k1 b1 v k' b',k'<l.length/\M.vI (sp l (k+1) false)=some (v1,sp l k1 b1)/\At (RB false k (eC l m fs ws k)) v k' b'/\M.jm t2 t22 x x2 o7 o8 (f'+1) (sp l k1 b1) (fs++[v1]) ws=some (l,(k':Int),b',t2,t22,x,x2,o7,o8,v.1,v.2):=fun h8 hB=>by
     obtain⟨v1,k1,b1,h1,a1,e1⟩:=ZW hL hT (cC hL hk hB) false;obtain⟨m',rfl⟩:∃m',m=m'+1:=⟨m-1,by omega⟩;obtain⟨v,k',b',h2,a2,e2⟩:=ih m' (fs++[v1]) ws k1 b1 (by omega) h1 (by rw[cq,List.length_singleton];omega) (by rw[cq,List.length_singleton];omega) hws;refine⟨v1,k1,b1,v,k',b',h2,e1,?_,e2⟩;rw[eC,hK];unfold nE;rw[hB,eX (show((fs.length:Nat):Int)<8 by omega)];exact At.bind (r:=mH l (k+1)) a1 a2
    have world:(decide (((fs.length:Nat):Int)<8)&&aB l [105,110,116,101,114,102,97,99,101] k)=false->ws.length<8->aB l [119,111,114,108,100] k=true->∃v1 k1 b1 v k' b',k'<l.length/\M.sG (sp l (k+1) false)=some (v1,sp l k1 b1)/\At (RB false k (eC l m fs ws k)) v k' b'/\M.jm t2 t22 x x2 o7 o8 (f'+1) (sp l k1 b1) fs (ws++[v1])=some (l,(k':Int),b',t2,t22,x,x2,o7,o8,v.1,v.2):=fun hF h8 hB=>by
     obtain⟨v1,k1,b1,h1,a1,e1⟩:=Z0 hL hT (cC hL hk hB) false;obtain⟨m',rfl⟩:∃m',m=m'+1:=⟨m-1,by omega⟩;obtain⟨v,k',b',h2,a2,e2⟩:=ih m' fs (ws++[v1]) k1 b1 (by omega) h1 (by rw[cq,List.length_singleton];omega) hfs (by rw[cq,List.length_singleton];omega);refine⟨v1,k1,b1,v,k',b',h2,e1,?_,e2⟩;rw[eC,hK];unfold nE qI;rw[hF,hB,eX (show((ws.length:Nat):Int)<8 by omega)];exact At.bind (r:=po l (k+1)) a1 a2
    have nothing:(decide (((fs.length:Nat):Int)<8)&&aB l [105,110,116,101,114,102,97,99,101] k)=false->(decide (((ws.length:Nat):Int)<8)&&aB l [119,111,114,108,100] k)=false->eC l m fs ws k=.no k:=fun hF hW=>by
     cases m with
     |zero=>rw[eC,hK];rfl
     |succ m=>rw[eC,hK];unfold nE qI;rw[hF,hW];rfl
    have world':(decide (((fs.length:Nat):Int)<8)&&aB l [105,110,116,101,114,102,97,99,101] k)=false->∀dW:decide (((ws.length:Nat):Int)<8)=true,aB l [119,111,114,108,100] k=true->ws.length<8:=fun _ h _=>by
     have:=jQ h;omega
    cases dF:decide (((fs.length:Nat):Int)<8)
    ·rw[dF,cD]at world nothing;cases dW:decide (((ws.length:Nat):Int)<8)
     ·simp only[gv,ir,iu,jJ,kG hk,hK,dF,dW,bne,bQ,bp,bc,cO,cD,af,ar,aw,ay,cF,au,ij,bP];exact bad (nothing rfl (by rw[dW];rfl))
     ·cases hW:aB l [119,111,114,108,100] k
      ·rw[hW]at tW;simp only[gv,ir,iu,jJ,kG hk,hK,dF,dW,bne,bQ,bp,bc,cO,cD,af,ar,aw,ay,cF,au,ij,bP,tW];exact bad (nothing rfl (by rw[hW,Bool.and_false]))
      ·rw[hW]at tW;obtain⟨v1,k1,b1,v,k',b',h2,e1,a2,e2⟩:=world rfl (by have:=jQ dW;omega) hW;refine⟨v,k',b',h2,a2,?_⟩;simp only[gv,ir,iu,jJ,kG hk,hK,dF,dW,bne,bQ,bp,bc,cO,cD,af,ar,aw,ay,cF,au,ij,bP,tW,e1,dy (show ws.length<=1000 by omega)];exact e2
    ·cases hF:aB l [105,110,116,101,114,102,97,99,101] k
     ·rw[hF]at tF;rw[hF,Bool.and_false]at world nothing;cases dW:decide (((ws.length:Nat):Int)<8)
      ·simp only[gv,ir,iu,jJ,kG hk,hK,dF,dW,bne,bQ,bp,bc,cO,cD,af,ar,aw,ay,cF,au,ij,bP,tF];exact bad (nothing rfl (by rw[dW];rfl))
      ·cases hW:aB l [119,111,114,108,100] k
       ·rw[hW]at tW;simp only[gv,ir,iu,jJ,kG hk,hK,dF,dW,bne,bQ,bp,bc,cO,cD,af,ar,aw,ay,cF,au,ij,bP,tF,tW];exact bad (nothing rfl (by rw[hW,Bool.and_false]))
       ·rw[hW]at tW;obtain⟨v1,k1,b1,v,k',b',h2,e1,a2,e2⟩:=world rfl (by have:=jQ dW;omega) hW;refine⟨v,k',b',h2,a2,?_⟩;simp only[gv,ir,iu,jJ,kG hk,hK,dF,dW,bne,bQ,bp,bc,cO,cD,af,ar,aw,ay,cF,au,ij,bP,tF,tW,e1,dy (show ws.length<=1000 by omega)];exact e2
     ·rw[hF]at tF;obtain⟨v1,k1,b1,v,k',b',h2,e1,a2,e2⟩:=GI (by have:=jQ dF;omega) hF;refine⟨v,k',b',h2,a2,?_⟩;simp only[gv,ir,iu,jJ,kG hk,hK,dF,bne,bQ,bp,bc,cO,cD,af,ar,aw,ay,cF,au,ij,bP,tF,e1,dy (show fs.length<=1000 by omega)];exact e2
   ·refine⟨(fs,ws),k,false,hk,?_,?_⟩
    ·cases m<;>(rw[eC,hK];exact Or.inl ⟨rfl,rfl⟩)
    ·simp only[gv,ir,iu,jJ,kG hk,hK,bne,bQ,bp,Bool.and_false,ar,af,aw,ay,cF,au,bP]
theorem Z3{l:List ae}(hL:bI l)(hT:∀t∈l,t.Text.length<=30000){k:Nat}(hk:k<l.length)(b:Bool):
 ∃v k' b',k'<l.length/\At (RB b k (iV l k)) v k' b'/\M.wE (ip l k b)=some (bf.Name v,bf.Version v,ip l k' b',bf.cY v,bf.Worlds v):=by
 obtain⟨k1,b1,h1,a1,e1⟩:=iT hL hk (t:=yi) (fun d r e=>by cases e;decide) b;obtain⟨v2,k2,b2,h2,a2,e2,-⟩:=sD hL hT h1 b1;obtain⟨k3,b3,h3,a3,e3⟩:=iT hL h2 (cz 64 (by decide)) b2;obtain⟨v4,k4,b4,h4,a4,e4,-⟩:=MA hL hT h3 b3;obtain⟨k5,b5,h5,a5,e5⟩:=iT hL h4 (cz 59 (by decide)) b4;obtain⟨v6,k6,b6,h6,a6,e6⟩:=Z1 hL hT [] [] v2 v4 [] [] ai 16 [] [] k5 b5 (by have:=bB;omega) h5 rfl (by simp) (by simp);refine⟨bf.mk v2 v4 v6.1 v6.2,k6,b6,h6,a1.bo (a2.bo (a3.bo (a4.bo (a5.bo (a6.bo (At.ret _ _ _)))))),?_⟩;unfold yi at e1;unfold M.wE;simp only[e1,e2,e3,e4,e5,e6,aw,ay,au,af];rfl
theorem Z4{l:List ae}(hL:bI l)(hT:∀t∈l,t.Text.length<=30000){k:Nat}(hk:k<l.length)(b:Bool):
 ∃v k' b',k'<l.length/\At (RB b k (iV l k)) v k' b'/\M.vJ (sp l k b)=some (v,sp l k' b'):=by
 obtain⟨k1,b1,h1,a1,e1⟩:=jK hL hk yi b;obtain⟨v2,k2,b2,h2,a2,e2,-⟩:=sE hL hT h1 b1;obtain⟨k3,b3,h3,a3,e3⟩:=jK hL h2 [64] b2;obtain⟨v4,k4,b4,h4,a4,e4,-⟩:=MB hL h3 b3;obtain⟨k5,b5,h5,a5,e5⟩:=jK hL h4 [59] b4;obtain⟨v6,k6,b6,h6,a6,e6⟩:=Z2 hL hT [] [] v2 v4 [] [] ai 16 [] [] k5 b5 (by have:=bB;omega) h5 rfl (by simp) (by simp);refine⟨bf.mk v2 v4 v6.1 v6.2,k6,b6,h6,a1.bo (a2.bo (a3.bo (a4.bo (a5.bo (a6.bo (At.ret _ _ _)))))),?_⟩;unfold yi at e1;unfold M.vJ;simp only[e1,e2,e3,e4,e5,e6,aw,ay,au,af];rfl
end M
namespace M
open Go.V (inB bT ai bB)
theorem MG(s:List UInt8):∀(f a:Nat)(line:Int)(out:List ae)(y:Int×List ae),(∀t∈out,t.Text.length<=s.length)->iR s f a line out=.inr y->∀t∈y.2,t.Text.length<=s.length
 |0,a,line,out,y,ho,h=>by cases h
 |f+1,a,line,out,y,ho,h=>by
  unfold iR at h;split at h
  ·split at h
   ·cases h
   ·split at h
    ·cases h
    ·refine MG s f _ _ _ y (fun t ht=>?_) h;rcases dG.1 ht with q|q
     ·exact ho t q
     ·rw[kV]at q;rw[q];show(mD s a _).length<=_
      unfold mD;rw[rn,List.length_drop];omega
  ·cases h;exact ho
theorem MH(s:List UInt8):∀t∈(dQ s).1,t.Text.length<=30000:=by
 unfold dQ;split
 ·intro t h;cases h
 ·rename_i hl;have hs:=MG s ai (cm false s 1).1 (cm false s 1).2 [];generalize iR s ai (cm false s 1).1 (cm false s 1).2 []=r at*;cases r with
  |inl x=>intro t h;cases h
  |inr y=>
   intro t h;rcases dG.1 h with q|q
   ·have:=hs y (fun t q=>by cases q) rfl t q;omega
   ·rw[kV]at q;rw[q];simp
theorem GK(l:List ae):∀(m:Nat)(fs:List aC)(ws:List aL)(k:Nat)(v:List aC×List aL)(k':Nat),eC l m fs ws k=.ok v k'->(bE l k').Kind=4
 |0,fs,ws,k,v,k',h=>by
  rw[eC]at h;cases hK:((bE l k).Kind==4)<;>rw[hK]at h
  ·cases h
  ·cases h;exact dU.1 hK
 |m+1,fs,ws,k,v,k',h=>by
  rw[eC]at h;cases hK:((bE l k).Kind==4)<;>rw[hK]at h
  ·simp only[ar]at h;cases hF:(decide (((fs.length:Nat):Int)<8)&&aB l nE k)<;>rw[hF]at h
   ·simp only[ar]at h;cases hW:(decide (((ws.length:Nat):Int)<8)&&aB l qI k)<;>rw[hW]at h
    ·cases h
    ·simp only[af]at h;cases hf:po l (k+1)with
     |no q=>rw[hf]at h;cases h
     |ok w q=>rw[hf]at h;exact GK l m _ _ _ _ _ h
   ·simp only[af]at h;cases hf:mH l (k+1)with
    |no q=>rw[hf]at h;cases h
    |ok w q=>rw[hf]at h;exact GK l m _ _ _ _ _ h
  ·cases h;exact dU.1 hK
theorem bind_ok{α β:Type}{r:PR α}{f:α->Nat->PR β}{v:β}{k:Nat}(h:r.bind f=.ok v k):∃a k1,r=.ok a k1/\f a k1=.ok v k:=by
 cases r with
 |no q=>cases h
 |ok a q=>exact⟨a,q,rfl,h⟩
theorem MI(l:List ae)(k:Nat)(p:bf)(k':Nat)(h:iV l k=.ok p k'):(bE l k').Kind=4:=by
 unfold iV at h;obtain⟨_,_,_,h⟩:=bind_ok h;obtain⟨_,_,_,h⟩:=bind_ok h;obtain⟨_,_,_,h⟩:=bind_ok h;obtain⟨_,_,_,h⟩:=bind_ok h;obtain⟨_,_,_,h⟩:=bind_ok h;obtain⟨q,k6,h6,h⟩:=bind_ok h;cases h;exact GK l _ _ _ _ _ _ h6
noncomputable def jn(s:List UInt8):(Int×Int)⊕bf:=
 if(dQ s).2.2=0 then match iV (dQ s).1 0 with
  |.no k=>.inl ((bE (dQ s).1 k).Line,6)
  |.ok p _=>.inr p
 else .inl ((dQ s).2.1,(dQ s).2.2)
theorem Z5(s:List UInt8):match jn s with
 |.inl e=>e.2≠0/\∃n v fs ws,M.mY s [] [] [] []=some (e.1,e.2,n,v,fs,ws)
 |.inr p=>M.mY s [] [] [] []=some (0,0,bf.Name p,bf.Version p,bf.cY p,bf.Worlds p):=by
 have ht:=Zf s;unfold jn;by_cases h0:(dQ s).2.2=0
 ·rw[aO h0];have hL:=Gp s h0;have hT:=MH s;have e0:((dQ s).2.2 !=0)=false:=by rw[bne_eq_false_iff_eq];exact h0
  obtain⟨p,k,b,hk,a,e⟩:=Z3 hL hT hL.pos false;have ew:∀n v fs ws,M.wF (ad.mk (dQ s).1 0 false) n v fs ws=some (ip (dQ s).1 k b,bf.Name p,bf.Version p,bf.cY p,bf.Worlds p):=fun n v fs ws=>by
   unfold M.wF;rw[show ad.mk (dQ s).1 0 false=ip (dQ s).1 0 false from rfl,e];rfl
  rcases a with⟨q1,q2⟩|⟨q1,q2⟩
  ·rw[show RB false 0 (iV (dQ s).1 0)=iV (dQ s).1 0 from rfl]at q1;have h4:=MI _ _ _ _ q1;rw[q1];have e4:((bE (dQ s).1 k).Kind !=4)=false:=by rw[bne_eq_false_iff_eq];exact h4
   show M.mY s [] [] [] []=_
   unfold M.mY;simp only[ht,e0,ew,q2,gd,jl,mL,e4,jH hk,aw,ay,ar,af,me,bP,au]
  ·rw[show RB false 0 (iV (dQ s).1 0)=iV (dQ s).1 0 from rfl]at q1;rw[q1];refine⟨show(6:Int)≠0 by decide,bf.Name p,bf.Version p,bf.cY p,bf.Worlds p,?_⟩;unfold M.mY;simp only[ht,e0,ew,q2,gd,jl,mL,jH hk,aw,ay,ar,af,bP,au]
 ·rw[aX h0];have e0:((dQ s).2.2 !=0)=true:=by rw[pW];exact h0
  refine⟨h0,[],[],[],[],?_⟩;unfold M.mY;simp only[ht,e0,aw,ay,af,au]
theorem Z6(s:List UInt8)(c:bf->Bool)(hc:∀p,jn s=.inr p->M.vK p=some (c p)):M.sH s=some (match jn s with
 |.inl e=>(bf.mk [] [] [] [],e.1,e.2)
 |.inr p=>bif c p then(p,0,0)else(bf.mk [] [] [] [],0,1)):=by
 have ht:=Ze s;by_cases h0:(dQ s).2.2=0
 ·have hL:=Gp s h0;have hT:=MH s;have e0:((dQ s).2.2 !=0)=false:=by rw[bne_eq_false_iff_eq];exact h0
  obtain⟨p,k,b,hk,a,e⟩:=Z4 hL hT hL.pos false;have e':M.vJ (an.mk (dQ s).1 0 false)=some (p,sp (dQ s).1 k b):=e;rcases a with⟨q1,q2⟩|⟨q1,q2⟩
  ·rw[show RB false 0 (iV (dQ s).1 0)=iV (dQ s).1 0 from rfl]at q1;have hw:jn s=.inr p:=by unfold jn;rw[aO h0,q1]
   have hcp:=hc p hw;rw[hw];unfold M.sH;simp only[ht,e0,e',q2,gv,hcp,aw,ay,ar,au,af];cases c p<;>rfl
  ·rw[show RB false 0 (iV (dQ s).1 0)=iV (dQ s).1 0 from rfl]at q1;have hw:jn s=.inl ((bE (dQ s).1 k).Line,6):=by unfold jn;rw[aO h0,q1]
   rw[hw];unfold M.sH;simp only[ht,e0,e',q2,gv,kG hk,aw,ay,ar,au,af]
 ·have hw:jn s=.inl ((dQ s).2.1,(dQ s).2.2):=by unfold jn;rw[aX h0]
  have e0:((dQ s).2.2 !=0)=true:=by rw[pW];exact h0
  rw[hw];unfold M.sH;simp only[ht,e0,aw,ay,af,au]
end M
namespace M
open Go.V (inB bT ai bB)
theorem nF{n k:Nat}(h:k<n):inB (k:Int) n=true:=by rw[dK];simpa using h
theorem twice_in(list:List (List UInt8))(hl:list.length<=1000000)(i:Nat)(hi:i<list.length):∀(f k:Nat),i-k<f->k<=i->
 ((∃j,k<=j/\j<i/\list.getD i []=list.getD j [])/\M.sJ list (i:Int) f (k:Int)=some (.inl true))\/
 ((¬∃j,k<=j/\j<i/\list.getD i []=list.getD j [])/\M.sJ list (i:Int) f (k:Int)=some (.inr (list,(i:Int))))
 |0,k,h,_=>by omega
 |f+1,k,h,hk=>by
  rw[M.sJ];rcases cV k i with q|q
  ·rw[eX (show((k:Nat):Int)<((i:Nat):Int) by omega)];simp only[cH,nF (show k<list.length by omega),nF hi,af,au];have hw:Go.IntKind.wrap .i64 ((k:Int)+1)=((k+1:Nat):Int):=by rw[wrap_i64 (by omega) (by omega)];omega
   cases e:(list.getD i []==list.getD k [])
   ·have hne:list.getD i []≠list.getD k []:=cN.1 e;simp only[ar,hw];rcases twice_in list hl i hi f (k+1) (by omega) (by omega)with⟨⟨j,h1,h2,h3⟩,e1⟩|⟨h1,e1⟩
    ·exact Or.inl ⟨⟨j,by omega,h2,h3⟩,e1⟩
    ·refine Or.inr ⟨fun⟨j,a,b,c⟩=>?_,e1⟩;rcases Nat.eq_or_lt_of_le a with z|z
     ·rw[<-z]at c;exact hne c
     ·exact h1 ⟨j,by omega,b,c⟩
   ·exact Or.inl ⟨⟨k,bH _,q,dU.1 e⟩,rfl⟩
  ·rw[fL (show ¬((k:Nat):Int)<((i:Nat):Int) by omega)];exact Or.inr ⟨fun⟨j,a,b,_⟩=>by omega,rfl⟩
theorem MJ(list:List (List UInt8))(hl:list.length<=1000000):∀(f i:Nat),list.length-i<f->i<=list.length->
 ((∃a b,i<=a/\a<list.length/\b<a/\list.getD a []=list.getD b [])/\M.sK f list (i:Int)=some (.inl true))\/
 ((¬∃a b,i<=a/\a<list.length/\b<a/\list.getD a []=list.getD b [])/\M.sK f list (i:Int)=some (.inr ()))
 |0,i,h,_=>by omega
 |f+1,i,h,hi=>by
  rw[M.sK];rcases cV i list.length with q|q
  ·rw[eX (show((i:Nat):Int)<((list.length:Nat):Int) by omega)];have hw:Go.IntKind.wrap .i64 ((i:Int)+1)=((i+1:Nat):Int):=by rw[wrap_i64 (by omega) (by omega)];omega
   rcases twice_in list hl i q ai 0 (by have:=bB;omega) (eY _)with⟨⟨j,h1,h2,h3⟩,e1⟩|⟨h1,e1⟩
   ·refine Or.inl ⟨⟨i,j,bH _,q,h2,h3⟩,?_⟩;rw[show((0:Nat):Int)=0 from rfl]at e1;simp only[af,e1]
   ·rw[show((0:Nat):Int)=0 from rfl]at e1;simp only[af,e1,hw];rcases MJ list hl f (i+1) (by omega) (by omega)with⟨⟨a,b,x1,x2,x3,x4⟩,e2⟩|⟨h2,e2⟩
    ·exact Or.inl ⟨⟨a,b,by omega,x2,x3,x4⟩,e2⟩
    ·refine Or.inr ⟨fun⟨a,b,x1,x2,x3,x4⟩=>?_,e2⟩;rcases Nat.eq_or_lt_of_le x1 with z|z
     ·rw[<-z]at x3 x4;exact h1 ⟨b,eY _,x3,x4⟩
     ·exact h2 ⟨a,b,by omega,x2,x3,x4⟩
  ·rw[fL (show ¬((i:Nat):Int)<((list.length:Nat):Int) by omega)];exact Or.inr ⟨fun⟨a,b,x1,x2,_,_⟩=>by omega,rfl⟩
theorem Bc(list:List (List UInt8))(hl:list.length<=1000000):M.qJ list=some (!nodupB list):=by
 unfold M.qJ;have h:=MJ list hl ai 0 (by have:=bB;omega) (eY _);rw[show((0:Nat):Int)=0 from rfl]at h;rcases h with⟨⟨a,b,_,x2,x3,x4⟩,e⟩|⟨h1,e⟩
 ·have:nodupB list=false:=by
   rw[Bool.eq_false_iff];intro hn;have hn:=(Bd list).1 hn;have:=uz.1 hn b a (by omega) x2 x3;rw[fB,fB,bY x2,bY (show b<list.length by omega)]at x4;exact this x4.symm
  simp only[e,this,bp]
 ·have:nodupB list=true:=by
   rw[Bd];refine uz.2 fun i j hi hj hij e2=>h1 ⟨j,i,eY _,hj,hij,?_⟩
   rw[fB,fB,bY hj,bY hi];exact e2.symm
  simp only[e,this,bQ]
end M
namespace M
open Go.V (inB bT ai bB)
def mM(u:aH):List UInt8:=bif !(u.As==[])then u.As else u.Name
def typeOf(x:ak):List (List UInt8):=bif x.Kind==3 then[]else bif x.Kind==4 then x.Uses.map mM else[x.Name]
def funcOf(x:ak):List (List UInt8):=bif x.Kind==3 then[x.Name]else[]
def iv(xs:List ak):List (List UInt8):=(xs.map typeOf).flatten
def iw(xs:List ak):List (List UInt8):=(xs.map funcOf).flatten
theorem Z7(u:aH):M.yj u=some (mM u):=by
 unfold M.yj mM;cases (!(u.As==[]))<;>rfl
theorem Z8(u:aH):M.yk u=some (mM u):=by
 unfold M.yk mM;cases (!(u.As==[]))<;>rfl
theorem qK{α:Type}{l:List α}{k:Nat}(d:α)(h:k<l.length):List.getD l k d=l[k]:=by
 rw[fB,bY h];rfl
theorem nG{α:Type}{l:List α}{k:Nat}(h:k<l.length):l.drop k=l[k]::l.drop (k+1):=List.drop_eq_getElem_cons h
theorem qL{k n:Nat}(h:k<n):decide ((k:Int)<(n:Int))=true:=eX (by omega)
theorem qM{k n:Nat}(h:n<=k):decide ((k:Int)<(n:Int))=false:=fL (by omega)
theorem nH{k:Nat}(h:k<=1000000):Go.IntKind.wrap .i64 ((k:Int)+1)=((k+1:Nat):Int):=by rw[wrap_i64 (by omega) (by omega)];omega
theorem MK{t18:List aC}{t19 t20:Int}{t27:List ak}{t28 t29:Int}{x:bf}{f:aC}{faces worlds funcs:List (List UInt8)}(us:List aH)(hU:us.length<=1000):∀(n k:Nat)(types:List (List UInt8)),us.length-k<n->k<=us.length->types.length+(us.length-k)<=1000->
 M.vL t18 t19 t20 t27 t28 t29 us ((us.length:Nat):Int) x f faces worlds funcs n (k:Int) types=some (t18,t19,t20,t27,t28,t29,x,f,faces,worlds,funcs,types++(us.drop k).map mM)
 |0,k,types,h,_,_=>by omega
 |n+1,k,types,h,hk,hb=>by
  rw[M.vL];rcases cV k us.length with q|q
  ·have:=MK (t18:=t18) (t19:=t19) (t20:=t20) (t27:=t27) (t28:=t28) (t29:=t29) (x:=x) (f:=f) (faces:=faces) (worlds:=worlds) (funcs:=funcs) us hU n (k+1) (types++[mM us[k]]) (by omega) (by omega) (by rw[cq,List.length_singleton];omega);simp only[qL q,cH,qK _ q,Z7,aw,ay,dy (show types.length<=1000 by omega),nF q,au,af,nH (show k<=1000000 by omega),this];rw[nG q,gV,gQ,List.singleton_append]
  ·simp only[qM q,ar];rw[List.drop_eq_nil_of_le q,List.map_nil,rq]
theorem ML{t18:List aC}{t19 t20:Int}{x:bf}{f:aC}{faces worlds:List (List UInt8)}(xs:List ak)(hX:xs.length<=1000)(hu:∀i∈xs,i.Uses.length<=16):∀(n k:Nat)(funcs types:List (List UInt8)),xs.length-k<n->k<=xs.length->types.length+17*(xs.length-k)<=1000->funcs.length+(xs.length-k)<=1000->
 M.qN n t18 t19 t20 xs ((xs.length:Nat):Int) (k:Int) x f faces worlds funcs types=some (t18,t19,t20,x,f,faces,worlds,funcs++iw (xs.drop k),types++iv (xs.drop k))
 |0,k,_,_,h,_,_,_=>by omega
 |n+1,k,funcs,types,h,hk,hb,hc=>by
  rw[M.qN];rcases cV k xs.length with q|q
  ·have hx:=hu xs[k] (eH q);have ih:=fun fs ts=>ML (t18:=t18) (t19:=t19) (t20:=t20) (x:=x) (f:=f) (faces:=faces) (worlds:=worlds) xs hX hu n (k+1) fs ts (by omega) (by omega)
   have eF:iw (xs.drop k)=funcOf xs[k]++iw (xs.drop (k+1)):=by unfold iw;rw[nG q];rfl
   have eT:iv (xs.drop k)=typeOf xs[k]++iv (xs.drop (k+1)):=by unfold iv;rw[nG q];rfl
   rw[eF,eT];unfold funcOf typeOf;simp only[qL q,cH,qK _ q,af,nF q,au,nH (show k<=1000000 by omega)];cases h3:(xs[k].Kind==(3:Int))
   ·cases h4:(xs[k].Kind==(4:Int))
    ·have:=ih funcs (types++[xs[k].Name]) (by rw[cq,List.length_singleton];omega) (by omega);simp only[ar,af,dy (show types.length<=1000 by omega),au,this,fC,gQ]
    ·have hm:=MK (t18:=t18) (t19:=t19) (t20:=t20) (t27:=xs) (t28:=((xs.length:Nat):Int)) (t29:=((k:Nat):Int)) (x:=x) (f:=f) (faces:=faces) (worlds:=worlds) (funcs:=funcs) xs[k].Uses (by omega) ai 0 types (by have:=bB;omega) (eY _) (by omega);rw[show((0:Nat):Int)=0 from rfl,ft]at hm;have:=ih funcs (types++xs[k].Uses.map mM) (by rw[cq,kW];omega) (by omega);simp only[ar,af,hm,nH (show k<=1000000 by omega),this,fC,gQ]
   ·have:=ih (funcs++[xs[k].Name]) types (by omega) (by rw[cq,List.length_singleton];omega);simp only[af,dy (show funcs.length<=1000 by omega),au,this,fC,gQ]
  ·simp only[qM q,ar];rw[List.drop_eq_nil_of_le q];simp[iw,iv]
theorem MM{i:Int}{f:aC}{funcs:List (List UInt8)}(x:ak)(hU:x.Uses.length<=1000):∀(n k:Nat)(types:List (List UInt8)),x.Uses.length-k<n->k<=x.Uses.length->types.length+(x.Uses.length-k)<=1000->
 M.vM i f funcs n (k:Int) x types=some (i,f,types++(x.Uses.drop k).map mM,funcs)
 |0,k,types,h,_,_=>by omega
 |n+1,k,types,h,hk,hb=>by
  rw[M.vM];rcases cV k x.Uses.length with q|q
  ·have:=MM (i:=i) (f:=f) (funcs:=funcs) x hU n (k+1) (types++[mM x.Uses[k]]) (by omega) (by omega) (by rw[cq,List.length_singleton];omega);simp only[qL q,cH,qK _ q,Z8,aw,ay,dy (show types.length<=1000 by omega),nF q,au,af,nH (show k<=1000000 by omega),ak.bq,this];rw[nG q,gV,gQ,List.singleton_append]
  ·simp only[qM q,ar];rw[List.drop_eq_nil_of_le q,List.map_nil,rq]
theorem MN(f:aC)(hX:f.Items.length<=1000)(hu:∀i∈f.Items,i.Uses.length<=16/\1<=i.Kind/\i.Kind<=4):∀(n k:Nat)(funcs types:List (List UInt8)),f.Items.length-k<n->k<=f.Items.length->types.length+17*(f.Items.length-k)<=1000->funcs.length+(f.Items.length-k)<=1000->
 M.pt n (k:Int) f types funcs=some (types++iv (f.Items.drop k),funcs++iw (f.Items.drop k))
 |0,k,_,_,h,_,_,_=>by omega
 |n+1,k,funcs,types,h,hk,hb,hc=>by
  rw[M.pt];rcases cV k f.Items.length with q|q
  ·have hx:=hu f.Items[k] (eH q);have ih:=fun fs ts=>MN f hX hu n (k+1) fs ts (by omega) (by omega)
   have eF:iw (f.Items.drop k)=funcOf f.Items[k]++iw (f.Items.drop (k+1)):=by unfold iw;rw[nG q];rfl
   have eT:iv (f.Items.drop k)=typeOf f.Items[k]++iv (f.Items.drop (k+1)):=by unfold iv;rw[nG q];rfl
   rw[eF,eT];unfold funcOf typeOf;simp only[qL q,cH,qK _ q,af,nF q,au,bP,nH (show k<=1000000 by omega),ak.bq];have hkd:f.Items[k].Kind=1\/f.Items[k].Kind=2\/f.Items[k].Kind=3\/f.Items[k].Kind=4:=by omega
   rcases hkd with e|e|e|e
   ·have:=ih funcs (types++[f.Items[k].Name]) (by rw[cq,List.length_singleton];omega) (by omega);rw[e];simp only[Int.reduceBEq,ar,af,dy (show types.length<=1000 by omega),au,this,fC,gQ]
   ·have:=ih funcs (types++[f.Items[k].Name]) (by rw[cq,List.length_singleton];omega) (by omega);rw[e];simp only[Int.reduceBEq,ar,af,dy (show types.length<=1000 by omega),au,this,fC,gQ]
   ·have:=ih (funcs++[f.Items[k].Name]) types (by omega) (by rw[cq,List.length_singleton];omega);rw[e];simp only[Int.reduceBEq,ar,af,dy (show funcs.length<=1000 by omega),au,this,fC,gQ]
   ·have hm:=MM (i:=((k:Nat):Int)) (f:=f) (funcs:=funcs) f.Items[k] (by omega) ai 0 types (by have:=bB;omega) (eY _) (by omega);rw[show((0:Nat):Int)=0 from rfl,ft]at hm;have:=ih funcs (types++f.Items[k].Uses.map mM) (by rw[cq,kW];omega) (by omega);rw[e];simp only[Int.reduceBEq,ar,af,hm,nH (show k<=1000000 by omega),this,fC,gQ]
  ·simp only[qM q,ar];rw[List.drop_eq_nil_of_le q];simp[iw,iv]
end M
namespace M
open Go.V (inB bT ai bB)
def vN(f:aC):Prop:=f.Items.length<=16/\∀i∈f.Items,i.Uses.length<=16/\1<=i.Kind/\i.Kind<=4
def Be(p:bf):Prop:=p.cY.length<=8/\p.Worlds.length<=8/\∀f∈p.cY,vN f
def sL(f:aC):Bool:=nodupB (iv f.Items)&&nodupB (iw f.Items)
def qO(p:bf):Bool:=p.cY.all sL&&(nodupB (p.cY.map (·.Name))&&nodupB (p.Worlds.map (·.Name)))
theorem GL:∀(xs:List ak),(∀i∈xs,i.Uses.length<=16)->(iv xs).length<=17*xs.length
 |[],_=>bH _
 |x::r,h=>by
  have h1:=h x (by simp);have h2:=GL r fun i hi=>h i (by simp[hi])
  have e:iv (x::r)=typeOf x++iv r:=rfl;rw[e,cq,dH];have:(typeOf x).length<=16:=by
   unfold typeOf;cases (x.Kind==3)
   ·cases (x.Kind==4)
    ·simp
    ·simpa using h1
   ·simp
  omega
theorem GM:∀(xs:List ak),(iw xs).length<=xs.length
 |[]=>bH _
 |x::r=>by
  have h2:=GM r;have e:iw (x::r)=funcOf x++iw r:=rfl;rw[e,cq,dH];have:(funcOf x).length<=1:=by
   unfold funcOf;cases (x.Kind==3)<;>simp
  omega
theorem MO{x:bf}{worlds:List (List UInt8)}(fs:List aC)(hX:fs.length<=8)(hf:∀f∈fs,vN f):∀(n k:Nat)(faces:List (List UInt8)),fs.length-k<n->k<=fs.length->faces.length+(fs.length-k)<=1000->
 M.vO n fs ((fs.length:Nat):Int) (k:Int) x faces worlds=some (bif(fs.drop k).all sL then .inr (x,faces++(fs.drop k).map (·.Name),worlds)else .inl false)
 |0,k,faces,h,_,_=>by omega
 |n+1,k,faces,h,hk,hb=>by
  rw[M.vO];rcases cV k fs.length with q|q
  ·obtain⟨hf1,hf2⟩:=hf fs[k] (eH q);have hu:=fun i hi=>(hf2 i hi).1
   have hm:=ML (t18:=fs) (t19:=((fs.length:Nat):Int)) (t20:=((k:Nat):Int)) (x:=x) (f:=fs[k]) (faces:=faces) (worlds:=worlds) fs[k].Items (by omega) hu ai 0 [] [] (by have:=bB;omega) (eY _) (by simp;omega) (by simp;omega);rw[show((0:Nat):Int)=0 from rfl,ft,fC,fC]at hm;have l1:=GL fs[k].Items hu;have l2:=GM fs[k].Items;have d1:=Bf (iv fs[k].Items) (by omega);have d2:=Bf (iw fs[k].Items) (by omega);have ih:=MO (x:=x) (worlds:=worlds) fs hX hf n (k+1) (faces++[fs[k].Name]) (by omega) (by omega) (by rw[cq,List.length_singleton];omega);rw[nG q,List.all_cons];simp only[qL q,cH,qK _ q,af,hm,d1,d2,aw,ay,bP,nF q,au,nH (show k<=1000000 by omega),dy (show faces.length<=1000 by omega),ih];unfold sL;cases nodupB (iw fs[k].Items)
   ·simp only[bp,bP,af,Bool.and_false,cD,ar]
   ·cases nodupB (iv fs[k].Items)
    ·simp only[bp,bQ,ij,af,cD,ar]
    ·simp only[bQ,me,ar,au,bc,gV,gQ,List.singleton_append]
  ·simp only[qM q,ar];rw[List.drop_eq_nil_of_le q];simp
theorem MP{faces:List (List UInt8)}(ws:List aL)(hX:ws.length<=8):∀(n k:Nat)(worlds:List (List UInt8)),ws.length-k<n->k<=ws.length->worlds.length+(ws.length-k)<=1000->
 M.vP ws ((ws.length:Nat):Int) faces n (k:Int) worlds=some (faces,worlds++(ws.drop k).map (·.Name))
 |0,k,_,h,_,_=>by omega
 |n+1,k,worlds,h,hk,hb=>by
  rw[M.vP];rcases cV k ws.length with q|q
  ·have ih:=MP (faces:=faces) ws hX n (k+1) (worlds++[ws[k].Name]) (by omega) (by omega) (by rw[cq,List.length_singleton];omega);simp only[qL q,cH,qK _ q,af,nF q,au,nH (show k<=1000000 by omega),dy (show worlds.length<=1000 by omega),ih];rw[nG q,gV,gQ,List.singleton_append]
  ·simp only[qM q,ar];rw[List.drop_eq_nil_of_le q];simp
theorem Z9(p:bf)(hp:Be p):M.uw p=some (qO p):=by
 obtain⟨h1,h2,h3⟩:=hp;have e1:=MO (x:=p) (worlds:=[]) p.cY h1 h3 ai 0 [] (by have:=bB;omega) (eY _) (by simp;omega);have e2:=MP (faces:=p.cY.map (·.Name)) p.Worlds h2 ai 0 [] (by have:=bB;omega) (eY _) (by simp;omega);rw[show((0:Nat):Int)=0 from rfl,ft,fC]at e1 e2;have d1:=Bf (p.cY.map (·.Name)) (by rw[kW];omega);have d2:=Bf (p.Worlds.map (·.Name)) (by rw[kW];omega);unfold M.uw qO;rw[e1];cases p.cY.all sL
 ·rfl
 ·simp only[af,e2,d1,d2,aw,ay,bP,au,bc]
theorem aab(f:aC)(hf:vN f):M.yl f=some (iv f.Items,iw f.Items):=by
 have hm:=MN f (by have:=hf.1;omega) hf.2 ai 0 [] [] (by have:=bB;have:=hf.1;omega) (eY _) (by simp;have:=hf.1;omega) (by simp;have:=hf.1;omega);rw[show((0:Nat):Int)=0 from rfl,ft,fC,fC]at hm;unfold M.yl;simp only[hm]
theorem MQ(x:bf){worlds:List (List UInt8)}(hX:x.cY.length<=8)(hf:∀f∈x.cY,vN f):∀(n k:Nat)(faces:List (List UInt8)),x.cY.length-k<n->k<=x.cY.length->faces.length+(x.cY.length-k)<=1000->
 M.vQ x worlds n (k:Int) faces=some (bif(x.cY.drop k).all sL then .inr (x,faces++(x.cY.drop k).map (·.Name),worlds)else .inl false)
 |0,k,faces,h,_,_=>by omega
 |n+1,k,faces,h,hk,hb=>by
  rw[M.vQ];rcases cV k x.cY.length with q|q
  ·have hfk:=hf x.cY[k] (eH q);have hu:=fun i hi=>(hfk.2 i hi).1
   have l1:=GL x.cY[k].Items hu;have l2:=GM x.cY[k].Items;have l3:=hfk.1;have d1:=Bc (iv x.cY[k].Items) (by omega);have d2:=Bc (iw x.cY[k].Items) (by omega);have ih:=MQ x (worlds:=worlds) hX hf n (k+1) (faces++[x.cY[k].Name]) (by omega) (by omega) (by rw[cq,List.length_singleton];omega);rw[nG q,List.all_cons];simp only[qL q,cH,qK _ q,af,aab _ hfk,d1,d2,aw,ay,bP,nF q,au,nH (show k<=1000000 by omega),dy (show faces.length<=1000 by omega),ih];unfold sL;cases nodupB (iv x.cY[k].Items)
   ·simp only[bp,bP,af,Bool.and_false,cD,ar]
   ·cases nodupB (iw x.cY[k].Items)
    ·simp only[bp,bQ,ij,af,Bool.and_false,cD,ar]
    ·simp only[bQ,me,ar,au,bc,gV,gQ,List.singleton_append]
  ·simp only[qM q,ar];rw[List.drop_eq_nil_of_le q];simp
theorem MR(x:bf){faces:List (List UInt8)}(hX:x.Worlds.length<=8):∀(n k:Nat)(worlds:List (List UInt8)),x.Worlds.length-k<n->k<=x.Worlds.length->worlds.length+(x.Worlds.length-k)<=1000->
 M.vR x faces n (k:Int) worlds=some (faces,worlds++(x.Worlds.drop k).map (·.Name))
 |0,k,_,h,_,_=>by omega
 |n+1,k,worlds,h,hk,hb=>by
  rw[M.vR];rcases cV k x.Worlds.length with q|q
  ·have ih:=MR x (faces:=faces) hX n (k+1) (worlds++[x.Worlds[k].Name]) (by omega) (by omega) (by rw[cq,List.length_singleton];omega);simp only[qL q,cH,qK _ q,af,nF q,au,nH (show k<=1000000 by omega),dy (show worlds.length<=1000 by omega),ih];rw[nG q,gV,gQ,List.singleton_append]
  ·simp only[qM q,ar];rw[List.drop_eq_nil_of_le q];simp
theorem aac(p:bf)(hp:Be p):M.vK p=some (qO p):=by
 obtain⟨h1,h2,h3⟩:=hp;have e1:=MQ p (worlds:=[]) h1 h3 ai 0 [] (by have:=bB;omega) (eY _) (by simp;omega);have e2:=MR p (faces:=p.cY.map (·.Name)) h2 ai 0 [] (by have:=bB;omega) (eY _) (by simp;omega);rw[show((0:Nat):Int)=0 from rfl,ft,fC]at e1 e2;have d1:=Bc (p.cY.map (·.Name)) (by rw[kW];omega);have d2:=Bc (p.Worlds.map (·.Name)) (by rw[kW];omega);unfold M.vK qO;rw[e1];cases p.cY.all sL
 ·rfl
 ·simp only[af,e2,d1,d2,aw,ay,bP,au,bc,Bool.not_not]
end M
namespace M
open Go.V (inB bT ai bB)
theorem MS{α:Type}{P:α->Prop}(l:List ae)(el:Nat->PR α)(he:∀k v k',el k=.ok v k'->P v):∀(m:Nat)(acc:List α)(k:Nat)(vs:List α)(k':Nat),(∀v∈acc,P v)->dN l el m acc k=.ok vs k'->vs.length<=acc.length+m+1/\∀v∈vs,P v
 |m,acc,k,vs,k',ha,h=>by
  rw[dN.eq_def]at h;dsimp only at h;have one:∀v k1,el k=.ok v k1->∀w∈acc++[v],P w:=fun v k1 e w hw=>by
   rcases dG.1 hw with q|q
   ·exact ha w q
   ·rw[kV.1 q];exact he _ _ _ e
  cases hk:el k with
  |no q=>rw[hk]at h;cases h
  |ok v k1=>
   rw[hk]at h;cases m with
   |zero=>
    cases h;exact⟨by rw[cq,List.length_singleton];omega,one v _ hk⟩
   |succ m=>
    simp only at h;cases hc:aB l [44] k1<;>rw[hc]at h
    ·cases h;exact⟨by rw[cq,List.length_singleton];omega,one v _ hk⟩
    ·have:=MS l el he m (acc++[v]) (k1+1) vs k' (one v k1 hk) h;rw[cq,List.length_singleton]at this;exact⟨by omega,this.2⟩
theorem MU{α:Type}{P:α->Prop}(l:List ae)(el:Nat->PR α)(he:∀k v k',el k=.ok v k'->P v):∀(m:Nat)(acc:List α)(k:Nat)(vs:List α)(k':Nat),(∀v∈acc,P v)->fl l el m acc k=.ok vs k'->vs.length<=acc.length+m/\∀v∈vs,P v
 |0,acc,k,vs,k',ha,h=>by
  rw[fl]at h;obtain⟨_,_,_,h⟩:=bind_ok h;cases h;exact⟨by omega,ha⟩
 |m+1,acc,k,vs,k',ha,h=>by
  rw[fl]at h;cases hc:aB l [125] k<;>rw[hc]at h
  ·obtain⟨v,k1,hk,h⟩:=bind_ok h;have:=MU l el he m (acc++[v]) k1 vs k' (fun w hw=>by
    rcases dG.1 hw with q|q
    ·exact ha w q
    ·rw[kV.1 q];exact he _ _ _ hk) h
   rw[cq,List.length_singleton]at this;exact⟨by omega,this.2⟩
  ·cases h;exact⟨by omega,ha⟩
theorem GN{P:aC->Prop}{Q:aL->Prop}(l:List ae)(hP:∀k v k',mH l k=.ok v k'->P v)(hQ:∀k v k',po l k=.ok v k'->Q v):∀(m:Nat)(fs:List aC)(ws:List aL)(k:Nat)(v:List aC×List aL)(k':Nat),
 fs.length<=8->ws.length<=8->(∀f∈fs,P f)->(∀w∈ws,Q w)->eC l m fs ws k=.ok v k'->v.1.length<=8/\v.2.length<=8/\(∀f∈v.1,P f)/\∀w∈v.2,Q w
 |0,fs,ws,k,v,k',h1,h2,h3,h4,h=>by
  rw[eC]at h;cases hK:((bE l k).Kind==4)<;>rw[hK]at h
  ·cases h
  ·cases h;exact⟨h1,h2,h3,h4⟩
 |m+1,fs,ws,k,v,k',h1,h2,h3,h4,h=>by
  rw[eC]at h;cases hK:((bE l k).Kind==4)<;>rw[hK]at h
  ·simp only[ar]at h;cases hF:(decide (((fs.length:Nat):Int)<8)&&aB l nE k)<;>rw[hF]at h
   ·simp only[ar]at h;cases hW:(decide (((ws.length:Nat):Int)<8)&&aB l qI k)<;>rw[hW]at h
    ·cases h
    ·simp only[af]at h;obtain⟨w,k1,hk,h⟩:=bind_ok h;have h8:=jQ (Bool.and_eq_true_iff.1 hW).1;exact GN l hP hQ m fs (ws++[w]) k1 v k' h1 (by rw[cq,List.length_singleton];omega) h3 (fun x hx=>by
      rcases dG.1 hx with q|q
      ·exact h4 x q
      ·rw[kV.1 q];exact hQ _ _ _ hk) h
   ·simp only[af]at h;obtain⟨f,k1,hk,h⟩:=bind_ok h;have h8:=jQ (Bool.and_eq_true_iff.1 hF).1;exact GN l hP hQ m (fs++[f]) ws k1 v k' (by rw[cq,List.length_singleton];omega) h2 (fun x hx=>by
     rcases dG.1 hx with q|q
     ·exact h3 x q
     ·rw[kV.1 q];exact hP _ _ _ hk) h4 h
  ·cases h;exact⟨h1,h2,h3,h4⟩
theorem aad(l:List ae)(nm:List UInt8)(k:Nat)(v:ak)(k':Nat)(h:pn l nm k=.ok v k'):v.Kind=3/\v.Uses=[]:=by
 have:∀as k,sF l nm as k=.ok v k'->v.Kind=3/\v.Uses=[]:=fun as k h=>by
  unfold sF at h;obtain⟨_,_,_,h⟩:=bind_ok h;obtain⟨_,_,_,h⟩:=bind_ok h;obtain⟨_,_,_,h⟩:=bind_ok h;cases h;exact⟨rfl,rfl⟩
 unfold pn at h;cases hc:aB l qF k<;>rw[hc]at h<;>exact this _ _ h
theorem aae(l:List ae)(k:Nat)(v:ak)(k':Nat)(h:lW l k=.ok v k'):v.Uses.length<=16/\1<=v.Kind/\v.Kind<=4:=by
 unfold lW nC at h;obtain⟨x,k1,hx,h⟩:=bind_ok h;obtain⟨_,_,_,h⟩:=bind_ok h;cases h;obtain⟨nm,k2,_,hx⟩:=bind_ok hx;unfold kR at hx;cases jL:aB l [58] k2<;>rw[jL]at hx
 ·cases hR:(nm==mG)<;>rw[hR]at hx
  ·cases hY:(nm==pg)<;>rw[hY]at hx
   ·cases hU:(nm==pj)<;>rw[hU]at hx
    ·cases hx
    ·simp only[af,ar]at hx;unfold yd at hx;obtain⟨_,_,_,hx⟩:=bind_ok hx;obtain⟨_,_,_,hx⟩:=bind_ok hx;obtain⟨_,_,_,hx⟩:=bind_ok hx;obtain⟨us,_,hu,hx⟩:=bind_ok hx;obtain⟨_,_,_,hx⟩:=bind_ok hx;cases hx;have:=(MS (P:=fun _=>True) l _ (fun _ _ _ _=>trivial) 15 [] _ us _ (fun _ _=>trivial) hu).1;exact⟨by simpa using this,by show(1:Int)<=4;decide,by show(4:Int)<=4;decide⟩
   ·simp only[af,ar]at hx;obtain⟨_,_,_,hx⟩:=bind_ok hx;obtain⟨_,_,_,hx⟩:=bind_ok hx;obtain⟨_,_,_,hx⟩:=bind_ok hx;cases hx;exact⟨by simp,by show(1:Int)<=2;decide,by show(2:Int)<=4;decide⟩
  ·simp only[af,ar]at hx;obtain⟨_,_,_,hx⟩:=bind_ok hx;cases hx;exact⟨by simp,by show(1:Int)<=1;decide,by show(1:Int)<=4;decide⟩
 ·obtain⟨e1,e2⟩:=aad l _ _ _ _ hx;rw[e1,e2];exact⟨by simp,by decide,by decide⟩
theorem aaf(l:List ae)(k:Nat)(v:aC)(k':Nat)(h:mH l k=.ok v k'):vN v:=by
 unfold mH at h;obtain⟨_,_,_,h⟩:=bind_ok h;obtain⟨_,_,_,h⟩:=bind_ok h;obtain⟨xs,_,hx,h⟩:=bind_ok h;cases h;have:=MU (P:=fun v:ak=>v.Uses.length<=16/\1<=v.Kind/\v.Kind<=4) l (lW l) (aae l) 16 [] _ xs _ (by simp) hx;exact⟨by simpa using this.1,this.2⟩
theorem aag(l:List ae)(k:Nat)(p:bf)(k':Nat)(h:iV l k=.ok p k'):Be p:=by
 unfold iV at h;obtain⟨_,_,_,h⟩:=bind_ok h;obtain⟨_,_,_,h⟩:=bind_ok h;obtain⟨_,_,_,h⟩:=bind_ok h;obtain⟨_,_,_,h⟩:=bind_ok h;obtain⟨_,_,_,h⟩:=bind_ok h;obtain⟨q,k6,h6,h⟩:=bind_ok h;cases h;have:=GN (P:=vN) (Q:=fun _=>True) l (aaf l) (fun _ _ _ _=>trivial) 16 [] [] _ q _ (by simp) (by simp) (by simp) (by simp) h6;exact⟨this.1,this.2.1,this.2.2.1⟩
theorem MV(s:List UInt8)(p:bf)(h:jn s=.inr p):Be p:=by
 unfold jn at h;split at h
 ·split at h
  ·cases h
  ·rename_i hp;cases h;exact aag _ _ _ _ hp
 ·cases h
def noPack:bf:=bf.mk [] [] [] []
noncomputable def vS(s:List UInt8):bf×Int×Int:=match jn s with
 |.inl e=>(noPack,e.1,e.2)
 |.inr p=>bif qO p then(p,0,0)else(noPack,0,1)
theorem aah(s:List UInt8):M.ym s=some (vS s):=by
 unfold M.ym;rw[Z6 s qO fun p hp=>aac p (MV s p hp)];rfl
theorem aai(s:List UInt8):M.zC s=some (vS s):=by
 have h:=Z5 s;unfold M.zC vS;cases hw:jn s with
 |inl e=>
  rw[hw]at h;obtain⟨h0,n,v,fs,ws,h1⟩:=h;have e0:(e.2 !=0)=true:=by rw[pW];exact h0
  simp only[h1,e0,aw,ay,af,au];rfl
 |inr p=>
  rw[hw]at h;have h:M.mY s [] [] [] []=some (0,0,bf.Name p,bf.Version p,bf.cY p,bf.Worlds p):=h;have e0:((0:Int) !=0)=false:=rfl;have ep:bf.mk (bf.Name p) (bf.Version p) (bf.cY p) (bf.Worlds p)=p:=rfl;simp only[h,e0,ep,Z9 p (MV s p hw),aw,ay,ar,af,au];cases qO p<;>rfl
end M
