/-
  FUNCTIONS and items: both readers.
-/
import Derived.Test.YtiacpoahkccfaaaGreatDoorXXPa
set_option linter.unusedVariables false
set_option linter.unusedSimpArgs false
namespace M
open Go.V (inB bS ad bA)
def qN:List UInt8:=[97,115,121,110,99]
def Av:List UInt8:=[102,117,110,99]
def mU:List UInt8:=[114,101,115,111,117,114,99,101]
def oS:List UInt8:=[116,121,112,101]
def oU:List UInt8:=[117,115,101]
def jC:bf:=bf.mk [] [] []
def lQ:aa:=aa.mk 0 [] [] []
def xF(l:List ai)(k:Nat):PR (List ax):=(cE l [40] k).bind fun _ k1=>
 bif aH l [41] k1 then .ok [] (k1+1)else(d4 l (kn l) 5 [] k1).bind fun ps k2=>(cE l [41] k2).bind fun _ k3=>.ok ps k3
def Aw(l:List ai)(k:Nat):PR aa:=bif aH l [45,62] k then d5 l 4 (k+1)else .ok dK k
def qO(l:List ai)(nm:List UInt8)(as:Bool)(k:Nat):PR ah:=
 (cE l Av k).bind fun _ k1=>(xF l k1).bind fun ps k2=>(Aw l k2).bind fun t k3=>.ok (ah.mk 3 nm t ps as jC []) k3
def nL(l:List ai)(nm:List UInt8)(k:Nat):PR ah:=bif aH l qN k then qO l nm true (k+1)else qO l nm false k
def xG(l:List ai)(k:Nat):PR ah:=(oR l k).bind fun p k1=>(cE l [46] k1).bind fun _ k2=>(cE l [123] k2).bind fun _ k3=>
 (d4 l (mh l) 15 [] k3).bind fun us k4=>(cE l [125] k4).bind fun _ k5=>.ok (ah.mk 4 [] lQ [] false p us) k5
def kR(l:List ai)(nm:List UInt8)(k1:Nat):PR ah:=
 bif aH l [58] k1 then nL l nm (k1+1)
 else bif nm==mU then(mf l k1).bind fun n k2=>.ok (ah.mk 1 n lQ [] false jC []) k2
 else bif nm==oS then(mf l k1).bind fun n k2=>(cE l [61] k2).bind fun _ k3=>(d5 l 4 k3).bind fun t k4=>.ok (ah.mk 2 n t [] false jC []) k4
 else bif nm==oU then xG l k1
 else .no k1
def nM(l:List ai)(k:Nat):PR ah:=(gX l k).bind (kR l)
theorem Le{l:List ai}(hL:b9 l){k:Nat}(hk:k<l.length){t:List UInt8}(hn:so t)(b:Bool):
 ∃c k' b',k'<l.length/\M.eI t (ip l k b)=some (c,ip l k' b')/\(c=true->k'=k+1/\b'=false)/\(c=false->k'=k/\b'=b)/\∀(α:Type)(x y:PR α),RB b k (bif aH l t k then x else y)=RB b' k' (bif c then x else y):=by
 rw[iU hL hk hn b];cases h:(!b&&aH l t k)
 ·exact⟨false,k,b,hk,rfl,(fun q=>by cases q),(fun _=>⟨rfl,rfl⟩),fun α x y=>by rw[mQ h];rfl⟩
 ·obtain⟨h2,hb⟩:=mR hL hk h;subst hb;exact⟨true,k+1,false,h2,rfl,(fun _=>⟨rfl,rfl⟩),(fun q=>by cases q),fun α x y=>by rw[lM h];rfl⟩
theorem Ro{l:List ai}(hL:b9 l){k:Nat}(hk:k<l.length)(t:List UInt8)(b:Bool):
 ∃c k' b',k'<l.length/\M.dN t (sp l k b)=some (c,sp l k' b')/\(c=true->k'=k+1/\b'=false)/\(c=false->k'=k/\b'=b)/\∀(α:Type)(x y:PR α),RB b k (bif aH l t k then x else y)=RB b' k' (bif c then x else y):=by
 rw[fq hL hk t b];cases h:(!b&&aH l t k)
 ·exact⟨false,k,b,hk,rfl,(fun q=>by cases q),(fun _=>⟨rfl,rfl⟩),fun α x y=>by rw[mQ h];rfl⟩
 ·obtain⟨h2,hb⟩:=mR hL hk h;subst hb;exact⟨true,k+1,false,h2,rfl,(fun _=>⟨rfl,rfl⟩),(fun q=>by cases q),fun α x y=>by rw[lM h];rfl⟩
theorem xH{l:List ai}{nm:List UInt8}{k1 k2:Nat}{b1 b2 as:Bool}(t2:as=true->k2=k1+1/\b2=false)(f2:as=false->k2=k1/\b2=b1)
 (r2:∀(α:Type)(x y:PR α),RB b1 k1 (bif aH l qN k1 then x else y)=RB b2 k2 (bif as then x else y)):RB b1 k1 (nL l nm k1)=RB b2 k2 (qO l nm as k2):=by
 unfold nL;rw[r2];cases as
 ·rw[(f2 rfl).1];rfl
 ·rw[(t2 rfl).1];rfl
theorem xI{l:List ai}{k1 k2:Nat}{b1 b2 as:Bool}(t2:as=true->k2=k1+1/\b2=false)(f2:as=false->k2=k1/\b2=b1)
 (r2:∀(α:Type)(x y:PR α),RB b1 k1 (bif aH l [45,62] k1 then x else y)=RB b2 k2 (bif as then x else y)):RB b1 k1 (Aw l k1)=RB b2 k2 (bif as then d5 l 4 k2 else .ok dK k2):=by
 unfold Aw;rw[r2];cases as
 ·rw[(f2 rfl).1];rfl
 ·rw[(t2 rfl).1];rfl
theorem Rq{l:List ai}(hL:b9 l)(hT:∀t∈l,t.Text.length<=30000)(nm:List UInt8){k:Nat}(hk:k<l.length)(b:Bool):
 ∃v k' b',k'<l.length/\At (RB b k ((cE l [58] k).bind fun _ k1=>nL l nm k1)) v k' b'/\M.xJ nm (ip l k b)=some (v,ip l k' b'):=by
 obtain⟨k1,b1,h1,a1,e1⟩:=jB hL hk (cU 58 (by decide)) b;obtain⟨as,k2,b2,h2,e2,t2,f2,r2⟩:=Le hL h1 (t:=qN) (fun d r e=>by cases e;decide) b1;obtain⟨k3,b3,h3,a3,e3⟩:=jB hL h2 (t:=Av) (fun d r e=>by cases e;decide) b2;obtain⟨k4,b4,h4,a4,e4⟩:=jB hL h3 (cU 40 (by decide)) b3;have e5:=Ac hL h4 (cU 41 (by decide)) b4;unfold qN at e2;unfold Av at e3;unfold M.xJ;simp only[e1,e2,e3,e4,e5,aw,al,ak];cases oQ:(!b4&&aH l [41] k4)
 ·obtain⟨ps,k5,b5,h5,a5,e6⟩:=ahs hL hT 3 nm 1 [] as [] [] [] [] [] [] h4 b4;obtain⟨k6,b6,h6,a6,e7⟩:=jB hL h5 (cU 41 (by decide)) b5;obtain⟨c,k7,b7,h7,e8,t7,f7,r7⟩:=Le hL h6 (t:=[45,62]) (fun d r e=>by cases e;decide) b6;have sA:At (RB b3 k3 (xF l k3)) ps k6 b6:=by
   refine a4.bJ ?_;rw[mQ oQ];exact a5.bJ (a6.bJ (At.ret _ _ _))
  simp only[bq,ae,e6,e7,e8,aw,al,ak];cases c
  ·refine⟨ah.mk 3 nm dK ps as jC [],k7,b7,h7,a1.bJ ?_,rfl⟩;rw[xH t2 f2 r2];refine a3.bJ (sA.bJ ?_);rw[vh,xI t7 f7 r7];exact At.bind (At.ret _ _ _) (At.ret _ _ _)
  ·obtain⟨v,k8,b8,h8,a8,e9⟩:=EN hL hT h7 b7;refine⟨ah.mk 3 nm v ps as jC [],k8,b8,h8,a1.bJ ?_,?_⟩
   ·rw[xH t2 f2 r2];refine a3.bJ (sA.bJ ?_);rw[vh,xI t7 f7 r7];exact At.bind a8 (At.ret _ _ _)
   ·simp only[ae,e9,aw,al,ak,aa.aD];rfl
 ·obtain⟨h5,hb⟩:=mR hL h4 oQ;subst hb;have e7:M.dj [41] (ip l k4 false)=some (ip l (k4+1) false):=by rw[fe hL h4 (cU 41 (by decide)),oQ];rfl
  obtain⟨c,k7,b7,h7,e8,t7,f7,r7⟩:=Le hL h5 (t:=[45,62]) (fun d r e=>by cases e;decide) false;have sA:At (RB b3 k3 (xF l k3)) [] (k4+1) false:=by
   refine a4.bJ ?_;rw[lM oQ];exact Or.inl ⟨rfl,rfl⟩
  simp only[cO,aj,e7,e8,aw,al,ak];cases c
  ·refine⟨ah.mk 3 nm dK [] as jC [],k7,b7,h7,a1.bJ ?_,rfl⟩;rw[xH t2 f2 r2];refine a3.bJ (sA.bJ ?_);rw[vh,xI t7 f7 r7];exact At.bind (At.ret _ _ _) (At.ret _ _ _)
  ·obtain⟨v,k8,b8,h8,a8,e9⟩:=EN hL hT h7 b7;refine⟨ah.mk 3 nm v [] as jC [],k8,b8,h8,a1.bJ ?_,?_⟩
   ·rw[xH t2 f2 r2];refine a3.bJ (sA.bJ ?_);rw[vh,xI t7 f7 r7];exact At.bind a8 (At.ret _ _ _)
   ·simp only[ae,e9,aw,al,ak,aa.aD];rfl
theorem ahx{l:List ai}(hL:b9 l)(hT:∀t∈l,t.Text.length<=30000){k:Nat}(hk:k<l.length)(b:Bool):
 ∃v k' b',k'<l.length/\At (RB b k (xF l k)) v k' b'/\M.Ax (sp l k b)=some (v,sp l k' b'):=by
 obtain⟨k4,b4,h4,a4,e4⟩:=km hL hk [40] b;unfold M.Ax;simp only[e4,fq hL h4 [41] b4,aw,al,ak];cases oQ:(!b4&&aH l [41] k4)
 ·simp only[aj];cases b4 with
  |true=>
   refine⟨[],k4,true,h4,a4.bJ (At.no _ _ _),?_⟩;obtain⟨n,hn⟩:∃n,ad=n+1:=⟨ad-1,by have:=bA;omega⟩;rw[hn,M.mT];rfl
  |false=>
   obtain⟨vs,k',b',h1,a1,e1⟩:=ahv hL hT ad 5 [] k4 (by have:=bA;omega) h4 rfl;refine⟨vs,k',b',h1,a4.bJ ?_,?_⟩
   ·rw[mQ oQ,show ∀r:PR (List ax),RB false k4 r=r from fun _=>rfl];rw[Ap l _ [41] (by decide)]at a1;exact a1
   ·rw[e1];rfl
 ·obtain⟨h5,hb⟩:=mR hL h4 oQ;subst hb;refine⟨[],k4+1,false,h5,a4.bJ ?_,rfl⟩;rw[lM oQ];exact Or.inl ⟨rfl,rfl⟩
theorem ahy{l:List ai}(hL:b9 l)(hT:∀t∈l,t.Text.length<=30000)(nm:List UInt8){k1:Nat}(h1:k1<l.length)(b1:Bool):
 ∃v k' b',k'<l.length/\At (RB b1 k1 (nL l nm k1)) v k' b'/\M.Az nm (sp l k1 b1)=some (v,sp l k' b'):=by
 obtain⟨as,k2,b2,h2,e2,t2,f2,r2⟩:=Ro hL h1 qN b1;obtain⟨k3,b3,h3,a3,e3⟩:=km hL h2 Av b2;obtain⟨ps,k6,b6,h6,sA,e4⟩:=ahx hL hT h3 b3;obtain⟨c,k7,b7,h7,e8,t7,f7,r7⟩:=Ro hL h6 [45,62] b6;unfold qN at e2;unfold Av at e3;unfold M.Az;simp only[e2,e3,e4,e8,aw,al,ak];cases c
 ·refine⟨ah.mk 3 nm dK ps as jC [],k7,b7,h7,?_,rfl⟩;rw[xH t2 f2 r2];refine a3.bJ (sA.bJ ?_);rw[vh,xI t7 f7 r7];exact At.bind (At.ret _ _ _) (At.ret _ _ _)
 ·obtain⟨v,k8,b8,h8,a8,e9⟩:=La hL hT h7 b7;refine⟨ah.mk 3 nm v ps as jC [],k8,b8,h8,?_,?_⟩
  ·rw[xH t2 f2 r2];refine a3.bJ (sA.bJ ?_);rw[vh,xI t7 f7 r7];exact At.bind a8 (At.ret _ _ _)
  ·simp only[ae,e9,aw,al,ak,aa.aD];rfl
end M
namespace M
open Go.V (inB bS ad bA)
theorem ahz{l:List ai}(hL:b9 l)(hT:∀t∈l,t.Text.length<=30000){k:Nat}(hk:k<l.length)(b:Bool):
 ∃p us k1 b1 k2 b2 k3 b3 k4 b4 k5 b5,k5<l.length/\M.mS (ip l k b)=some (p,ip l k1 b1)/\M.dj [46] (ip l k1 b1)=some (ip l k2 b2)/\M.dj [123] (ip l k2 b2)=some (ip l k3 b3)/\
  M.vk 16 (ip l k3 b3) 4 [] 0 [] false (bf.bo p) (bf.Name p) (bf.Version p) [] [] [] []=some (ip l k4 b4,4,[],0,[],false,bf.bo p,bf.Name p,bf.Version p,[],[],[],us)/\
  M.dj [125] (ip l k4 b4)=some (ip l k5 b5)/\At (RB b k (xG l k)) (ah.mk 4 [] lQ [] false p us) k5 b5:=by
 obtain⟨p,k1,b1,h1,a1,e1⟩:=Lc hL hT hk b;obtain⟨k2,b2,h2,a2,e2⟩:=jB hL h1 (cU 46 (by decide)) b1;obtain⟨k3,b3,h3,a3,e3⟩:=jB hL h2 (cU 123 (by decide)) b2;obtain⟨us,k4,b4,h4,a4,e4⟩:=ahu hL hT 4 [] 0 [] false (bf.bo p) (bf.Name p) (bf.Version p) [] [] [] h3 b3;obtain⟨k5,b5,h5,a5,e5⟩:=jB hL h4 (cU 125 (by decide)) b4;exact⟨p,us,k1,b1,k2,b2,k3,b3,k4,b4,k5,b5,h5,e1,e2,e3,e4,e5,a1.bJ (a2.bJ (a3.bJ (a4.bJ (a5.bJ (At.ret _ _ _)))))⟩
theorem ahA{l:List ai}(hL:b9 l)(hT:∀t∈l,t.Text.length<=30000){k:Nat}(hk:k<l.length)(b:Bool):
 ∃v k' b',k'<l.length/\At (RB b k (nM l k)) v k' b'/\M.AA (ip l k b)=some (v,ip l k' b'):=by
 obtain⟨v1,k1,b1,h1,a1,e1,-⟩:=vi hL hT hk b;unfold M.AA;simp only[e1,ig,aw,al,ak];cases b1 with
 |true=>
  obtain⟨v,k',b',h,a,e⟩:=Rq hL hT v1 h1 true;have a':At (PR.no k1) v k' b':=a;refine⟨v,k',b',h,a1.bJ (f:=kR l) a',?_⟩;simp only[ae,e,aw,al,ak,de,ah.aD]
 |false=>
  have e2:=Ac hL h1 (cU 58 (by decide)) false;simp only[aj,e2,aw,al,ak,bq,bu,de];cases jD:aH l [58] k1
  ·simp only[aj];cases hR:(v1==[114,101,115,111,117,114,99,101])
   ·simp only[aj];cases hY:(v1==[116,121,112,101])
    ·simp only[aj];cases hU:(v1==[117,115,101])
     ·refine⟨ah.mk 0 [] lQ [] false jC [],k1,true,h1,a1.bJ ?_,rfl⟩;unfold kR mU oS oU;rw[jD,hR,hY,hU];exact Or.inr ⟨rfl,rfl⟩
     ·obtain⟨p,us,k2,b2,k3,b3,k4,b4,k5,b5,k6,b6,h6,f1,f2,f3,f4,f5,a6⟩:=ahz hL hT h1 false;refine⟨ah.mk 4 [] lQ [] false p us,k6,b6,h6,a1.bJ ?_,?_⟩
      ·unfold kR mU oS oU;rw[jD,hR,hY,hU];exact a6
      ·simp only[ae,f1,f2,f3,f4,f5,aw,al,ak];rfl
    ·obtain⟨v2,k2,b2,h2,a2,f2,-⟩:=EL hL hT h1 false;obtain⟨k3,b3,h3,a3,f3⟩:=jB hL h2 (cU 61 (by decide)) b2;obtain⟨v4,k4,b4,h4,a4,f4⟩:=EN hL hT h3 b3;refine⟨ah.mk 2 v2 v4 [] false jC [],k4,b4,h4,a1.bJ ?_,?_⟩
     ·unfold kR mU oS oU;rw[jD,hR,hY];exact a2.bJ (a3.bJ (a4.bJ (At.ret _ _ _)))
     ·simp only[ae,f2,f3,f4,aw,al,ak,aa.aD];rfl
   ·obtain⟨v2,k2,b2,h2,a2,f2,-⟩:=EL hL hT h1 false;refine⟨ah.mk 1 v2 lQ [] false jC [],k2,b2,h2,a1.bJ ?_,?_⟩
    ·unfold kR mU;rw[jD,hR];exact a2.bJ (At.ret _ _ _)
    ·simp only[ae,f2,aw,al,ak];rfl
  ·obtain⟨v,k',b',h,a,e⟩:=Rq hL hT v1 h1 false;refine⟨v,k',b',h,a1.bJ ?_,?_⟩
   ·unfold kR;unfold cE at a;rw[jD]at a⊢;exact a
   ·simp only[ae,e,aw,al,ak,ah.aD]
theorem ahB{l:List ai}(hL:b9 l)(hT:∀t∈l,t.Text.length<=30000){k:Nat}(hk:k<l.length)(b:Bool):
 ∃v k' b',k'<l.length/\At (RB b k (xG l k)) v k' b'/\M.AB (sp l k b)=some (v,sp l k' b'):=by
 obtain⟨p,k1,b1,h1,a1,e1⟩:=Ld hL hT hk b;obtain⟨k2,b2,h2,a2,e2⟩:=km hL h1 [46] b1;obtain⟨k3,b3,h3,a3,e3⟩:=km hL h2 [123] b2;unfold M.AB;simp only[e1,e2,e3,aw,al,ak];cases b3 with
 |true=>
  refine⟨ah.mk 4 [] lQ [] false p [],k3,true,h3,a1.bJ (a2.bJ (a3.bJ (At.no _ _ _))),?_⟩;obtain⟨n,hn⟩:∃n,ad=n+1:=⟨ad-1,by have:=bA;omega⟩;rw[hn,M.lP];rfl
 |false=>
  obtain⟨us,k',b',h4,a4,e4⟩:=ahw hL hT (bf.bo p) (bf.Name p) (bf.Version p) ad 15 [] k3 (by have:=bA;omega) h3 rfl;rw[Ap l _ [125] (by decide)]at a4;refine⟨ah.mk 4 [] lQ [] false p us,k',b',h4,a1.bJ (a2.bJ (a3.bJ ?_)),?_⟩
  ·rw[show ∀r:PR ah,RB false k3 r=r from fun _=>rfl];generalize hr:d4 l (mh l) 15 [] k3=r at a4⊢;cases r with
   |no q=>
    rcases a4 with⟨q1,q2⟩|⟨q1,q2⟩
    ·cases q1
    ·cases q1;exact Or.inr ⟨rfl,q2⟩
   |ok us' q=>
    simp only[PR.bind]at a4⊢;cases hn:cE l [125] q with
    |no q'=>
     rw[hn]at a4;rcases a4 with⟨q1,q2⟩|⟨q1,q2⟩
     ·cases q1
     ·cases q1;exact Or.inr ⟨rfl,q2⟩
    |ok u q'=>
     rw[hn]at a4;rcases a4 with⟨q1,q2⟩|⟨q1,q2⟩
     ·cases q1;exact Or.inl ⟨rfl,q2⟩
     ·cases q1
  ·rw[e4];rfl
def ko(l:List ai)(k:Nat):PR ah:=(nM l k).bind fun x k1=>(cE l [59] k1).bind fun _ k2=>.ok x k2
theorem Rr{l:List ai}(hL:b9 l)(hT:∀t∈l,t.Text.length<=30000){k:Nat}(hk:k<l.length)(b:Bool):
 ∃v k' b',k'<l.length/\At (RB b k (ko l k)) v k' b'/\M.AD (sp l k b)=some (v,sp l k' b'):=by
 obtain⟨v1,k1,b1,h1,a1,e1,z1⟩:=vj hL hT hk b;unfold M.AD;simp only[e1,fq hL h1 [58] b1,aw,al,ak];cases b1 with
 |true=>
  rw[z1 rfl];refine⟨ah.mk 0 [] lQ [] false jC [],k1,true,h1,At.bJ (r:=nM l k) (v:=ah.mk 0 [] lQ [] false jC []) (a1.bJ (At.no _ _ _)) (At.no _ _ _),?_⟩;have f0:(([]:List UInt8)==[114,101,115,111,117,114,99,101])=false:=rfl;have f1:(([]:List UInt8)==[116,121,112,101])=false:=rfl;have f2:(([]:List UInt8)==[117,115,101])=false:=rfl;simp only[cO,cr,aj,f0,f1,f2,jc,jd,kj,gI hL h1 [59] true,al,ak,ae];rfl
 |false=>
  simp only[bq,bu];cases jD:aH l [58] k1
  ·simp only[aj];cases hR:(v1==[114,101,115,111,117,114,99,101])
   ·simp only[aj];cases hY:(v1==[116,121,112,101])
    ·simp only[aj];cases hU:(v1==[117,115,101])
     ·refine⟨ah.mk 0 [] lQ [] false jC [],k1,true,h1,At.bJ (r:=nM l k) (v:=ah.mk 0 [] lQ [] false jC []) (k1:=k1) (b1:=true) (a1.bJ ?_) (At.no _ _ _),?_⟩
      ·unfold kR mU oS oU;rw[jD,hR,hY,hU];exact Or.inr ⟨rfl,rfl⟩
      ·simp only[aj,jc,jd,kj,gI hL h1 [59] true,al,ak,ae];rfl
     ·obtain⟨v2,k2,b2,h2,a2,f2⟩:=ahB hL hT h1 false;obtain⟨k3,b3,h3,a3,f3⟩:=km hL h2 [59] b2;refine⟨v2,k3,b3,h3,At.bJ (r:=nM l k) (a1.bJ ?_) (a3.bJ (At.ret _ _ _)),?_⟩
      ·unfold kR mU oS oU;rw[jD,hR,hY,hU];exact a2
      ·simp only[ae,f2,f3,aw,al,ak,ah.aD]
    ·obtain⟨v2,k2,b2,h2,a2,f2,-⟩:=EM hL hT h1 false;obtain⟨k3,b3,h3,a3,f3⟩:=km hL h2 [61] b2;obtain⟨v4,k4,b4,h4,a4,f4⟩:=La hL hT h3 b3;obtain⟨k5,b5,h5,a5,f5⟩:=km hL h4 [59] b4;refine⟨ah.mk 2 v2 v4 [] false jC [],k5,b5,h5,At.bJ (r:=nM l k) (a1.bJ ?_) (a5.bJ (At.ret _ _ _)),?_⟩
     ·unfold kR mU oS oU;rw[jD,hR,hY];exact a2.bJ (a3.bJ (a4.bJ (At.ret _ _ _)))
     ·simp only[ae,f2,f3,f4,f5,aw,al,ak,aa.aD];rfl
   ·obtain⟨v2,k2,b2,h2,a2,f2,-⟩:=EM hL hT h1 false;obtain⟨k3,b3,h3,a3,f3⟩:=km hL h2 [59] b2;refine⟨ah.mk 1 v2 lQ [] false jC [],k3,b3,h3,At.bJ (r:=nM l k) (a1.bJ ?_) (a3.bJ (At.ret _ _ _)),?_⟩
    ·unfold kR mU;rw[jD,hR];exact a2.bJ (At.ret _ _ _)
    ·simp only[ae,f2,f3,aw,al,ak];rfl
  ·obtain⟨v2,k2,b2,h2,a2,f2⟩:=ahy hL hT v1 (cV hL h1 jD) false;obtain⟨k3,b3,h3,a3,f3⟩:=km hL h2 [59] b2;refine⟨v2,k3,b3,h3,At.bJ (r:=nM l k) (a1.bJ ?_) (a3.bJ (At.ret _ _ _)),?_⟩
   ·unfold kR;rw[jD];exact a2
   ·simp only[ae,f2,f3,aw,al,ak,ah.aD]
end M
namespace M
open Go.V (inB bS ad bA)
def gP{α:Type}(l:List ai)(el:Nat->PR α):Nat->List α->Nat->PR (List α)
 |0,acc,k=>(cE l [125] k).bind fun _ k1=>.ok acc k1
 |m+1,acc,k=>bif aH l [125] k then .ok acc (k+1)else(el k).bind fun x k1=>gP l el m (acc++[x]) k1
def mi(l:List ai)(k:Nat):PR aE:=(gX l k).bind fun n k1=>(cE l [123] k1).bind fun _ k2=>(gP l (ko l) 16 [] k2).bind fun xs k3=>.ok (aE.mk n xs) k3
theorem ahC{l:List ai}(hL:b9 l)(hT:∀t∈l,t.Text.length<=30000)(t2 x:List UInt8)(o5:List ah):∀(f m:Nat)(acc:List ah)(k:Nat)(b:Bool),m+1<f->k<l.length->acc.length+m=16->
 ∃vs k' b' k2 b2,k2<l.length/\M.xK t2 x o5 f (ip l k b) acc=some (ip l k' b',t2,x,o5,vs)/\M.dj [125] (ip l k' b')=some (ip l k2 b2)/\At (RB b k (gP l (ko l) m acc k)) vs k2 b2:=by
 intro f
 induction f with
 |zero=>intro m acc k b h;omega
 |succ f ih=>
  intro m acc k b hf hk hacc;rw[M.xK];cases b with
  |true=>
   refine⟨acc,k,true,k,true,hk,?_,?_,At.no _ _ _⟩
   ·simp only[ig,cO,Bool.and_false,aj,ak,de,ae]
   ·rw[fe hL hk (cU 125 (by decide)) true];rfl
  |false=>
   cases m with
   |zero=>
    obtain⟨k2,b2,h2,a2,e2⟩:=jB hL hk (cU 125 (by decide)) false;refine⟨acc,k,false,k2,b2,h2,?_,e2,?_⟩
    ·rw[db (show ¬((acc.length:Nat):Int)<16 by omega)];simp only[ig,bq,cr,aj,ak,de,ae]
    ·rw[gP];exact a2.bJ (At.ret _ _ _)
   |succ m=>
    rw[aO (show((acc.length:Nat):Int)<16 by omega),gP];simp only[ig,bq,bu,ae,Ac hL hk (cU 125 (by decide)) false,aw,al,ak,de];cases h:aH l [125] k
    ·obtain⟨v1,k1,b1,h1,a1,e1⟩:=ahA hL hT hk false;obtain⟨k2,b2,h2,a2,e2⟩:=jB hL h1 (cU 59 (by decide)) b1;obtain⟨vs,k3,b3,k4,b4,h4,e3,e4,a4⟩:=ih m (acc++[v1]) k2 b2 (by omega) h2 (by rw[aM,List.length_singleton];omega);refine⟨vs,k3,b3,k4,b4,h4,?_,e4,?_⟩
     ·simp only[bq,ae,e1,e2,aw,al,dL (show acc.length<=1000 by omega),ak,ah.aD,e3]
     ·simp only[aj];refine At.bJ (r:=ko l k) (v:=v1) (k1:=k2) (b1:=b2) ?_ a4;unfold ko;exact a1.bJ (a2.bJ (At.ret _ _ _))
    ·refine⟨acc,k,false,k+1,false,cV hL hk h,?_,?_,?_⟩
     ·simp only[cO,aj,ae]
     ·rw[fe hL hk (cU 125 (by decide)) false,h];rfl
     ·exact Or.inl ⟨rfl,rfl⟩
theorem ahD{l:List ai}(hL:b9 l)(hT:∀t∈l,t.Text.length<=30000){k:Nat}(hk:k<l.length)(b:Bool):
 ∃v k' b',k'<l.length/\At (RB b k (mi l k)) v k' b'/\M.xM (ip l k b)=some (v,ip l k' b'):=by
 obtain⟨v1,k1,b1,h1,a1,e1,-⟩:=vi hL hT hk b;obtain⟨k2,b2,h2,a2,e2⟩:=jB hL h1 (cU 123 (by decide)) b1;obtain⟨vs,k3,b3,k4,b4,h4,e3,e4,a4⟩:=ahC hL hT [] v1 [] ad 16 [] k2 b2 (by have:=bA;omega) h2 rfl;refine⟨aE.mk v1 vs,k4,b4,h4,a1.bJ (a2.bJ (a4.bJ (At.ret _ _ _))),?_⟩;unfold M.xM;simp only[e1,e2,e3,e4,aw,al,ak,ae]
theorem ahE{l:List ai}(hL:b9 l)(hT:∀t∈l,t.Text.length<=30000)(t2 x:List UInt8)(o5:List ah):∀(f m:Nat)(acc:List ah)(k:Nat)(b:Bool),m+1<f->k<l.length->acc.length+m=16->
 ∃vs k' b',k'<l.length/\At (RB b k (gP l (ko l) m acc k)) vs k' b'/\M.sG t2 x o5 f (sp l k b) acc=some (l,(k':Int),b',t2,x,o5,vs):=by
 intro f
 induction f with
 |zero=>intro m acc k b h;omega
 |succ f ih=>
  intro m acc k b hf hk hacc;obtain⟨f',rfl⟩:∃f',f=f'+1:=⟨f-1,by omega⟩;have hend:∀(f:Nat)(k:Nat)(xs:List ah),M.sG t2 x o5 (f+1) (sp l k true) xs=some (l,(k:Int),true,t2,x,o5,xs):=fun f k xs=>by
   rw[M.sG];rfl
  cases b with
  |true=>exact⟨acc,k,true,hk,At.no _ _ _,hend _ k acc⟩
  |false=>
   rw[M.sG];simp only[iw,bq,ae,fq hL hk [125] false,bu,aw,al,ak,de];cases h:aH l [125] k
   ·simp only[aj,bq,ae,jc,jd,kj];cases m with
    |zero=>
     rw[aO (show(16:Int)<=((acc.length:Nat):Int) by omega)];obtain⟨v1,k1,b1,h1,a1,e1⟩:=Rr hL hT hk true;have q:b1=true/\k1=k:=by
      rcases a1 with⟨q1,q2⟩|⟨q1,q2⟩
      ·cases q1
      ·cases q1;exact⟨q2,rfl⟩
     rw[q.1,q.2]at e1;refine⟨acc++[v1],k,true,hk,?_,?_⟩
     ·rw[gP];unfold cE;rw[h];exact Or.inr ⟨rfl,rfl⟩
     ·simp only[e1,aw,al,dL (show acc.length<=1000 by omega),ak,ae,ah.aD];exact hend _ k _
    |succ m=>
     rw[db (show ¬(16:Int)<=((acc.length:Nat):Int) by omega)];obtain⟨v1,k1,b1,h1,a1,e1⟩:=Rr hL hT hk false;obtain⟨vs,k3,b3,h3,a3,e3⟩:=ih m (acc++[v1]) k1 b1 (by omega) h1 (by rw[aM,List.length_singleton];omega);refine⟨vs,k3,b3,h3,?_,?_⟩
     ·rw[gP,h];exact At.bJ (r:=ko l k) a1 a3
     ·simp only[e1,aw,al,dL (show acc.length<=1000 by omega),ak,ae,ah.aD,e3]
   ·refine⟨acc,k+1,false,cV hL hk h,?_,rfl⟩;cases m with
    |zero=>
     rw[gP];unfold cE;rw[h];exact Or.inl ⟨rfl,rfl⟩
    |succ m=>
     rw[gP,h];exact Or.inl ⟨rfl,rfl⟩
theorem ahF{l:List ai}(hL:b9 l)(hT:∀t∈l,t.Text.length<=30000){k:Nat}(hk:k<l.length)(b:Bool):
 ∃v k' b',k'<l.length/\At (RB b k (mi l k)) v k' b'/\M.xN (sp l k b)=some (v,sp l k' b'):=by
 obtain⟨v1,k1,b1,h1,a1,e1,-⟩:=vj hL hT hk b;obtain⟨k2,b2,h2,a2,e2⟩:=km hL h1 [123] b1;obtain⟨vs,k3,b3,h3,a3,e3⟩:=ahE hL hT [] v1 [] ad 16 [] k2 b2 (by have:=bA;omega) h2 rfl;refine⟨aE.mk v1 vs,k3,b3,h3,a1.bJ (a2.bJ (a3.bJ (At.ret _ _ _))),?_⟩;unfold M.xN;simp only[e1,e2,e3,aw,al,ak,ae];rfl
end M
namespace M
open Go.V (inB bS ad bA)
def nN:List UInt8:=[105,109,112,111,114,116]
def nO:List UInt8:=[101,120,112,111,114,116]
def nP:List UInt8:=[105,110,99,108,117,100,101]
def sH(l:List ai)(kind:Int)(k:Nat):PR aG:=(oR l k).bind fun p k1=>(cE l [59] k1).bind fun _ k2=>.ok (aG.mk kind p) k2
def jE(l:List ai)(k:Nat):PR aG:=
 bif aH l nN k then sH l 1 (k+1)else bif aH l nO k then sH l 2 (k+1)else bif aH l nP k then sH l 3 (k+1)else .no k
def qP(l:List ai)(k:Nat):PR aJ:=(gX l k).bind fun n k1=>(cE l [123] k1).bind fun _ k2=>(gP l (jE l) 16 [] k2).bind fun xs k3=>.ok (aJ.mk n xs) k3
theorem ahG{l:List ai}(hL:b9 l)(hT:∀t∈l,t.Text.length<=30000)(t2 x:List UInt8)(o5:List aG):∀(f m:Nat)(acc:List aG)(k:Nat)(b:Bool),m+1<f->k<l.length->acc.length+m=16->
 ∃vs k' b' k2 b2,k2<l.length/\M.qQ t2 x o5 f (ip l k b) acc=some (ip l k' b',t2,x,o5,vs)/\M.dj [125] (ip l k' b')=some (ip l k2 b2)/\At (RB b k (gP l (jE l) m acc k)) vs k2 b2:=by
 intro f
 induction f with
 |zero=>intro m acc k b h;omega
 |succ f ih=>
  intro m acc k b hf hk hacc;rw[M.qQ];cases b with
  |true=>
   refine⟨acc,k,true,k,true,hk,?_,?_,At.no _ _ _⟩
   ·simp only[ig,cO,Bool.and_false,aj,ak,de,ae]
   ·rw[fe hL hk (cU 125 (by decide)) true];rfl
  |false=>
   cases m with
   |zero=>
    obtain⟨k2,b2,h2,a2,e2⟩:=jB hL hk (cU 125 (by decide)) false;refine⟨acc,k,false,k2,b2,h2,?_,e2,?_⟩
    ·rw[db (show ¬((acc.length:Nat):Int)<16 by omega)];simp only[ig,bq,cr,aj,ak,de,ae]
    ·rw[gP];exact a2.bJ (At.ret _ _ _)
   |succ m=>
    rw[aO (show((acc.length:Nat):Int)<16 by omega),gP];simp only[ig,bq,bu,ae,Ac hL hk (cU 125 (by decide)) false,aw,al,ak,de];have key:∀(kind:Int)(kk:Nat),kk<l.length->∃v1 k1 b1 k2 b2,k2<l.length/\M.mS (ip l kk false)=some (v1,ip l k1 b1)/\M.dj [59] (ip l k1 b1)=some (ip l k2 b2)/\At (sH l kind kk) (aG.mk kind v1) k2 b2:=by
     intro kind kk hkk;obtain⟨v1,k1,b1,h1,a1,e1⟩:=Lc hL hT hkk false;obtain⟨k2,b2,h2,a2,e2⟩:=jB hL h1 (cU 59 (by decide)) b1;exact⟨v1,k1,b1,k2,b2,h2,e1,e2,At.bind (r:=oR l kk) a1 (a2.bJ (At.ret _ _ _))⟩
    have tI:=iU hL hk (text:=[105,109,112,111,114,116]) (fun d r e=>by cases e;decide) false;have tE:=iU hL hk (text:=[101,120,112,111,114,116]) (fun d r e=>by cases e;decide) false;have tC:=iU hL hk (text:=[105,110,99,108,117,100,101]) (fun d r e=>by cases e;decide) false;rw[bq,bu]at tI tE tC;cases h:aH l [125] k
    ·simp only[bq,ae,aj];cases hI:aH l [105,109,112,111,114,116] k
     ·rw[hI]at tI;cases hE:aH l [101,120,112,111,114,116] k
      ·rw[hE]at tE;cases hC:aH l [105,110,99,108,117,100,101] k
       ·rw[hC]at tC;obtain⟨v1,k1,b1,h1,a1,e1⟩:=Lc hL hT hk true;have q:b1=true/\k1=k:=by
         rcases a1 with⟨q1,q2⟩|⟨q1,q2⟩
         ·cases q1
         ·cases q1;exact⟨q2,rfl⟩
        rw[q.1,q.2]at e1;have e2:M.dj [59] (ip l k true)=some (ip l k true):=by rw[fe hL hk (cU 59 (by decide))];rfl
        obtain⟨vs,k3,b3,k4,b4,h4,e3,e4,a4⟩:=ih m (acc++[aG.mk 0 v1]) k true (by omega) hk (by rw[aM,List.length_singleton];omega);refine⟨vs,k3,b3,k4,b4,h4,?_,e4,?_⟩
        ·simp only[tI,tE,tC,aj,ae,aw,al,kQ,jS,lN,e1,e2,dL (show acc.length<=1000 by omega),ak,e3]
        ·unfold jE nN nO nP;rw[hI,hE,hC];exact a4
       ·rw[hC]at tC;obtain⟨v1,k1,b1,k2,b2,h2,e1,e2,a2⟩:=key 3 (k+1) (cV hL hk hC);obtain⟨vs,k3,b3,k4,b4,h4,e3,e4,a4⟩:=ih m (acc++[aG.mk 3 v1]) k2 b2 (by omega) h2 (by rw[aM,List.length_singleton];omega);refine⟨vs,k3,b3,k4,b4,h4,?_,e4,?_⟩
        ·simp only[tI,tE,tC,aj,ae,aw,al,e1,e2,dL (show acc.length<=1000 by omega),ak,e3]
        ·unfold jE nN nO nP;rw[hI,hE,hC];exact At.bind a2 a4
      ·rw[hE]at tE;obtain⟨v1,k1,b1,k2,b2,h2,e1,e2,a2⟩:=key 2 (k+1) (cV hL hk hE);obtain⟨vs,k3,b3,k4,b4,h4,e3,e4,a4⟩:=ih m (acc++[aG.mk 2 v1]) k2 b2 (by omega) h2 (by rw[aM,List.length_singleton];omega);refine⟨vs,k3,b3,k4,b4,h4,?_,e4,?_⟩
       ·simp only[tI,tE,aj,ae,aw,al,e1,e2,dL (show acc.length<=1000 by omega),ak,e3]
       ·unfold jE nN nO nP;rw[hI,hE];exact At.bind a2 a4
     ·rw[hI]at tI;obtain⟨v1,k1,b1,k2,b2,h2,e1,e2,a2⟩:=key 1 (k+1) (cV hL hk hI);obtain⟨vs,k3,b3,k4,b4,h4,e3,e4,a4⟩:=ih m (acc++[aG.mk 1 v1]) k2 b2 (by omega) h2 (by rw[aM,List.length_singleton];omega);refine⟨vs,k3,b3,k4,b4,h4,?_,e4,?_⟩
      ·simp only[tI,aj,ae,aw,al,e1,e2,dL (show acc.length<=1000 by omega),ak,e3]
      ·unfold jE nN nO nP;rw[hI];exact At.bind a2 a4
    ·refine⟨acc,k,false,k+1,false,cV hL hk h,?_,?_,?_⟩
     ·simp only[cO,aj,ae]
     ·rw[fe hL hk (cU 125 (by decide)) false,h];rfl
     ·exact Or.inl ⟨rfl,rfl⟩
theorem ahH{l:List ai}(hL:b9 l)(hT:∀t∈l,t.Text.length<=30000){k:Nat}(hk:k<l.length)(b:Bool):
 ∃v k' b',k'<l.length/\At (RB b k (qP l k)) v k' b'/\M.vl (ip l k b)=some (v,ip l k' b'):=by
 obtain⟨v1,k1,b1,h1,a1,e1,-⟩:=vi hL hT hk b;obtain⟨k2,b2,h2,a2,e2⟩:=jB hL h1 (cU 123 (by decide)) b1;obtain⟨vs,k3,b3,k4,b4,h4,e3,e4,a4⟩:=ahG hL hT [] v1 [] ad 16 [] k2 b2 (by have:=bA;omega) h2 rfl;refine⟨aJ.mk v1 vs,k4,b4,h4,a1.bJ (a2.bJ (a4.bJ (At.ret _ _ _))),?_⟩;unfold M.vl;simp only[e1,e2,e3,e4,aw,al,ak,ae]
end M
namespace M
open Go.V (inB bS ad bA)
theorem Lh{l:List ai}(hL:b9 l)(t2 w:List UInt8)(o6 o7:List aG)(P:bf){k:Nat}(hk:k<l.length)(b:Bool)(n:Nat)(i j:Int)(t:List UInt8)
 (h1:List.getD (Option.getD M.jF Inhabited.default) (Int.toNat i) []=t) (h2:inB i (List.length (Option.getD M.jF Inhabited.default))=true) (h3:decide (i<(3:Int))=true) (h4:Go.IntKind.wrap Go.IntKind.i64 (i+1)=j):
 M.kq t2 w o6 o7 (n+1) i (sp l k b) (aG.mk 0 P)=bif !b&&aH l t k then M.kq t2 w o6 o7 n j (sp l (k+1) b) (aG.mk j P)else M.kq t2 w o6 o7 n j (sp l k b) (aG.mk 0 P):=by
 have hs:Option.isSome M.jF=true:=rfl;rw[M.kq];simp only[h1,h2,h3,h4,hs,fq hL hk t b,aw,al,ak,ae,de];cases (!b&&aH l t k)
 ·simp only[aj]
 ·simp only[ae]
theorem Lj(t2 w:List UInt8)(o6 o7:List aG)(P:bf)(p:aC)(n:Nat)(i j kd:Int)(h0:(kd==(0:Int))=false)(h3:decide (i<(3:Int))=true)(h4:Go.IntKind.wrap Go.IntKind.i64 (i+1)=j):
 M.kq t2 w o6 o7 (n+1) i p (aG.mk kd P)=M.kq t2 w o6 o7 n j p (aG.mk kd P):=by
 rw[M.kq];simp only[h3,h4,h0,ae,aj,de,ak]
theorem EO(t2 w:List UInt8)(o6 o7:List aG)(p:aC)(x:aG)(n:Nat):M.kq t2 w o6 o7 (n+1) 3 p x=some (p,t2,w,x,o6,o7):=by
 rw[M.kq];rfl
theorem Rt{l:List ai}(hL:b9 l)(t2 w:List UInt8)(o6 o7:List aG)(P:bf){k:Nat}(hk:k<l.length)(b:Bool):
 M.kq t2 w o6 o7 ad 0 (sp l k b) (aG.mk 0 P)=
   bif !b&&aH l nN k then some (sp l (k+1) b,t2,w,aG.mk 1 P,o6,o7)
   else bif !b&&aH l nO k then some (sp l (k+1) b,t2,w,aG.mk 2 P,o6,o7)
   else bif !b&&aH l nP k then some (sp l (k+1) b,t2,w,aG.mk 3 P,o6,o7)
   else some (sp l k b,t2,w,aG.mk 0 P,o6,o7):=by
 obtain⟨n,hn⟩:∃n,ad=n+1+1+1+1:=⟨ad-4,by have:=bA;omega⟩;rw[hn,Lh hL t2 w o6 o7 P hk b _ 0 1 nN rfl rfl rfl (by decide)];cases (!b&&aH l nN k)
 ·simp only[aj];rw[Lh hL t2 w o6 o7 P hk b _ 1 2 nO rfl rfl rfl (by decide)];cases (!b&&aH l nO k)
  ·simp only[aj];rw[Lh hL t2 w o6 o7 P hk b _ 2 3 nP rfl rfl rfl (by decide)];cases (!b&&aH l nP k)
   ·simp only[aj];exact EO _ _ _ _ _ _ _
   ·simp only[ae];exact EO _ _ _ _ _ _ _
  ·simp only[ae];rw[Lj _ _ _ _ _ _ _ 2 3 2 rfl rfl (by decide)];exact EO _ _ _ _ _ _ _
 ·simp only[ae];rw[Lj _ _ _ _ _ _ _ 1 2 1 rfl rfl (by decide),Lj _ _ _ _ _ _ _ 2 3 1 rfl rfl (by decide)];exact EO _ _ _ _ _ _ _
theorem ahI{l:List ai}(hL:b9 l)(hT:∀t∈l,t.Text.length<=30000)(t2 x:List UInt8)(o5:List aG):∀(f m:Nat)(acc:List aG)(k:Nat)(b:Bool),m+1<f->k<l.length->acc.length+m=16->
 ∃vs k' b',k'<l.length/\At (RB b k (gP l (jE l) m acc k)) vs k' b'/\M.qR f (sp l k b) t2 x o5 acc=some (l,(k':Int),b',t2,x,o5,vs):=by
 intro f
 induction f with
 |zero=>intro m acc k b h;omega
 |succ f ih=>
  intro m acc k b hf hk hacc;obtain⟨f',rfl⟩:∃f',f=f'+1:=⟨f-1,by omega⟩;have hend:∀(f:Nat)(k:Nat)(xs:List aG),M.qR (f+1) (sp l k true) t2 x o5 xs=some (l,(k:Int),true,t2,x,o5,xs):=fun f k xs=>by
   rw[M.qR];rfl
  cases b with
  |true=>exact⟨acc,k,true,hk,At.no _ _ _,hend _ k acc⟩
  |false=>
   have hbad:∃v,M.lO (sp l k true)=some (v,sp l k true):=by
    obtain⟨v1,k1,b1,h1,a1,e1⟩:=Ld hL hT hk true;have q:b1=true/\k1=k:=by
     rcases a1 with⟨q1,q2⟩|⟨q1,q2⟩
     ·cases q1
     ·cases q1;exact⟨q2,rfl⟩
    rw[q.1,q.2]at e1;exact⟨v1,e1⟩
   obtain⟨vb,eb⟩:=hbad;have mb:M.dI [59] (sp l k true)=some (sp l k true):=by rw[gI hL hk];rfl
   have key:∀(kind:Int)(kk:Nat),kk<l.length->∃v1 k1 b1 k2 b2,k2<l.length/\M.lO (sp l kk false)=some (v1,sp l k1 b1)/\M.dI [59] (sp l k1 b1)=some (sp l k2 b2)/\At (sH l kind kk) (aG.mk kind v1) k2 b2:=by
    intro kind kk hkk;obtain⟨v1,k1,b1,h1,a1,e1⟩:=Ld hL hT hkk false;obtain⟨k2,b2,h2,a2,e2⟩:=km hL h1 [59] b1;exact⟨v1,k1,b1,k2,b2,h2,e1,e2,At.bind (r:=oR l kk) a1 (a2.bJ (At.ret _ _ _))⟩
   rw[M.qR];simp only[iw,bq,ae,fq hL hk [125] false,bu,aw,al,ak,de];cases h:aH l [125] k
   ·simp only[aj,bq,ae,jc,jd,kj];cases m with
    |zero=>
     rw[aO (show(16:Int)<=((acc.length:Nat):Int) by omega),Rt hL _ _ _ _ _ hk true];refine⟨acc++[aG.mk 0 vb],k,true,hk,?_,?_⟩
     ·rw[gP];unfold cE;rw[h];exact Or.inr ⟨rfl,rfl⟩
     ·simp only[cO,cr,aj,jc,jd,iw,kj,du,eb,mb,aw,al,dL (show acc.length<=1000 by omega),ak,ae];exact hend _ k _
    |succ m=>
     rw[db (show ¬(16:Int)<=((acc.length:Nat):Int) by omega),Rt hL _ _ _ _ _ hk false];rw[gP,h];simp only[bq,bu];have go:∀kind:Int,(kind==(0:Int))=false->aH l (bif kind==1 then nN else bif kind==2 then nO else nP) k=true->(RB false k (bif false then PR.ok acc (k+1)else(jE l k).bind fun x k1=>gP l (jE l) m (acc++[x]) k1))=(sH l kind (k+1)).bind (fun x k1=>gP l (jE l) m (acc++[x]) k1)->
      ∃vs k' b',k'<l.length/\At (RB false k (bif false then PR.ok acc (k+1)else(jE l k).bind fun x k1=>gP l (jE l) m (acc++[x]) k1)) vs k' b'/\
       (match(some (sp l (k+1) false,t2,x,aG.mk kind (bf.mk [] [] []),o5,acc):Option (aC×List UInt8×List UInt8×aG×List aG×List aG))with
         |none=>none
         |some y3=>bif(decide (((List.length y3.2.2.2.2.2)+(List.length [(M.aG.mk (M.aG.Kind y3.2.2.2.1) (Option.getD (M.lO (M.aC.mk (M.aC.list y3.1) (M.aC.at_ y3.1) ((M.aC.bad y3.1)||((M.aG.Kind y3.2.2.2.1)==(0:Int))))) Inhabited.default).1)]))<=1073741824))&&((Option.isSome (M.dI [(59:UInt8)] (Option.getD (M.lO (M.aC.mk (M.aC.list y3.1) (M.aC.at_ y3.1) ((M.aC.bad y3.1)||((M.aG.Kind y3.2.2.2.1)==(0:Int))))) Inhabited.default).2))&&((Option.isSome (M.lO (M.aC.mk (M.aC.list y3.1) (M.aC.at_ y3.1) ((M.aC.bad y3.1)||((M.aG.Kind y3.2.2.2.1)==(0:Int))))))&&true))then
           M.qR (f'+1) (Option.getD (M.dI [(59:UInt8)] (Option.getD (M.lO (M.aC.mk (M.aC.list y3.1) (M.aC.at_ y3.1) ((M.aC.bad y3.1)||((M.aG.Kind y3.2.2.2.1)==(0:Int))))) Inhabited.default).2) Inhabited.default) y3.2.1 y3.2.2.1 y3.2.2.2.2.1 (y3.2.2.2.2.2++[(M.aG.mk (M.aG.Kind y3.2.2.2.1) (Option.getD (M.lO (M.aC.mk (M.aC.list y3.1) (M.aC.at_ y3.1) ((M.aC.bad y3.1)||((M.aG.Kind y3.2.2.2.1)==(0:Int))))) Inhabited.default).1)])
          else none)=some (l,(k':Int),b',t2,x,o5,vs):=by
      intro kind h0 hB hR;obtain⟨v1,k1,b1,k2,b2,h2,e1,e2,a2⟩:=key kind (k+1) (cV hL hk hB);obtain⟨vs,k3,b3,h3,a3,e3⟩:=ih m (acc++[aG.mk kind v1]) k2 b2 (by omega) h2 (by rw[aM,List.length_singleton];omega);refine⟨vs,k3,b3,h3,?_,?_⟩
      ·rw[hR];exact At.bind a2 a3
      ·simp only[h0,jc,jd,iw,uy,kj,e1,e2,aw,al,dL (show acc.length<=1000 by omega),ak,ae,e3]
     cases hI:aH l nN k
     ·cases hE:aH l nO k
      ·cases hC:aH l nP k
       ·refine⟨acc++[aG.mk 0 vb],k,true,hk,?_,?_⟩
        ·unfold jE;rw[hI,hE,hC];exact Or.inr ⟨rfl,rfl⟩
        ·simp only[aj,jc,jd,iw,kj,de,iz,eb,mb,aw,al,dL (show acc.length<=1000 by omega),ak,ae];exact hend _ k _
       ·have:=go 3 rfl hC (by unfold jE;rw[hI,hE,hC];rfl);exact this
      ·have:=go 2 rfl hE (by unfold jE;rw[hI,hE];rfl);exact this
     ·have:=go 1 rfl hI (by unfold jE;rw[hI];rfl);exact this
   ·refine⟨acc,k+1,false,cV hL hk h,?_,rfl⟩;cases m with
    |zero=>
     rw[gP];unfold cE;rw[h];exact Or.inl ⟨rfl,rfl⟩
    |succ m=>
     rw[gP,h];exact Or.inl ⟨rfl,rfl⟩
theorem ahJ{l:List ai}(hL:b9 l)(hT:∀t∈l,t.Text.length<=30000){k:Nat}(hk:k<l.length)(b:Bool):
 ∃v k' b',k'<l.length/\At (RB b k (qP l k)) v k' b'/\M.vm (sp l k b)=some (v,sp l k' b'):=by
 obtain⟨v1,k1,b1,h1,a1,e1,-⟩:=vj hL hT hk b;obtain⟨k2,b2,h2,a2,e2⟩:=km hL h1 [123] b1;obtain⟨vs,k3,b3,h3,a3,e3⟩:=ahI hL hT [] v1 [] ad 16 [] k2 b2 (by have:=bA;omega) h2 rfl;refine⟨aJ.mk v1 vs,k3,b3,h3,a1.bJ (a2.bJ (a3.bJ (At.ret _ _ _))),?_⟩;unfold M.vm;simp only[e1,e2,e3,aw,al,ak,ae];rfl
end M
namespace M
open Go.V (inB bS ad bA)
def qS:List UInt8:=[105,110,116,101,114,102,97,99,101]
def vn:List UInt8:=[119,111,114,108,100]
def AE:List UInt8:=[112,97,99,107,97,103,101]
def fD(l:List ai):Nat->List aE->List aJ->Nat->PR (List aE×List aJ)
 |0,fs,ws,k=>bif(bZ l k).Kind==4 then .ok (fs,ws) k else .no k
 |m+1,fs,ws,k=>bif(bZ l k).Kind==4 then .ok (fs,ws) k
  else bif decide (((fs.length:Nat):Int)<8)&&aH l qS k then(mi l (k+1)).bind fun f k1=>fD l m (fs++[f]) ws k1
  else bif decide (((ws.length:Nat):Int)<8)&&aH l vn k then(qP l (k+1)).bind fun w k1=>fD l m fs (ws++[w]) k1
  else .no k
def je(l:List ai)(k:Nat):PR aA:=(cE l AE k).bind fun _ k1=>(gX l k1).bind fun n k2=>(cE l [64] k2).bind fun _ k3=>(EF l k3).bind fun v k4=>(cE l [59] k4).bind fun _ k5=>
 (fD l 16 [] [] k5).bind fun q k6=>.ok (aA.mk n v q.1 q.2) k6
theorem nQ(l:List ai)(k:Nat):List.getD l (Int.toNat ((k:Nat):Int)) ai.zero=bZ l k:=by rw[cg];rfl
theorem ahK{l:List ai}(hL:b9 l)(hT:∀t∈l,t.Text.length<=30000)(t2 t22 x x2:List UInt8)(o7:List aE)(o8:List aJ):∀(f m:Nat)(fs:List aE)(ws:List aJ)(k:Nat)(b:Bool),m+1<f->k<l.length->fs.length+ws.length+m=16->fs.length<=8->ws.length<=8->
 ∃v k' b',k'<l.length/\At (RB b k (fD l m fs ws k)) v k' b'/\M.jT t2 t22 x x2 o7 o8 f (ip l k b) fs ws=some (l,(k':Int),b',t2,t22,x,x2,o7,o8,v.1,v.2):=by
 have hend:∀(f k:Nat)(fs:List aE)(ws:List aJ),k<l.length->M.jT t2 t22 x x2 o7 o8 (f+1) (ip l k true) fs ws=some (l,(k:Int),true,t2,t22,x,x2,o7,o8,fs,ws):=fun f k fs ws hk=>by
  rw[M.jT];simp only[ig,kQ,jS,lN,nQ,kh hk,cO,cr,aj,du,ak,ae,de]
 intro f
 induction f with
 |zero=>intro m fs ws k b h;omega
 |succ f ih=>
  intro m fs ws k b hf hk hm hfs hws;obtain⟨f',rfl⟩:∃f',f=f'+1:=⟨f-1,by omega⟩;cases b with
  |true=>exact⟨(fs,ws),k,true,hk,At.no _ _ _,hend _ k fs ws hk⟩
  |false=>
   rw[M.jT];cases hK:((bZ l k).Kind==4)
   ·have bad:fD l m fs ws k=.no k->∃v k' b',k'<l.length/\At (RB false k (fD l m fs ws k)) v k' b'/\M.jT t2 t22 x x2 o7 o8 (f'+1) (ip l k true) fs ws=some (l,(k':Int),b',t2,t22,x,x2,o7,o8,v.1,v.2):=fun e=>by
     rw[e];exact⟨(fs,ws),k,true,hk,Or.inr ⟨rfl,rfl⟩,hend _ k fs ws hk⟩
    have tF:=iU hL hk (text:=[105,110,116,101,114,102,97,99,101]) (fun d r e=>by cases e;decide) false;have tW:=iU hL hk (text:=[119,111,114,108,100]) (fun d r e=>by cases e;decide) false;rw[bq,bu]at tF tW;have Ll:fs.length<8->aH l [105,110,116,101,114,102,97,99,101] k=true->∃v1 k1 b1 v k' b',k'<l.length/\M.xM (ip l (k+1) false)=some (v1,ip l k1 b1)/\At (RB false k (fD l m fs ws k)) v k' b'/\M.jT t2 t22 x x2 o7 o8 (f'+1) (ip l k1 b1) (fs++[v1]) ws=some (l,(k':Int),b',t2,t22,x,x2,o7,o8,v.1,v.2):=fun h8 hB=>by
     obtain⟨v1,k1,b1,h1,a1,e1⟩:=ahD hL hT (cV hL hk hB) false;obtain⟨m',rfl⟩:∃m',m=m'+1:=⟨m-1,by omega⟩;obtain⟨v,k',b',h2,a2,e2⟩:=ih m' (fs++[v1]) ws k1 b1 (by omega) h1 (by rw[aM,List.length_singleton];omega) (by rw[aM,List.length_singleton];omega) hws;refine⟨v1,k1,b1,v,k',b',h2,e1,?_,e2⟩;rw[fD,hK];unfold qS;rw[hB,aO (show((fs.length:Nat):Int)<8 by omega)];exact At.bind (r:=mi l (k+1)) a1 a2
    have world:(decide (((fs.length:Nat):Int)<8)&&aH l [105,110,116,101,114,102,97,99,101] k)=false->ws.length<8->aH l [119,111,114,108,100] k=true->∃v1 k1 b1 v k' b',k'<l.length/\M.vl (ip l (k+1) false)=some (v1,ip l k1 b1)/\At (RB false k (fD l m fs ws k)) v k' b'/\M.jT t2 t22 x x2 o7 o8 (f'+1) (ip l k1 b1) fs (ws++[v1])=some (l,(k':Int),b',t2,t22,x,x2,o7,o8,v.1,v.2):=fun hF h8 hB=>by
     obtain⟨v1,k1,b1,h1,a1,e1⟩:=ahH hL hT (cV hL hk hB) false;obtain⟨m',rfl⟩:∃m',m=m'+1:=⟨m-1,by omega⟩;obtain⟨v,k',b',h2,a2,e2⟩:=ih m' fs (ws++[v1]) k1 b1 (by omega) h1 (by rw[aM,List.length_singleton];omega) hfs (by rw[aM,List.length_singleton];omega);refine⟨v1,k1,b1,v,k',b',h2,e1,?_,e2⟩;rw[fD,hK];unfold qS vn;rw[hF,hB,aO (show((ws.length:Nat):Int)<8 by omega)];exact At.bind (r:=qP l (k+1)) a1 a2
    have nothing:(decide (((fs.length:Nat):Int)<8)&&aH l [105,110,116,101,114,102,97,99,101] k)=false->(decide (((ws.length:Nat):Int)<8)&&aH l [119,111,114,108,100] k)=false->fD l m fs ws k=.no k:=fun hF hW=>by
     cases m with
     |zero=>rw[fD,hK];rfl
     |succ m=>rw[fD,hK];unfold qS vn;rw[hF,hW];rfl
    have world':(decide (((fs.length:Nat):Int)<8)&&aH l [105,110,116,101,114,102,97,99,101] k)=false->∀dW:decide (((ws.length:Nat):Int)<8)=true,aH l [119,111,114,108,100] k=true->ws.length<8:=fun _ h _=>by
     have:=iN h;omega
    cases dF:decide (((fs.length:Nat):Int)<8)
    ·rw[dF,cr]at world nothing;cases dW:decide (((ws.length:Nat):Int)<8)
     ·simp only[ig,kQ,jS,lN,nQ,kh hk,hK,dF,dW,bne,cO,bq,bu,eB,cr,ae,aj,aw,al,de,ak,iz,du];exact bad (nothing rfl (by rw[dW];rfl))
     ·cases hW:aH l [119,111,114,108,100] k
      ·rw[hW]at tW;simp only[ig,kQ,jS,lN,nQ,kh hk,hK,dF,dW,bne,cO,bq,bu,eB,cr,ae,aj,aw,al,de,ak,iz,du,tW];exact bad (nothing rfl (by rw[hW,Bool.and_false]))
      ·rw[hW]at tW;obtain⟨v1,k1,b1,v,k',b',h2,e1,a2,e2⟩:=world rfl (by have:=iN dW;omega) hW;refine⟨v,k',b',h2,a2,?_⟩;simp only[ig,kQ,jS,lN,nQ,kh hk,hK,dF,dW,bne,cO,bq,bu,eB,cr,ae,aj,aw,al,de,ak,iz,du,tW,e1,dL (show ws.length<=1000 by omega)];exact e2
    ·cases hF:aH l [105,110,116,101,114,102,97,99,101] k
     ·rw[hF]at tF;rw[hF,Bool.and_false]at world nothing;cases dW:decide (((ws.length:Nat):Int)<8)
      ·simp only[ig,kQ,jS,lN,nQ,kh hk,hK,dF,dW,bne,cO,bq,bu,eB,cr,ae,aj,aw,al,de,ak,iz,du,tF];exact bad (nothing rfl (by rw[dW];rfl))
      ·cases hW:aH l [119,111,114,108,100] k
       ·rw[hW]at tW;simp only[ig,kQ,jS,lN,nQ,kh hk,hK,dF,dW,bne,cO,bq,bu,eB,cr,ae,aj,aw,al,de,ak,iz,du,tF,tW];exact bad (nothing rfl (by rw[hW,Bool.and_false]))
       ·rw[hW]at tW;obtain⟨v1,k1,b1,v,k',b',h2,e1,a2,e2⟩:=world rfl (by have:=iN dW;omega) hW;refine⟨v,k',b',h2,a2,?_⟩;simp only[ig,kQ,jS,lN,nQ,kh hk,hK,dF,dW,bne,cO,bq,bu,eB,cr,ae,aj,aw,al,de,ak,iz,du,tF,tW,e1,dL (show ws.length<=1000 by omega)];exact e2
     ·rw[hF]at tF;obtain⟨v1,k1,b1,v,k',b',h2,e1,a2,e2⟩:=Ll (by have:=iN dF;omega) hF;refine⟨v,k',b',h2,a2,?_⟩;simp only[ig,kQ,jS,lN,nQ,kh hk,hK,dF,bne,cO,bq,bu,eB,cr,ae,aj,aw,al,de,ak,iz,du,tF,e1,dL (show fs.length<=1000 by omega)];exact e2
   ·refine⟨(fs,ws),k,false,hk,?_,?_⟩
    ·cases m<;>(rw[fD,hK];exact Or.inl ⟨rfl,rfl⟩)
    ·simp only[ig,kQ,jS,lN,nQ,kh hk,hK,bne,cO,bq,Bool.and_false,aj,ae,aw,al,de,ak,du]
theorem ahL{l:List ai}(hL:b9 l)(hT:∀t∈l,t.Text.length<=30000)(t2 t22 x x2:List UInt8)(o7:List aE)(o8:List aJ):∀(f m:Nat)(fs:List aE)(ws:List aJ)(k:Nat)(b:Bool),m+1<f->k<l.length->fs.length+ws.length+m=16->fs.length<=8->ws.length<=8->
 ∃v k' b',k'<l.length/\At (RB b k (fD l m fs ws k)) v k' b'/\M.jU t2 t22 x x2 o7 o8 f (sp l k b) fs ws=some (l,(k':Int),b',t2,t22,x,x2,o7,o8,v.1,v.2):=by
 have hend:∀(f k:Nat)(fs:List aE)(ws:List aJ),k<l.length->M.jU t2 t22 x x2 o7 o8 (f+1) (sp l k true) fs ws=some (l,(k:Int),true,t2,t22,x,x2,o7,o8,fs,ws):=fun f k fs ws hk=>by
  rw[M.jU];simp only[iw,jc,jd,kj,lF hk,cO,cr,aj,du,ak,ae,de]
 intro f
 induction f with
 |zero=>intro m fs ws k b h;omega
 |succ f ih=>
  intro m fs ws k b hf hk hm hfs hws;obtain⟨f',rfl⟩:∃f',f=f'+1:=⟨f-1,by omega⟩;cases b with
  |true=>exact⟨(fs,ws),k,true,hk,At.no _ _ _,hend _ k fs ws hk⟩
  |false=>
   rw[M.jU];cases hK:((bZ l k).Kind==4)
   ·have bad:fD l m fs ws k=.no k->∃v k' b',k'<l.length/\At (RB false k (fD l m fs ws k)) v k' b'/\M.jU t2 t22 x x2 o7 o8 (f'+1) (sp l k true) fs ws=some (l,(k':Int),b',t2,t22,x,x2,o7,o8,v.1,v.2):=fun e=>by
     rw[e];exact⟨(fs,ws),k,true,hk,Or.inr ⟨rfl,rfl⟩,hend _ k fs ws hk⟩
    have tF:=fq hL hk [105,110,116,101,114,102,97,99,101] false;have tW:=fq hL hk [119,111,114,108,100] false;rw[bq,bu]at tF tW;have Ll:fs.length<8->aH l [105,110,116,101,114,102,97,99,101] k=true->∃v1 k1 b1 v k' b',k'<l.length/\M.xN (sp l (k+1) false)=some (v1,sp l k1 b1)/\At (RB false k (fD l m fs ws k)) v k' b'/\M.jU t2 t22 x x2 o7 o8 (f'+1) (sp l k1 b1) (fs++[v1]) ws=some (l,(k':Int),b',t2,t22,x,x2,o7,o8,v.1,v.2):=fun h8 hB=>by
     obtain⟨v1,k1,b1,h1,a1,e1⟩:=ahF hL hT (cV hL hk hB) false;obtain⟨m',rfl⟩:∃m',m=m'+1:=⟨m-1,by omega⟩;obtain⟨v,k',b',h2,a2,e2⟩:=ih m' (fs++[v1]) ws k1 b1 (by omega) h1 (by rw[aM,List.length_singleton];omega) (by rw[aM,List.length_singleton];omega) hws;refine⟨v1,k1,b1,v,k',b',h2,e1,?_,e2⟩;rw[fD,hK];unfold qS;rw[hB,aO (show((fs.length:Nat):Int)<8 by omega)];exact At.bind (r:=mi l (k+1)) a1 a2
    have world:(decide (((fs.length:Nat):Int)<8)&&aH l [105,110,116,101,114,102,97,99,101] k)=false->ws.length<8->aH l [119,111,114,108,100] k=true->∃v1 k1 b1 v k' b',k'<l.length/\M.vm (sp l (k+1) false)=some (v1,sp l k1 b1)/\At (RB false k (fD l m fs ws k)) v k' b'/\M.jU t2 t22 x x2 o7 o8 (f'+1) (sp l k1 b1) fs (ws++[v1])=some (l,(k':Int),b',t2,t22,x,x2,o7,o8,v.1,v.2):=fun hF h8 hB=>by
     obtain⟨v1,k1,b1,h1,a1,e1⟩:=ahJ hL hT (cV hL hk hB) false;obtain⟨m',rfl⟩:∃m',m=m'+1:=⟨m-1,by omega⟩;obtain⟨v,k',b',h2,a2,e2⟩:=ih m' fs (ws++[v1]) k1 b1 (by omega) h1 (by rw[aM,List.length_singleton];omega) hfs (by rw[aM,List.length_singleton];omega);refine⟨v1,k1,b1,v,k',b',h2,e1,?_,e2⟩;rw[fD,hK];unfold qS vn;rw[hF,hB,aO (show((ws.length:Nat):Int)<8 by omega)];exact At.bind (r:=qP l (k+1)) a1 a2
    have nothing:(decide (((fs.length:Nat):Int)<8)&&aH l [105,110,116,101,114,102,97,99,101] k)=false->(decide (((ws.length:Nat):Int)<8)&&aH l [119,111,114,108,100] k)=false->fD l m fs ws k=.no k:=fun hF hW=>by
     cases m with
     |zero=>rw[fD,hK];rfl
     |succ m=>rw[fD,hK];unfold qS vn;rw[hF,hW];rfl
    have world':(decide (((fs.length:Nat):Int)<8)&&aH l [105,110,116,101,114,102,97,99,101] k)=false->∀dW:decide (((ws.length:Nat):Int)<8)=true,aH l [119,111,114,108,100] k=true->ws.length<8:=fun _ h _=>by
     have:=iN h;omega
    cases dF:decide (((fs.length:Nat):Int)<8)
    ·rw[dF,cr]at world nothing;cases dW:decide (((ws.length:Nat):Int)<8)
     ·simp only[iw,jc,jd,kj,lF hk,hK,dF,dW,bne,cO,bq,bu,eB,cr,ae,aj,aw,al,de,ak,iz,du];exact bad (nothing rfl (by rw[dW];rfl))
     ·cases hW:aH l [119,111,114,108,100] k
      ·rw[hW]at tW;simp only[iw,jc,jd,kj,lF hk,hK,dF,dW,bne,cO,bq,bu,eB,cr,ae,aj,aw,al,de,ak,iz,du,tW];exact bad (nothing rfl (by rw[hW,Bool.and_false]))
      ·rw[hW]at tW;obtain⟨v1,k1,b1,v,k',b',h2,e1,a2,e2⟩:=world rfl (by have:=iN dW;omega) hW;refine⟨v,k',b',h2,a2,?_⟩;simp only[iw,jc,jd,kj,lF hk,hK,dF,dW,bne,cO,bq,bu,eB,cr,ae,aj,aw,al,de,ak,iz,du,tW,e1,dL (show ws.length<=1000 by omega)];exact e2
    ·cases hF:aH l [105,110,116,101,114,102,97,99,101] k
     ·rw[hF]at tF;rw[hF,Bool.and_false]at world nothing;cases dW:decide (((ws.length:Nat):Int)<8)
      ·simp only[iw,jc,jd,kj,lF hk,hK,dF,dW,bne,cO,bq,bu,eB,cr,ae,aj,aw,al,de,ak,iz,du,tF];exact bad (nothing rfl (by rw[dW];rfl))
      ·cases hW:aH l [119,111,114,108,100] k
       ·rw[hW]at tW;simp only[iw,jc,jd,kj,lF hk,hK,dF,dW,bne,cO,bq,bu,eB,cr,ae,aj,aw,al,de,ak,iz,du,tF,tW];exact bad (nothing rfl (by rw[hW,Bool.and_false]))
       ·rw[hW]at tW;obtain⟨v1,k1,b1,v,k',b',h2,e1,a2,e2⟩:=world rfl (by have:=iN dW;omega) hW;refine⟨v,k',b',h2,a2,?_⟩;simp only[iw,jc,jd,kj,lF hk,hK,dF,dW,bne,cO,bq,bu,eB,cr,ae,aj,aw,al,de,ak,iz,du,tF,tW,e1,dL (show ws.length<=1000 by omega)];exact e2
     ·rw[hF]at tF;obtain⟨v1,k1,b1,v,k',b',h2,e1,a2,e2⟩:=Ll (by have:=iN dF;omega) hF;refine⟨v,k',b',h2,a2,?_⟩;simp only[iw,jc,jd,kj,lF hk,hK,dF,bne,cO,bq,bu,eB,cr,ae,aj,aw,al,de,ak,iz,du,tF,e1,dL (show fs.length<=1000 by omega)];exact e2
   ·refine⟨(fs,ws),k,false,hk,?_,?_⟩
    ·cases m<;>(rw[fD,hK];exact Or.inl ⟨rfl,rfl⟩)
    ·simp only[iw,jc,jd,kj,lF hk,hK,bne,cO,bq,Bool.and_false,aj,ae,aw,al,de,ak,du]
theorem ahM{l:List ai}(hL:b9 l)(hT:∀t∈l,t.Text.length<=30000){k:Nat}(hk:k<l.length)(b:Bool):
 ∃v k' b',k'<l.length/\At (RB b k (je l k)) v k' b'/\M.AG (ip l k b)=some (aA.Name v,aA.Version v,ip l k' b',aA.aF v,aA.Worlds v):=by
 obtain⟨k1,b1,h1,a1,e1⟩:=jB hL hk (t:=AE) (fun d r e=>by cases e;decide) b;obtain⟨v2,k2,b2,h2,a2,e2,-⟩:=vi hL hT h1 b1;obtain⟨k3,b3,h3,a3,e3⟩:=jB hL h2 (cU 64 (by decide)) b2;obtain⟨v4,k4,b4,h4,a4,e4,-⟩:=Rm hL hT h3 b3;obtain⟨k5,b5,h5,a5,e5⟩:=jB hL h4 (cU 59 (by decide)) b4;obtain⟨v6,k6,b6,h6,a6,e6⟩:=ahK hL hT [] [] v2 v4 [] [] ad 16 [] [] k5 b5 (by have:=bA;omega) h5 rfl (by simp) (by simp);refine⟨aA.mk v2 v4 v6.1 v6.2,k6,b6,h6,a1.bJ (a2.bJ (a3.bJ (a4.bJ (a5.bJ (a6.bJ (At.ret _ _ _)))))),?_⟩;unfold AE at e1;unfold M.AG;simp only[e1,e2,e3,e4,e5,e6,aw,al,ak,ae];rfl
theorem ahN{l:List ai}(hL:b9 l)(hT:∀t∈l,t.Text.length<=30000){k:Nat}(hk:k<l.length)(b:Bool):
 ∃v k' b',k'<l.length/\At (RB b k (je l k)) v k' b'/\M.xO (sp l k b)=some (v,sp l k' b'):=by
 obtain⟨k1,b1,h1,a1,e1⟩:=km hL hk AE b;obtain⟨v2,k2,b2,h2,a2,e2,-⟩:=vj hL hT h1 b1;obtain⟨k3,b3,h3,a3,e3⟩:=km hL h2 [64] b2;obtain⟨v4,k4,b4,h4,a4,e4,-⟩:=Rn hL h3 b3;obtain⟨k5,b5,h5,a5,e5⟩:=km hL h4 [59] b4;obtain⟨v6,k6,b6,h6,a6,e6⟩:=ahL hL hT [] [] v2 v4 [] [] ad 16 [] [] k5 b5 (by have:=bA;omega) h5 rfl (by simp) (by simp);refine⟨aA.mk v2 v4 v6.1 v6.2,k6,b6,h6,a1.bJ (a2.bJ (a3.bJ (a4.bJ (a5.bJ (a6.bJ (At.ret _ _ _)))))),?_⟩;unfold AE at e1;unfold M.xO;simp only[e1,e2,e3,e4,e5,e6,aw,al,ak,ae];rfl
end M
namespace M
open Go.V (inB bS ad bA)
theorem Ru(s:List UInt8):∀(f a:Nat)(line:Int)(out:List ai)(y:Int×List ai),(∀t∈out,t.Text.length<=s.length)->jy s f a line out=.inr y->∀t∈y.2,t.Text.length<=s.length
 |0,a,line,out,y,ho,h=>by cases h
 |f+1,a,line,out,y,ho,h=>by
  unfold jy at h;split at h
  ·split at h
   ·cases h
   ·split at h
    ·cases h
    ·refine Ru s f _ _ _ y (fun t ht=>?_) h;rcases aQ.1 ht with q|q
     ·exact ho t q
     ·rw[iE]at q;rw[q];show(nH s a _).length<=_
      unfold nH;rw[qe,List.length_drop];omega
  ·cases h;exact ho
theorem Rw(s:List UInt8):∀t∈(eH s).1,t.Text.length<=30000:=by
 unfold eH;split
 ·intro t h;cases h
 ·rename_i hl;have hs:=Ru s ad (cK false s 1).1 (cK false s 1).2 [];generalize jy s ad (cK false s 1).1 (cK false s 1).2 []=r at*;cases r with
  |inl x=>intro t h;cases h
  |inr y=>
   intro t h;rcases aQ.1 h with q|q
   ·have:=hs y (fun t q=>by cases q) rfl t q;omega
   ·rw[iE]at q;rw[q];simp
theorem Lm(l:List ai):∀(m:Nat)(fs:List aE)(ws:List aJ)(k:Nat)(v:List aE×List aJ)(k':Nat),fD l m fs ws k=.ok v k'->(bZ l k').Kind=4
 |0,fs,ws,k,v,k',h=>by
  rw[fD]at h;cases hK:((bZ l k).Kind==4)<;>rw[hK]at h
  ·cases h
  ·cases h;exact dJ.1 hK
 |m+1,fs,ws,k,v,k',h=>by
  rw[fD]at h;cases hK:((bZ l k).Kind==4)<;>rw[hK]at h
  ·simp only[aj]at h;cases hF:(decide (((fs.length:Nat):Int)<8)&&aH l qS k)<;>rw[hF]at h
   ·simp only[aj]at h;cases hW:(decide (((ws.length:Nat):Int)<8)&&aH l vn k)<;>rw[hW]at h
    ·cases h
    ·simp only[ae]at h;cases hf:qP l (k+1)with
     |no q=>rw[hf]at h;cases h
     |ok w q=>rw[hf]at h;exact Lm l m _ _ _ _ _ h
   ·simp only[ae]at h;cases hf:mi l (k+1)with
    |no q=>rw[hf]at h;cases h
    |ok w q=>rw[hf]at h;exact Lm l m _ _ _ _ _ h
  ·cases h;exact dJ.1 hK
theorem bind_ok{α β:Type}{r:PR α}{f:α->Nat->PR β}{v:β}{k:Nat}(h:r.bind f=.ok v k):∃a k1,r=.ok a k1/\f a k1=.ok v k:=by
 cases r with
 |no q=>cases h
 |ok a q=>exact⟨a,q,rfl,h⟩
theorem ahO(l:List ai)(k:Nat)(p:aA)(k':Nat)(h:je l k=.ok p k'):(bZ l k').Kind=4:=by
 unfold je at h;obtain⟨_,_,_,h⟩:=bind_ok h;obtain⟨_,_,_,h⟩:=bind_ok h;obtain⟨_,_,_,h⟩:=bind_ok h;obtain⟨_,_,_,h⟩:=bind_ok h;obtain⟨_,_,_,h⟩:=bind_ok h;obtain⟨q,k6,h6,h⟩:=bind_ok h;cases h;exact Lm l _ _ _ _ _ _ h6
noncomputable def ix(s:List UInt8):(Int×Int)⊕aA:=
 if(eH s).2.2=0 then match je (eH s).1 0 with
  |.no k=>.inl ((bZ (eH s).1 k).Line,6)
  |.ok p _=>.inr p
 else .inl ((eH s).2.1,(eH s).2.2)
theorem Rx(s:List UInt8):match ix s with
 |.inl e=>e.2≠0/\∃n v fs ws,M.oV s [] [] [] []=some (e.1,e.2,n,v,fs,ws)
 |.inr p=>M.oV s [] [] [] []=some (0,0,aA.Name p,aA.Version p,aA.aF p,aA.Worlds p):=by
 have ht:=agY s;unfold ix;by_cases h0:(eH s).2.2=0
 ·rw[dP h0];have hL:=K5 s h0;have hT:=Rw s;have e0:((eH s).2.2 !=0)=false:=by rw[bne_eq_false_iff_eq];exact h0
  obtain⟨p,k,b,hk,a,e⟩:=ahM hL hT hL.pos false;have ew:∀n v fs ws,M.AH (ar.mk (eH s).1 0 false) n v fs ws=some (ip (eH s).1 k b,aA.Name p,aA.Version p,aA.aF p,aA.Worlds p):=fun n v fs ws=>by
   unfold M.AH;rw[show ar.mk (eH s).1 0 false=ip (eH s).1 0 false from rfl,e];rfl
  rcases a with⟨q1,q2⟩|⟨q1,q2⟩
  ·rw[show RB false 0 (je (eH s).1 0)=je (eH s).1 0 from rfl]at q1;have h4:=ahO _ _ _ _ q1;rw[q1];have e4:((bZ (eH s).1 k).Kind !=4)=false:=by rw[bne_eq_false_iff_eq];exact h4
   show M.oV s [] [] [] []=_
   unfold M.oV;simp only[ht,e0,ew,q2,ig,jS,nQ,e4,kh hk,aw,al,aj,ae,uy,du,ak]
  ·rw[show RB false 0 (je (eH s).1 0)=je (eH s).1 0 from rfl]at q1;rw[q1];refine⟨show(6:Int)≠0 by decide,aA.Name p,aA.Version p,aA.aF p,aA.Worlds p,?_⟩;unfold M.oV;simp only[ht,e0,ew,q2,ig,jS,nQ,kh hk,aw,al,aj,ae,du,ak]
 ·rw[gq h0];have e0:((eH s).2.2 !=0)=true:=by rw[zj];exact h0
  refine⟨h0,[],[],[],[],?_⟩;unfold M.oV;simp only[ht,e0,aw,al,ae,ak]
theorem ahP(s:List UInt8)(c:aA->Bool)(hc:∀p,ix s=.inr p->M.xP p=some (c p)):M.sJ s=some (match ix s with
 |.inl e=>(aA.mk [] [] [] [],e.1,e.2)
 |.inr p=>bif c p then(p,0,0)else(aA.mk [] [] [] [],0,1)):=by
 have ht:=agX s;by_cases h0:(eH s).2.2=0
 ·have hL:=K5 s h0;have hT:=Rw s;have e0:((eH s).2.2 !=0)=false:=by rw[bne_eq_false_iff_eq];exact h0
  obtain⟨p,k,b,hk,a,e⟩:=ahN hL hT hL.pos false;have e':M.xO (aC.mk (eH s).1 0 false)=some (p,sp (eH s).1 k b):=e;rcases a with⟨q1,q2⟩|⟨q1,q2⟩
  ·rw[show RB false 0 (je (eH s).1 0)=je (eH s).1 0 from rfl]at q1;have hw:ix s=.inr p:=by unfold ix;rw[dP h0,q1]
   have hcp:=hc p hw;rw[hw];unfold M.sJ;simp only[ht,e0,e',q2,iw,hcp,aw,al,aj,ak,ae];cases c p<;>rfl
  ·rw[show RB false 0 (je (eH s).1 0)=je (eH s).1 0 from rfl]at q1;have hw:ix s=.inl ((bZ (eH s).1 k).Line,6):=by unfold ix;rw[dP h0,q1]
   rw[hw];unfold M.sJ;simp only[ht,e0,e',q2,iw,lF hk,aw,al,aj,ak,ae]
 ·have hw:ix s=.inl ((eH s).2.1,(eH s).2.2):=by unfold ix;rw[gq h0]
  have e0:((eH s).2.2 !=0)=true:=by rw[zj];exact h0
  rw[hw];unfold M.sJ;simp only[ht,e0,aw,al,ae,ak]
end M
namespace M
open Go.V (inB bS ad bA)
theorem dU{n k:Nat}(h:k<n):inB (k:Int) n=true:=by rw[dH];simpa using h
theorem twice_in(list:List (List UInt8))(hl:list.length<=1000000)(i:Nat)(hi:i<list.length):∀(f k:Nat),i-k<f->k<=i->
 ((∃j,k<=j/\j<i/\list.getD i []=list.getD j [])/\M.vo list (i:Int) f (k:Int)=some (.inl true))\/
 ((¬∃j,k<=j/\j<i/\list.getD i []=list.getD j [])/\M.vo list (i:Int) f (k:Int)=some (.inr (list,(i:Int))))
 |0,k,h,_=>by omega
 |f+1,k,h,hk=>by
  rw[M.vo];rcases cP k i with q|q
  ·rw[aO (show((k:Nat):Int)<((i:Nat):Int) by omega)];simp only[cg,dU (show k<list.length by omega),dU hi,ae,ak];have hw:Go.IntKind.wrap .i64 ((k:Int)+1)=((k+1:Nat):Int):=by rw[wrap_i64 (by omega) (by omega)];omega
   cases e:(list.getD i []==list.getD k [])
   ·have hne:list.getD i []≠list.getD k []:=bE.1 e;simp only[aj,hw];rcases twice_in list hl i hi f (k+1) (by omega) (by omega)with⟨⟨j,h1,h2,h3⟩,e1⟩|⟨h1,e1⟩
    ·exact Or.inl ⟨⟨j,by omega,h2,h3⟩,e1⟩
    ·refine Or.inr ⟨fun⟨j,a,b,c⟩=>?_,e1⟩;rcases Nat.eq_or_lt_of_le a with z|z
     ·rw[<-z]at c;exact hne c
     ·exact h1 ⟨j,by omega,b,c⟩
   ·exact Or.inl ⟨⟨k,cw _,q,dJ.1 e⟩,rfl⟩
  ·rw[db (show ¬((k:Nat):Int)<((i:Nat):Int) by omega)];exact Or.inr ⟨fun⟨j,a,b,_⟩=>by omega,rfl⟩
theorem Ry(list:List (List UInt8))(hl:list.length<=1000000):∀(f i:Nat),list.length-i<f->i<=list.length->
 ((∃a b,i<=a/\a<list.length/\b<a/\list.getD a []=list.getD b [])/\M.vp f list (i:Int)=some (.inl true))\/
 ((¬∃a b,i<=a/\a<list.length/\b<a/\list.getD a []=list.getD b [])/\M.vp f list (i:Int)=some (.inr ()))
 |0,i,h,_=>by omega
 |f+1,i,h,hi=>by
  rw[M.vp];rcases cP i list.length with q|q
  ·rw[aO (show((i:Nat):Int)<((list.length:Nat):Int) by omega)];have hw:Go.IntKind.wrap .i64 ((i:Int)+1)=((i+1:Nat):Int):=by rw[wrap_i64 (by omega) (by omega)];omega
   rcases twice_in list hl i q ad 0 (by have:=bA;omega) (jr _)with⟨⟨j,h1,h2,h3⟩,e1⟩|⟨h1,e1⟩
   ·refine Or.inl ⟨⟨i,j,cw _,q,h2,h3⟩,?_⟩;rw[show((0:Nat):Int)=0 from rfl]at e1;simp only[ae,e1]
   ·rw[show((0:Nat):Int)=0 from rfl]at e1;simp only[ae,e1,hw];rcases Ry list hl f (i+1) (by omega) (by omega)with⟨⟨a,b,x1,x2,x3,x4⟩,e2⟩|⟨h2,e2⟩
    ·exact Or.inl ⟨⟨a,b,by omega,x2,x3,x4⟩,e2⟩
    ·refine Or.inr ⟨fun⟨a,b,x1,x2,x3,x4⟩=>?_,e2⟩;rcases Nat.eq_or_lt_of_le x1 with z|z
     ·rw[<-z]at x3 x4;exact h1 ⟨b,jr _,x3,x4⟩
     ·exact h2 ⟨a,b,by omega,x2,x3,x4⟩
  ·rw[db (show ¬((i:Nat):Int)<((list.length:Nat):Int) by omega)];exact Or.inr ⟨fun⟨a,b,x1,x2,_,_⟩=>by omega,rfl⟩
theorem EP(list:List (List UInt8))(hl:list.length<=1000000):M.sK list=some (!nodupB list):=by
 unfold M.sK;have h:=Ry list hl ad 0 (by have:=bA;omega) (jr _);rw[show((0:Nat):Int)=0 from rfl]at h;rcases h with⟨⟨a,b,_,x2,x3,x4⟩,e⟩|⟨h1,e⟩
 ·have:nodupB list=false:=by
   rw[Bool.eq_false_iff];intro hn;have hn:=(ER list).1 hn;have:=rN.1 hn b a (by omega) x2 x3;rw[fh,fh,bB x2,bB (show b<list.length by omega)]at x4;exact this x4.symm
  simp only[e,this,bq]
 ·have:nodupB list=true:=by
   rw[ER];refine rN.2 fun i j hi hj hij e2=>h1 ⟨j,i,jr _,hj,hij,?_⟩
   rw[fh,fh,bB hj,bB hi];exact e2.symm
  simp only[e,this,cO]
end M
namespace M
open Go.V (inB bS ad bA)
def nR(u:aK):List UInt8:=bif !(u.As==[])then u.As else u.Name
def typeOf(x:ah):List (List UInt8):=bif x.Kind==3 then[]else bif x.Kind==4 then x.Uses.map nR else[x.Name]
def funcOf(x:ah):List (List UInt8):=bif x.Kind==3 then[x.Name]else[]
def jf(xs:List ah):List (List UInt8):=(xs.map typeOf).flatten
def jg(xs:List ah):List (List UInt8):=(xs.map funcOf).flatten
theorem ahQ(u:aK):M.AI u=some (nR u):=by
 unfold M.AI nR;cases (!(u.As==[]))<;>rfl
theorem ahR(u:aK):M.AK u=some (nR u):=by
 unfold M.AK nR;cases (!(u.As==[]))<;>rfl
theorem dV{α:Type}{l:List α}{k:Nat}(d:α)(h:k<l.length):List.getD l k d=l[k]:=by
 rw[fh,bB h];rfl
theorem jV{α:Type}{l:List α}{k:Nat}(h:k<l.length):l.drop k=l[k]::l.drop (k+1):=List.drop_eq_getElem_cons h
theorem fK{k n:Nat}(h:k<n):decide ((k:Int)<(n:Int))=true:=aO (by omega)
theorem kS{k n:Nat}(h:n<=k):decide ((k:Int)<(n:Int))=false:=db (by omega)
theorem oW{k:Nat}(h:k<=1000000):Go.IntKind.wrap .i64 ((k:Int)+1)=((k+1:Nat):Int):=by rw[wrap_i64 (by omega) (by omega)];omega
theorem Rz{t18:List aE}{t19 t20:Int}{t27:List ah}{t28 t29:Int}{x:aA}{f:aE}{faces worlds funcs:List (List UInt8)}(us:List aK)(hU:us.length<=1000):∀(n k:Nat)(types:List (List UInt8)),us.length-k<n->k<=us.length->types.length+(us.length-k)<=1000->
 M.xQ t18 t19 t20 t27 t28 t29 us ((us.length:Nat):Int) x f faces worlds funcs n (k:Int) types=some (t18,t19,t20,t27,t28,t29,x,f,faces,worlds,funcs,types++(us.drop k).map nR)
 |0,k,types,h,_,_=>by omega
 |n+1,k,types,h,hk,hb=>by
  rw[M.xQ];rcases cP k us.length with q|q
  ·have:=Rz (t18:=t18) (t19:=t19) (t20:=t20) (t27:=t27) (t28:=t28) (t29:=t29) (x:=x) (f:=f) (faces:=faces) (worlds:=worlds) (funcs:=funcs) us hU n (k+1) (types++[nR us[k]]) (by omega) (by omega) (by rw[aM,List.length_singleton];omega);simp only[fK q,cg,dV _ q,ahQ,aw,al,dL (show types.length<=1000 by omega),dU q,ak,ae,oW (show k<=1000000 by omega),this];rw[jV q,fy,fw,List.singleton_append]
  ·simp only[kS q,aj];rw[List.drop_eq_nil_of_le q,List.map_nil,uE]
theorem RD{t18:List aE}{t19 t20:Int}{x:aA}{f:aE}{faces worlds:List (List UInt8)}(xs:List ah)(hX:xs.length<=1000)(hu:∀i∈xs,i.Uses.length<=16):∀(n k:Nat)(funcs types:List (List UInt8)),xs.length-k<n->k<=xs.length->types.length+17*(xs.length-k)<=1000->funcs.length+(xs.length-k)<=1000->
 M.sL n t18 t19 t20 xs ((xs.length:Nat):Int) (k:Int) x f faces worlds funcs types=some (t18,t19,t20,x,f,faces,worlds,funcs++jg (xs.drop k),types++jf (xs.drop k))
 |0,k,_,_,h,_,_,_=>by omega
 |n+1,k,funcs,types,h,hk,hb,hc=>by
  rw[M.sL];rcases cP k xs.length with q|q
  ·have hx:=hu xs[k] (dM q);have ih:=fun fs ts=>RD (t18:=t18) (t19:=t19) (t20:=t20) (x:=x) (f:=f) (faces:=faces) (worlds:=worlds) xs hX hu n (k+1) fs ts (by omega) (by omega)
   have eF:jg (xs.drop k)=funcOf xs[k]++jg (xs.drop (k+1)):=by unfold jg;rw[jV q];rfl
   have eT:jf (xs.drop k)=typeOf xs[k]++jf (xs.drop (k+1)):=by unfold jf;rw[jV q];rfl
   rw[eF,eT];unfold funcOf typeOf;simp only[fK q,cg,dV _ q,ae,dU q,ak,oW (show k<=1000000 by omega)];cases h3:(xs[k].Kind==(3:Int))
   ·cases h4:(xs[k].Kind==(4:Int))
    ·have:=ih funcs (types++[xs[k].Name]) (by rw[aM,List.length_singleton];omega) (by omega);simp only[aj,ae,dL (show types.length<=1000 by omega),ak,this,lp,fw]
    ·have hm:=Rz (t18:=t18) (t19:=t19) (t20:=t20) (t27:=xs) (t28:=((xs.length:Nat):Int)) (t29:=((k:Nat):Int)) (x:=x) (f:=f) (faces:=faces) (worlds:=worlds) (funcs:=funcs) xs[k].Uses (by omega) ad 0 types (by have:=bA;omega) (jr _) (by omega);rw[show((0:Nat):Int)=0 from rfl,ll]at hm;have:=ih funcs (types++xs[k].Uses.map nR) (by rw[aM,dD];omega) (by omega);simp only[aj,ae,hm,oW (show k<=1000000 by omega),this,lp,fw]
   ·have:=ih (funcs++[xs[k].Name]) types (by omega) (by rw[aM,List.length_singleton];omega);simp only[ae,dL (show funcs.length<=1000 by omega),ak,this,lp,fw]
  ·simp only[kS q,aj];rw[List.drop_eq_nil_of_le q];simp[jg,jf]
theorem RE{i:Int}{f:aE}{funcs:List (List UInt8)}(x:ah)(hU:x.Uses.length<=1000):∀(n k:Nat)(types:List (List UInt8)),x.Uses.length-k<n->k<=x.Uses.length->types.length+(x.Uses.length-k)<=1000->
 M.xR i f funcs n (k:Int) x types=some (i,f,types++(x.Uses.drop k).map nR,funcs)
 |0,k,types,h,_,_=>by omega
 |n+1,k,types,h,hk,hb=>by
  rw[M.xR];rcases cP k x.Uses.length with q|q
  ·have:=RE (i:=i) (f:=f) (funcs:=funcs) x hU n (k+1) (types++[nR x.Uses[k]]) (by omega) (by omega) (by rw[aM,List.length_singleton];omega);simp only[fK q,cg,dV _ q,ahR,aw,al,dL (show types.length<=1000 by omega),dU q,ak,ae,oW (show k<=1000000 by omega),ah.aD,this];rw[jV q,fy,fw,List.singleton_append]
  ·simp only[kS q,aj];rw[List.drop_eq_nil_of_le q,List.map_nil,uE]
theorem RF(f:aE)(hX:f.Items.length<=1000)(hu:∀i∈f.Items,i.Uses.length<=16/\1<=i.Kind/\i.Kind<=4):∀(n k:Nat)(funcs types:List (List UInt8)),f.Items.length-k<n->k<=f.Items.length->types.length+17*(f.Items.length-k)<=1000->funcs.length+(f.Items.length-k)<=1000->
 M.qT n (k:Int) f types funcs=some (types++jf (f.Items.drop k),funcs++jg (f.Items.drop k))
 |0,k,_,_,h,_,_,_=>by omega
 |n+1,k,funcs,types,h,hk,hb,hc=>by
  rw[M.qT];rcases cP k f.Items.length with q|q
  ·have hx:=hu f.Items[k] (dM q);have ih:=fun fs ts=>RF f hX hu n (k+1) fs ts (by omega) (by omega)
   have eF:jg (f.Items.drop k)=funcOf f.Items[k]++jg (f.Items.drop (k+1)):=by unfold jg;rw[jV q];rfl
   have eT:jf (f.Items.drop k)=typeOf f.Items[k]++jf (f.Items.drop (k+1)):=by unfold jf;rw[jV q];rfl
   rw[eF,eT];unfold funcOf typeOf;simp only[fK q,cg,dV _ q,ae,dU q,ak,du,oW (show k<=1000000 by omega),ah.aD];have hkd:f.Items[k].Kind=1\/f.Items[k].Kind=2\/f.Items[k].Kind=3\/f.Items[k].Kind=4:=by omega
   rcases hkd with e|e|e|e
   ·have:=ih funcs (types++[f.Items[k].Name]) (by rw[aM,List.length_singleton];omega) (by omega);rw[e];simp only[Int.reduceBEq,aj,ae,dL (show types.length<=1000 by omega),ak,this,lp,fw]
   ·have:=ih funcs (types++[f.Items[k].Name]) (by rw[aM,List.length_singleton];omega) (by omega);rw[e];simp only[Int.reduceBEq,aj,ae,dL (show types.length<=1000 by omega),ak,this,lp,fw]
   ·have:=ih (funcs++[f.Items[k].Name]) types (by omega) (by rw[aM,List.length_singleton];omega);rw[e];simp only[Int.reduceBEq,aj,ae,dL (show funcs.length<=1000 by omega),ak,this,lp,fw]
   ·have hm:=RE (i:=((k:Nat):Int)) (f:=f) (funcs:=funcs) f.Items[k] (by omega) ad 0 types (by have:=bA;omega) (jr _) (by omega);rw[show((0:Nat):Int)=0 from rfl,ll]at hm;have:=ih funcs (types++f.Items[k].Uses.map nR) (by rw[aM,dD];omega) (by omega);rw[e];simp only[Int.reduceBEq,aj,ae,hm,oW (show k<=1000000 by omega),this,lp,fw]
  ·simp only[kS q,aj];rw[List.drop_eq_nil_of_le q];simp[jg,jf]
end M
namespace M
open Go.V (inB bS ad bA)
def xU(f:aE):Prop:=f.Items.length<=16/\∀i∈f.Items,i.Uses.length<=16/\1<=i.Kind/\i.Kind<=4
def ES(p:aA):Prop:=p.aF.length<=8/\p.Worlds.length<=8/\∀f∈p.aF,xU f
def vq(f:aE):Bool:=nodupB (jf f.Items)&&nodupB (jg f.Items)
def qU(p:aA):Bool:=p.aF.all vq&&(nodupB (p.aF.map (·.Name))&&nodupB (p.Worlds.map (·.Name)))
theorem Ln:∀(xs:List ah),(∀i∈xs,i.Uses.length<=16)->(jf xs).length<=17*xs.length
 |[],_=>cw _
 |x::r,h=>by
  have h1:=h x (by simp);have h2:=Ln r fun i hi=>h i (by simp[hi])
  have e:jf (x::r)=typeOf x++jf r:=rfl;rw[e,aM,aU];have:(typeOf x).length<=16:=by
   unfold typeOf;cases (x.Kind==3)
   ·cases (x.Kind==4)
    ·simp
    ·simpa using h1
   ·simp
  omega
theorem Lo:∀(xs:List ah),(jg xs).length<=xs.length
 |[]=>cw _
 |x::r=>by
  have h2:=Lo r;have e:jg (x::r)=funcOf x++jg r:=rfl;rw[e,aM,aU];have:(funcOf x).length<=1:=by
   unfold funcOf;cases (x.Kind==3)<;>simp
  omega
theorem RG{x:aA}{worlds:List (List UInt8)}(fs:List aE)(hX:fs.length<=8)(hf:∀f∈fs,xU f):∀(n k:Nat)(faces:List (List UInt8)),fs.length-k<n->k<=fs.length->faces.length+(fs.length-k)<=1000->
 M.xW n fs ((fs.length:Nat):Int) (k:Int) x faces worlds=some (bif(fs.drop k).all vq then .inr (x,faces++(fs.drop k).map (·.Name),worlds)else .inl false)
 |0,k,faces,h,_,_=>by omega
 |n+1,k,faces,h,hk,hb=>by
  rw[M.xW];rcases cP k fs.length with q|q
  ·obtain⟨hf1,hf2⟩:=hf fs[k] (dM q);have hu:=fun i hi=>(hf2 i hi).1
   have hm:=RD (t18:=fs) (t19:=((fs.length:Nat):Int)) (t20:=((k:Nat):Int)) (x:=x) (f:=fs[k]) (faces:=faces) (worlds:=worlds) fs[k].Items (by omega) hu ad 0 [] [] (by have:=bA;omega) (jr _) (by simp;omega) (by simp;omega);rw[show((0:Nat):Int)=0 from rfl,ll,lp,lp]at hm;have l1:=Ln fs[k].Items hu;have l2:=Lo fs[k].Items;have d1:=ET (jf fs[k].Items) (by omega);have d2:=ET (jg fs[k].Items) (by omega);have ih:=RG (x:=x) (worlds:=worlds) fs hX hf n (k+1) (faces++[fs[k].Name]) (by omega) (by omega) (by rw[aM,List.length_singleton];omega);rw[jV q,DI];simp only[fK q,cg,dV _ q,ae,hm,d1,d2,aw,al,du,dU q,ak,oW (show k<=1000000 by omega),dL (show faces.length<=1000 by omega),ih];unfold vq;cases nodupB (jg fs[k].Items)
   ·simp only[bq,du,ae,Bool.and_false,cr,aj]
   ·cases nodupB (jf fs[k].Items)
    ·simp only[bq,cO,iz,ae,cr,aj]
    ·simp only[cO,uy,aj,ak,bu,fy,fw,List.singleton_append]
  ·simp only[kS q,aj];rw[List.drop_eq_nil_of_le q];simp
theorem RH{faces:List (List UInt8)}(ws:List aJ)(hX:ws.length<=8):∀(n k:Nat)(worlds:List (List UInt8)),ws.length-k<n->k<=ws.length->worlds.length+(ws.length-k)<=1000->
 M.xX ws ((ws.length:Nat):Int) faces n (k:Int) worlds=some (faces,worlds++(ws.drop k).map (·.Name))
 |0,k,_,h,_,_=>by omega
 |n+1,k,worlds,h,hk,hb=>by
  rw[M.xX];rcases cP k ws.length with q|q
  ·have ih:=RH (faces:=faces) ws hX n (k+1) (worlds++[ws[k].Name]) (by omega) (by omega) (by rw[aM,List.length_singleton];omega);simp only[fK q,cg,dV _ q,ae,dU q,ak,oW (show k<=1000000 by omega),dL (show worlds.length<=1000 by omega),ih];rw[jV q,fy,fw,List.singleton_append]
  ·simp only[kS q,aj];rw[List.drop_eq_nil_of_le q];simp
theorem ahS(p:aA)(hp:ES p):M.AL p=some (qU p):=by
 obtain⟨h1,h2,h3⟩:=hp;have e1:=RG (x:=p) (worlds:=[]) p.aF h1 h3 ad 0 [] (by have:=bA;omega) (jr _) (by simp;omega);have e2:=RH (faces:=p.aF.map (·.Name)) p.Worlds h2 ad 0 [] (by have:=bA;omega) (jr _) (by simp;omega);rw[show((0:Nat):Int)=0 from rfl,ll,lp]at e1 e2;have d1:=ET (p.aF.map (·.Name)) (by rw[dD];omega);have d2:=ET (p.Worlds.map (·.Name)) (by rw[dD];omega);unfold M.AL qU;rw[e1];cases p.aF.all vq
 ·rfl
 ·simp only[ae,e2,d1,d2,aw,al,du,ak,bu]
theorem ahT(f:aE)(hf:xU f):M.AM f=some (jf f.Items,jg f.Items):=by
 have hm:=RF f (by have:=hf.1;omega) hf.2 ad 0 [] [] (by have:=bA;have:=hf.1;omega) (jr _) (by simp;have:=hf.1;omega) (by simp;have:=hf.1;omega);rw[show((0:Nat):Int)=0 from rfl,ll,lp,lp]at hm;unfold M.AM;simp only[hm]
theorem RI(x:aA){worlds:List (List UInt8)}(hX:x.aF.length<=8)(hf:∀f∈x.aF,xU f):∀(n k:Nat)(faces:List (List UInt8)),x.aF.length-k<n->k<=x.aF.length->faces.length+(x.aF.length-k)<=1000->
 M.xY x worlds n (k:Int) faces=some (bif(x.aF.drop k).all vq then .inr (x,faces++(x.aF.drop k).map (·.Name),worlds)else .inl false)
 |0,k,faces,h,_,_=>by omega
 |n+1,k,faces,h,hk,hb=>by
  rw[M.xY];rcases cP k x.aF.length with q|q
  ·have hfk:=hf x.aF[k] (dM q);have hu:=fun i hi=>(hfk.2 i hi).1
   have l1:=Ln x.aF[k].Items hu;have l2:=Lo x.aF[k].Items;have l3:=hfk.1;have d1:=EP (jf x.aF[k].Items) (by omega);have d2:=EP (jg x.aF[k].Items) (by omega);have ih:=RI x (worlds:=worlds) hX hf n (k+1) (faces++[x.aF[k].Name]) (by omega) (by omega) (by rw[aM,List.length_singleton];omega);rw[jV q,DI];simp only[fK q,cg,dV _ q,ae,ahT _ hfk,d1,d2,aw,al,du,dU q,ak,oW (show k<=1000000 by omega),dL (show faces.length<=1000 by omega),ih];unfold vq;cases nodupB (jf x.aF[k].Items)
   ·simp only[bq,du,ae,Bool.and_false,cr,aj]
   ·cases nodupB (jg x.aF[k].Items)
    ·simp only[bq,cO,iz,ae,Bool.and_false,cr,aj]
    ·simp only[cO,uy,aj,ak,bu,fy,fw,List.singleton_append]
  ·simp only[kS q,aj];rw[List.drop_eq_nil_of_le q];simp
theorem RJ(x:aA){faces:List (List UInt8)}(hX:x.Worlds.length<=8):∀(n k:Nat)(worlds:List (List UInt8)),x.Worlds.length-k<n->k<=x.Worlds.length->worlds.length+(x.Worlds.length-k)<=1000->
 M.xZ x faces n (k:Int) worlds=some (faces,worlds++(x.Worlds.drop k).map (·.Name))
 |0,k,_,h,_,_=>by omega
 |n+1,k,worlds,h,hk,hb=>by
  rw[M.xZ];rcases cP k x.Worlds.length with q|q
  ·have ih:=RJ x (faces:=faces) hX n (k+1) (worlds++[x.Worlds[k].Name]) (by omega) (by omega) (by rw[aM,List.length_singleton];omega);simp only[fK q,cg,dV _ q,ae,dU q,ak,oW (show k<=1000000 by omega),dL (show worlds.length<=1000 by omega),ih];rw[jV q,fy,fw,List.singleton_append]
  ·simp only[kS q,aj];rw[List.drop_eq_nil_of_le q];simp
theorem ahU(p:aA)(hp:ES p):M.xP p=some (qU p):=by
 obtain⟨h1,h2,h3⟩:=hp;have e1:=RI p (worlds:=[]) h1 h3 ad 0 [] (by have:=bA;omega) (jr _) (by simp;omega);have e2:=RJ p (faces:=p.aF.map (·.Name)) h2 ad 0 [] (by have:=bA;omega) (jr _) (by simp;omega);rw[show((0:Nat):Int)=0 from rfl,ll,lp]at e1 e2;have d1:=EP (p.aF.map (·.Name)) (by rw[dD];omega);have d2:=EP (p.Worlds.map (·.Name)) (by rw[dD];omega);unfold M.xP qU;rw[e1];cases p.aF.all vq
 ·rfl
 ·simp only[ae,e2,d1,d2,aw,al,du,ak,bu,Bool.not_not]
end M
namespace M
open Go.V (inB bS ad bA)
theorem vr{α:Type}{P:α->Prop}(l:List ai)(el:Nat->PR α)(he:∀k v k',el k=.ok v k'->P v):∀(m:Nat)(acc:List α)(k:Nat)(vs:List α)(k':Nat),(∀v∈acc,P v)->d4 l el m acc k=.ok vs k'->vs.length<=acc.length+m+1/\∀v∈vs,P v
 |m,acc,k,vs,k',ha,h=>by
  rw[d4.eq_def]at h;dsimp only at h;have one:∀v k1,el k=.ok v k1->∀w∈acc++[v],P w:=fun v k1 e w hw=>by
   rcases aQ.1 hw with q|q
   ·exact ha w q
   ·rw[iE.1 q];exact he _ _ _ e
  cases hk:el k with
  |no q=>rw[hk]at h;cases h
  |ok v k1=>
   rw[hk]at h;cases m with
   |zero=>
    cases h;exact⟨by rw[aM,List.length_singleton];omega,one v _ hk⟩
   |succ m=>
    simp only at h;cases hc:aH l [44] k1<;>rw[hc]at h
    ·cases h;exact⟨by rw[aM,List.length_singleton];omega,one v _ hk⟩
    ·have:=vr l el he m (acc++[v]) (k1+1) vs k' (one v k1 hk) h;rw[aM,List.length_singleton]at this;exact⟨by omega,this.2⟩
theorem AN{α:Type}{P:α->Prop}(l:List ai)(el:Nat->PR α)(he:∀k v k',el k=.ok v k'->P v):∀(m:Nat)(acc:List α)(k:Nat)(vs:List α)(k':Nat),(∀v∈acc,P v)->gP l el m acc k=.ok vs k'->vs.length<=acc.length+m/\∀v∈vs,P v
 |0,acc,k,vs,k',ha,h=>by
  rw[gP]at h;obtain⟨_,_,_,h⟩:=bind_ok h;cases h;exact⟨by omega,ha⟩
 |m+1,acc,k,vs,k',ha,h=>by
  rw[gP]at h;cases hc:aH l [125] k<;>rw[hc]at h
  ·obtain⟨v,k1,hk,h⟩:=bind_ok h;have:=AN l el he m (acc++[v]) k1 vs k' (fun w hw=>by
    rcases aQ.1 hw with q|q
    ·exact ha w q
    ·rw[iE.1 q];exact he _ _ _ hk) h
   rw[aM,List.length_singleton]at this;exact⟨by omega,this.2⟩
  ·cases h;exact⟨by omega,ha⟩
theorem AO{P:aE->Prop}{Q:aJ->Prop}(l:List ai)(hP:∀k v k',mi l k=.ok v k'->P v)(hQ:∀k v k',qP l k=.ok v k'->Q v):∀(m:Nat)(fs:List aE)(ws:List aJ)(k:Nat)(v:List aE×List aJ)(k':Nat),
 fs.length<=8->ws.length<=8->(∀f∈fs,P f)->(∀w∈ws,Q w)->fD l m fs ws k=.ok v k'->v.1.length<=8/\v.2.length<=8/\(∀f∈v.1,P f)/\∀w∈v.2,Q w
 |0,fs,ws,k,v,k',h1,h2,h3,h4,h=>by
  rw[fD]at h;cases hK:((bZ l k).Kind==4)<;>rw[hK]at h
  ·cases h
  ·cases h;exact⟨h1,h2,h3,h4⟩
 |m+1,fs,ws,k,v,k',h1,h2,h3,h4,h=>by
  rw[fD]at h;cases hK:((bZ l k).Kind==4)<;>rw[hK]at h
  ·simp only[aj]at h;cases hF:(decide (((fs.length:Nat):Int)<8)&&aH l qS k)<;>rw[hF]at h
   ·simp only[aj]at h;cases hW:(decide (((ws.length:Nat):Int)<8)&&aH l vn k)<;>rw[hW]at h
    ·cases h
    ·simp only[ae]at h;obtain⟨w,k1,hk,h⟩:=bind_ok h;have h8:=iN (Bool.and_eq_true_iff.1 hW).1;exact AO l hP hQ m fs (ws++[w]) k1 v k' h1 (by rw[aM,List.length_singleton];omega) h3 (fun x hx=>by
      rcases aQ.1 hx with q|q
      ·exact h4 x q
      ·rw[iE.1 q];exact hQ _ _ _ hk) h
   ·simp only[ae]at h;obtain⟨f,k1,hk,h⟩:=bind_ok h;have h8:=iN (Bool.and_eq_true_iff.1 hF).1;exact AO l hP hQ m (fs++[f]) ws k1 v k' (by rw[aM,List.length_singleton];omega) h2 (fun x hx=>by
     rcases aQ.1 hx with q|q
     ·exact h3 x q
     ·rw[iE.1 q];exact hP _ _ _ hk) h4 h
  ·cases h;exact⟨h1,h2,h3,h4⟩
theorem ahV(l:List ai)(nm:List UInt8)(k:Nat)(v:ah)(k':Nat)(h:nL l nm k=.ok v k'):v.Kind=3/\v.Uses=[]:=by
 have:∀as k,qO l nm as k=.ok v k'->v.Kind=3/\v.Uses=[]:=fun as k h=>by
  unfold qO at h;obtain⟨_,_,_,h⟩:=bind_ok h;obtain⟨_,_,_,h⟩:=bind_ok h;obtain⟨_,_,_,h⟩:=bind_ok h;cases h;exact⟨rfl,rfl⟩
 unfold nL at h;cases hc:aH l qN k<;>rw[hc]at h<;>exact this _ _ h
theorem ahW(l:List ai)(k:Nat)(v:ah)(k':Nat)(h:ko l k=.ok v k'):v.Uses.length<=16/\1<=v.Kind/\v.Kind<=4:=by
 unfold ko nM at h;obtain⟨x,k1,hx,h⟩:=bind_ok h;obtain⟨_,_,_,h⟩:=bind_ok h;cases h;obtain⟨nm,k2,_,hx⟩:=bind_ok hx;unfold kR at hx;cases jD:aH l [58] k2<;>rw[jD]at hx
 ·cases hR:(nm==mU)<;>rw[hR]at hx
  ·cases hY:(nm==oS)<;>rw[hY]at hx
   ·cases hU:(nm==oU)<;>rw[hU]at hx
    ·cases hx
    ·simp only[ae,aj]at hx;unfold xG at hx;obtain⟨_,_,_,hx⟩:=bind_ok hx;obtain⟨_,_,_,hx⟩:=bind_ok hx;obtain⟨_,_,_,hx⟩:=bind_ok hx;obtain⟨us,_,hu,hx⟩:=bind_ok hx;obtain⟨_,_,_,hx⟩:=bind_ok hx;cases hx;have:=(vr (P:=fun _=>True) l _ (fun _ _ _ _=>trivial) 15 [] _ us _ (fun _ _=>trivial) hu).1;exact⟨by simpa using this,by show(1:Int)<=4;decide,by show(4:Int)<=4;decide⟩
   ·simp only[ae,aj]at hx;obtain⟨_,_,_,hx⟩:=bind_ok hx;obtain⟨_,_,_,hx⟩:=bind_ok hx;obtain⟨_,_,_,hx⟩:=bind_ok hx;cases hx;exact⟨by simp,by show(1:Int)<=2;decide,by show(2:Int)<=4;decide⟩
  ·simp only[ae,aj]at hx;obtain⟨_,_,_,hx⟩:=bind_ok hx;cases hx;exact⟨by simp,by show(1:Int)<=1;decide,by show(1:Int)<=4;decide⟩
 ·obtain⟨e1,e2⟩:=ahV l _ _ _ _ hx;rw[e1,e2];exact⟨by simp,by decide,by decide⟩
theorem ahX(l:List ai)(k:Nat)(v:aE)(k':Nat)(h:mi l k=.ok v k'):xU v:=by
 unfold mi at h;obtain⟨_,_,_,h⟩:=bind_ok h;obtain⟨_,_,_,h⟩:=bind_ok h;obtain⟨xs,_,hx,h⟩:=bind_ok h;cases h;have:=AN (P:=fun v:ah=>v.Uses.length<=16/\1<=v.Kind/\v.Kind<=4) l (ko l) (ahW l) 16 [] _ xs _ (by simp) hx;exact⟨by simpa using this.1,this.2⟩
theorem ahY(l:List ai)(k:Nat)(p:aA)(k':Nat)(h:je l k=.ok p k'):ES p:=by
 unfold je at h;obtain⟨_,_,_,h⟩:=bind_ok h;obtain⟨_,_,_,h⟩:=bind_ok h;obtain⟨_,_,_,h⟩:=bind_ok h;obtain⟨_,_,_,h⟩:=bind_ok h;obtain⟨_,_,_,h⟩:=bind_ok h;obtain⟨q,k6,h6,h⟩:=bind_ok h;cases h;have:=AO (P:=xU) (Q:=fun _=>True) l (ahX l) (fun _ _ _ _=>trivial) 16 [] [] _ q _ (by simp) (by simp) (by simp) (by simp) h6;exact⟨this.1,this.2.1,this.2.2.1⟩
theorem RL(s:List UInt8)(p:aA)(h:ix s=.inr p):ES p:=by
 unfold ix at h;split at h
 ·split at h
  ·cases h
  ·rename_i hp;cases h;exact ahY _ _ _ _ hp
 ·cases h
def noPack:aA:=aA.mk [] [] [] []
noncomputable def mV(s:List UInt8):aA×Int×Int:=match ix s with
 |.inl e=>(noPack,e.1,e.2)
 |.inr p=>bif qU p then(p,0,0)else(noPack,0,1)
theorem ahZ(s:List UInt8):M.sJ s=some (mV s):=by
 rw[ahP s qU fun p hp=>ahU p (RL s p hp)];rfl
theorem ah0(s:List UInt8):M.AP s=some (mV s):=by
 have h:=Rx s;unfold M.AP mV;cases hw:ix s with
 |inl e=>
  rw[hw]at h;obtain⟨h0,n,v,fs,ws,h1⟩:=h;have e0:(e.2 !=0)=true:=by rw[zj];exact h0
  simp only[h1,e0,aw,al,ae,ak];rfl
 |inr p=>
  rw[hw]at h;have h:M.oV s [] [] [] []=some (0,0,aA.Name p,aA.Version p,aA.aF p,aA.Worlds p):=h;have e0:((0:Int) !=0)=false:=rfl;have ep:aA.mk (aA.Name p) (aA.Version p) (aA.aF p) (aA.Worlds p)=p:=rfl;simp only[h,e0,ep,ahS p (RL s p hw),aw,al,aj,ae,ak];cases qU p<;>rfl
end M
