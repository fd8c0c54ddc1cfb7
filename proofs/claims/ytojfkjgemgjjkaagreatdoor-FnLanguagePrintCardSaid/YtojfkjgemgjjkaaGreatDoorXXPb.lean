/-
  FUNCTIONS and items: both readers.
-/
import Derived.Test.YtojfkjgemgjjkaaGreatDoorXXPa
set_option linter.unusedVariables false
set_option linter.unusedSimpArgs false
namespace M
open Go.V (inB bS ae bf)
def qa:List UInt8:=[97,115,121,110,99]
def A5:List UInt8:=[102,117,110,99]
def nI:List UInt8:=[114,101,115,111,117,114,99,101]
def qb:List UInt8:=[116,121,112,101]
def qc:List UInt8:=[117,115,101]
def ke:aI:=aI.mk [] [] []
def mj:aa:=aa.mk 0 [] [] []
def rL(l:List af)(k:Nat):PR (List aV):=(cq l [40] k).bind fun _ k1=>
 bif aA l [41] k1 then .ok [] (k1+1)else(dL l (jG l) 5 [] k1).bind fun ps k2=>(cq l [41] k2).bind fun _ k3=>.ok ps k3
def tO(l:List af)(k:Nat):PR aa:=bif aA l [45,62] k then dO l 4 (k+1)else .ok dG k
def nJ(l:List af)(nm:List UInt8)(as:Bool)(k:Nat):PR ai:=
 (cq l A5 k).bind fun _ k1=>(rL l k1).bind fun ps k2=>(tO l k2).bind fun t k3=>.ok (ai.mk 3 nm t ps as ke []) k3
def ml(l:List af)(nm:List UInt8)(k:Nat):PR ai:=bif aA l qa k then nJ l nm true (k+1)else nJ l nm false k
def rM(l:List af)(k:Nat):PR ai:=(mS l k).bind fun p k1=>(cq l [46] k1).bind fun _ k2=>(cq l [123] k2).bind fun _ k3=>
 (dL l (kW l) 15 [] k3).bind fun us k4=>(cq l [125] k4).bind fun _ k5=>.ok (ai.mk 4 [] mj [] false p us) k5
def kf(l:List af)(nm:List UInt8)(k1:Nat):PR ai:=
 bif aA l [58] k1 then ml l nm (k1+1)
 else bif nm==nI then(kS l k1).bind fun n k2=>.ok (ai.mk 1 n mj [] false ke []) k2
 else bif nm==qb then(kS l k1).bind fun n k2=>(cq l [61] k2).bind fun _ k3=>(dO l 4 k3).bind fun t k4=>.ok (ai.mk 2 n t [] false ke []) k4
 else bif nm==qc then rM l k1
 else .no k1
def nK(l:List af)(k:Nat):PR ai:=(gi l k).bind (kf l)
theorem K3{l:List af}(hL:bW l){k:Nat}(hk:k<l.length){t:List UInt8}(hn:tw t)(b:Bool):
 ∃c k' b',k'<l.length/\M.eG t (ip l k b)=some (c,ip l k' b')/\(c=true->k'=k+1/\b'=false)/\(c=false->k'=k/\b'=b)/\∀(α:Type)(x y:PR α),RB b k (bif aA l t k then x else y)=RB b' k' (bif c then x else y):=by
 rw[js hL hk hn b];cases h:(!b&&aA l t k)
 ·exact⟨false,k,b,hk,rfl,(fun q=>by cases q),(fun _=>⟨rfl,rfl⟩),fun α x y=>by rw[nE h];rfl⟩
 ·obtain⟨h2,hb⟩:=nF hL hk h;subst hb;exact⟨true,k+1,false,h2,rfl,(fun _=>⟨rfl,rfl⟩),(fun q=>by cases q),fun α x y=>by rw[mf h];rfl⟩
theorem Ry{l:List af}(hL:bW l){k:Nat}(hk:k<l.length)(t:List UInt8)(b:Bool):
 ∃c k' b',k'<l.length/\M.dJ t (sp l k b)=some (c,sp l k' b')/\(c=true->k'=k+1/\b'=false)/\(c=false->k'=k/\b'=b)/\∀(α:Type)(x y:PR α),RB b k (bif aA l t k then x else y)=RB b' k' (bif c then x else y):=by
 rw[fC hL hk t b];cases h:(!b&&aA l t k)
 ·exact⟨false,k,b,hk,rfl,(fun q=>by cases q),(fun _=>⟨rfl,rfl⟩),fun α x y=>by rw[nE h];rfl⟩
 ·obtain⟨h2,hb⟩:=nF hL hk h;subst hb;exact⟨true,k+1,false,h2,rfl,(fun _=>⟨rfl,rfl⟩),(fun q=>by cases q),fun α x y=>by rw[mf h];rfl⟩
theorem yg{l:List af}{nm:List UInt8}{k1 k2:Nat}{b1 b2 as:Bool}(t2:as=true->k2=k1+1/\b2=false)(f2:as=false->k2=k1/\b2=b1)
 (r2:∀(α:Type)(x y:PR α),RB b1 k1 (bif aA l qa k1 then x else y)=RB b2 k2 (bif as then x else y)):RB b1 k1 (ml l nm k1)=RB b2 k2 (nJ l nm as k2):=by
 unfold ml;rw[r2];cases as
 ·rw[(f2 rfl).1];rfl
 ·rw[(t2 rfl).1];rfl
theorem yh{l:List af}{k1 k2:Nat}{b1 b2 as:Bool}(t2:as=true->k2=k1+1/\b2=false)(f2:as=false->k2=k1/\b2=b1)
 (r2:∀(α:Type)(x y:PR α),RB b1 k1 (bif aA l [45,62] k1 then x else y)=RB b2 k2 (bif as then x else y)):RB b1 k1 (tO l k1)=RB b2 k2 (bif as then dO l 4 k2 else .ok dG k2):=by
 unfold tO;rw[r2];cases as
 ·rw[(f2 rfl).1];rfl
 ·rw[(t2 rfl).1];rfl
theorem Rz{l:List af}(hL:bW l)(hT:∀t∈l,t.Text.length<=30000)(nm:List UInt8){k:Nat}(hk:k<l.length)(b:Bool):
 ∃v k' b',k'<l.length/\At (RB b k ((cq l [58] k).bind fun _ k1=>ml l nm k1)) v k' b'/\M.yi nm (ip l k b)=some (v,ip l k' b'):=by
 obtain⟨k1,b1,h1,a1,e1⟩:=kb hL hk (cT 58 (by decide)) b;obtain⟨as,k2,b2,h2,e2,t2,f2,r2⟩:=K3 hL h1 (t:=qa) (fun d r e=>by cases e;decide) b1;obtain⟨k3,b3,h3,a3,e3⟩:=kb hL h2 (t:=A5) (fun d r e=>by cases e;decide) b2;obtain⟨k4,b4,h4,a4,e4⟩:=kb hL h3 (cT 40 (by decide)) b3;have e5:=AL hL h4 (cT 41 (by decide)) b4;unfold qa at e2;unfold A5 at e3;unfold M.yi;simp only[e1,e2,e3,e4,e5,ak,an,aj];cases pZ:(!b4&&aA l [41] k4)
 ·obtain⟨ps,k5,b5,h5,a5,e6⟩:=af4 hL hT 3 nm 1 [] as [] [] [] [] [] [] h4 b4;obtain⟨k6,b6,h6,a6,e7⟩:=kb hL h5 (cT 41 (by decide)) b5;obtain⟨c,k7,b7,h7,e8,t7,f7,r7⟩:=K3 hL h6 (t:=[45,62]) (fun d r e=>by cases e;decide) b6;have sA:At (RB b3 k3 (rL l k3)) ps k6 b6:=by
   refine a4.bG ?_;rw[nE pZ];exact a5.bG (a6.bG (At.ret _ _ _))
  simp only[bo,ad,e6,e7,e8,ak,an,aj];cases c
  ·refine⟨ai.mk 3 nm dG ps as ke [],k7,b7,h7,a1.bG ?_,rfl⟩;rw[yg t2 f2 r2];refine a3.bG (sA.bG ?_);rw[vP,yh t7 f7 r7];exact At.bind (At.ret _ _ _) (At.ret _ _ _)
  ·obtain⟨v,k8,b8,h8,a8,e9⟩:=EP hL hT h7 b7;refine⟨ai.mk 3 nm v ps as ke [],k8,b8,h8,a1.bG ?_,?_⟩
   ·rw[yg t2 f2 r2];refine a3.bG (sA.bG ?_);rw[vP,yh t7 f7 r7];exact At.bind a8 (At.ret _ _ _)
   ·simp only[ad,e9,ak,an,aj,aa.bX];rfl
 ·obtain⟨h5,hb⟩:=nF hL h4 pZ;subst hb;have e7:M.di [41] (ip l k4 false)=some (ip l (k4+1) false):=by rw[fi hL h4 (cT 41 (by decide)),pZ];rfl
  obtain⟨c,k7,b7,h7,e8,t7,f7,r7⟩:=K3 hL h5 (t:=[45,62]) (fun d r e=>by cases e;decide) false;have sA:At (RB b3 k3 (rL l k3)) [] (k4+1) false:=by
   refine a4.bG ?_;rw[mf pZ];exact Or.inl ⟨rfl,rfl⟩
  simp only[b9,al,e7,e8,ak,an,aj];cases c
  ·refine⟨ai.mk 3 nm dG [] as ke [],k7,b7,h7,a1.bG ?_,rfl⟩;rw[yg t2 f2 r2];refine a3.bG (sA.bG ?_);rw[vP,yh t7 f7 r7];exact At.bind (At.ret _ _ _) (At.ret _ _ _)
  ·obtain⟨v,k8,b8,h8,a8,e9⟩:=EP hL hT h7 b7;refine⟨ai.mk 3 nm v [] as ke [],k8,b8,h8,a1.bG ?_,?_⟩
   ·rw[yg t2 f2 r2];refine a3.bG (sA.bG ?_);rw[vP,yh t7 f7 r7];exact At.bind a8 (At.ret _ _ _)
   ·simp only[ad,e9,ak,an,aj,aa.bX];rfl
theorem af9{l:List af}(hL:bW l)(hT:∀t∈l,t.Text.length<=30000){k:Nat}(hk:k<l.length)(b:Bool):
 ∃v k' b',k'<l.length/\At (RB b k (rL l k)) v k' b'/\M.A6 (sp l k b)=some (v,sp l k' b'):=by
 obtain⟨k4,b4,h4,a4,e4⟩:=kV hL hk [40] b;unfold M.A6;simp only[e4,fC hL h4 [41] b4,ak,an,aj];cases pZ:(!b4&&aA l [41] k4)
 ·simp only[al];cases b4 with
  |true=>
   refine⟨[],k4,true,h4,a4.bG (At.no _ _ _),?_⟩;obtain⟨n,hn⟩:∃n,ae=n+1:=⟨ae-1,by have:=bf;omega⟩;rw[hn,M.nH];rfl
  |false=>
   obtain⟨vs,k',b',h1,a1,e1⟩:=af7 hL hT ae 5 [] k4 (by have:=bf;omega) h4 rfl;refine⟨vs,k',b',h1,a4.bG ?_,?_⟩
   ·rw[nE pZ,show ∀r:PR (List aV),RB false k4 r=r from fun _=>rfl];rw[AZ l _ [41] (by decide)]at a1;exact a1
   ·rw[e1];rfl
 ·obtain⟨h5,hb⟩:=nF hL h4 pZ;subst hb;refine⟨[],k4+1,false,h5,a4.bG ?_,rfl⟩;rw[mf pZ];exact Or.inl ⟨rfl,rfl⟩
theorem aga{l:List af}(hL:bW l)(hT:∀t∈l,t.Text.length<=30000)(nm:List UInt8){k1:Nat}(h1:k1<l.length)(b1:Bool):
 ∃v k' b',k'<l.length/\At (RB b1 k1 (ml l nm k1)) v k' b'/\M.A7 nm (sp l k1 b1)=some (v,sp l k' b'):=by
 obtain⟨as,k2,b2,h2,e2,t2,f2,r2⟩:=Ry hL h1 qa b1;obtain⟨k3,b3,h3,a3,e3⟩:=kV hL h2 A5 b2;obtain⟨ps,k6,b6,h6,sA,e4⟩:=af9 hL hT h3 b3;obtain⟨c,k7,b7,h7,e8,t7,f7,r7⟩:=Ry hL h6 [45,62] b6;unfold qa at e2;unfold A5 at e3;unfold M.A7;simp only[e2,e3,e4,e8,ak,an,aj];cases c
 ·refine⟨ai.mk 3 nm dG ps as ke [],k7,b7,h7,?_,rfl⟩;rw[yg t2 f2 r2];refine a3.bG (sA.bG ?_);rw[vP,yh t7 f7 r7];exact At.bind (At.ret _ _ _) (At.ret _ _ _)
 ·obtain⟨v,k8,b8,h8,a8,e9⟩:=K0 hL hT h7 b7;refine⟨ai.mk 3 nm v ps as ke [],k8,b8,h8,?_,?_⟩
  ·rw[yg t2 f2 r2];refine a3.bG (sA.bG ?_);rw[vP,yh t7 f7 r7];exact At.bind a8 (At.ret _ _ _)
  ·simp only[ad,e9,ak,an,aj,aa.bX];rfl
end M
namespace M
open Go.V (inB bS ae bf)
theorem agb{l:List af}(hL:bW l)(hT:∀t∈l,t.Text.length<=30000){k:Nat}(hk:k<l.length)(b:Bool):
 ∃p us k1 b1 k2 b2 k3 b3 k4 b4 k5 b5,k5<l.length/\M.nG (ip l k b)=some (p,ip l k1 b1)/\M.di [46] (ip l k1 b1)=some (ip l k2 b2)/\M.di [123] (ip l k2 b2)=some (ip l k3 b3)/\
  M.vS 16 (ip l k3 b3) 4 [] 0 [] false (aI.bD p) (aI.Name p) (aI.Version p) [] [] [] []=some (ip l k4 b4,4,[],0,[],false,aI.bD p,aI.Name p,aI.Version p,[],[],[],us)/\
  M.di [125] (ip l k4 b4)=some (ip l k5 b5)/\At (RB b k (rM l k)) (ai.mk 4 [] mj [] false p us) k5 b5:=by
 obtain⟨p,k1,b1,h1,a1,e1⟩:=K1 hL hT hk b;obtain⟨k2,b2,h2,a2,e2⟩:=kb hL h1 (cT 46 (by decide)) b1;obtain⟨k3,b3,h3,a3,e3⟩:=kb hL h2 (cT 123 (by decide)) b2;obtain⟨us,k4,b4,h4,a4,e4⟩:=af6 hL hT 4 [] 0 [] false (aI.bD p) (aI.Name p) (aI.Version p) [] [] [] h3 b3;obtain⟨k5,b5,h5,a5,e5⟩:=kb hL h4 (cT 125 (by decide)) b4;exact⟨p,us,k1,b1,k2,b2,k3,b3,k4,b4,k5,b5,h5,e1,e2,e3,e4,e5,a1.bG (a2.bG (a3.bG (a4.bG (a5.bG (At.ret _ _ _)))))⟩
theorem agc{l:List af}(hL:bW l)(hT:∀t∈l,t.Text.length<=30000){k:Nat}(hk:k<l.length)(b:Bool):
 ∃v k' b',k'<l.length/\At (RB b k (nK l k)) v k' b'/\M.A8 (ip l k b)=some (v,ip l k' b'):=by
 obtain⟨v1,k1,b1,h1,a1,e1,-⟩:=vQ hL hT hk b;unfold M.A8;simp only[e1,iC,ak,an,aj];cases b1 with
 |true=>
  obtain⟨v,k',b',h,a,e⟩:=Rz hL hT v1 h1 true;have a':At (PR.no k1) v k' b':=a;refine⟨v,k',b',h,a1.bG (f:=kf l) a',?_⟩;simp only[ad,e,ak,an,aj,cr,ai.bX]
 |false=>
  have e2:=AL hL h1 (cT 58 (by decide)) false;simp only[al,e2,ak,an,aj,bo,bj,cr];cases kg:aA l [58] k1
  ·simp only[al];cases hR:(v1==[114,101,115,111,117,114,99,101])
   ·simp only[al];cases hY:(v1==[116,121,112,101])
    ·simp only[al];cases hU:(v1==[117,115,101])
     ·refine⟨ai.mk 0 [] mj [] false ke [],k1,true,h1,a1.bG ?_,rfl⟩;unfold kf nI qb qc;rw[kg,hR,hY,hU];exact Or.inr ⟨rfl,rfl⟩
     ·obtain⟨p,us,k2,b2,k3,b3,k4,b4,k5,b5,k6,b6,h6,f1,f2,f3,f4,f5,a6⟩:=agb hL hT h1 false;refine⟨ai.mk 4 [] mj [] false p us,k6,b6,h6,a1.bG ?_,?_⟩
      ·unfold kf nI qb qc;rw[kg,hR,hY,hU];exact a6
      ·simp only[ad,f1,f2,f3,f4,f5,ak,an,aj];rfl
    ·obtain⟨v2,k2,b2,h2,a2,f2,-⟩:=EN hL hT h1 false;obtain⟨k3,b3,h3,a3,f3⟩:=kb hL h2 (cT 61 (by decide)) b2;obtain⟨v4,k4,b4,h4,a4,f4⟩:=EP hL hT h3 b3;refine⟨ai.mk 2 v2 v4 [] false ke [],k4,b4,h4,a1.bG ?_,?_⟩
     ·unfold kf nI qb qc;rw[kg,hR,hY];exact a2.bG (a3.bG (a4.bG (At.ret _ _ _)))
     ·simp only[ad,f2,f3,f4,ak,an,aj,aa.bX];rfl
   ·obtain⟨v2,k2,b2,h2,a2,f2,-⟩:=EN hL hT h1 false;refine⟨ai.mk 1 v2 mj [] false ke [],k2,b2,h2,a1.bG ?_,?_⟩
    ·unfold kf nI;rw[kg,hR];exact a2.bG (At.ret _ _ _)
    ·simp only[ad,f2,ak,an,aj];rfl
  ·obtain⟨v,k',b',h,a,e⟩:=Rz hL hT v1 h1 false;refine⟨v,k',b',h,a1.bG ?_,?_⟩
   ·unfold kf;unfold cq at a;rw[kg]at a⊢;exact a
   ·simp only[ad,e,ak,an,aj,ai.bX]
theorem agd{l:List af}(hL:bW l)(hT:∀t∈l,t.Text.length<=30000){k:Nat}(hk:k<l.length)(b:Bool):
 ∃v k' b',k'<l.length/\At (RB b k (rM l k)) v k' b'/\M.A9 (sp l k b)=some (v,sp l k' b'):=by
 obtain⟨p,k1,b1,h1,a1,e1⟩:=K2 hL hT hk b;obtain⟨k2,b2,h2,a2,e2⟩:=kV hL h1 [46] b1;obtain⟨k3,b3,h3,a3,e3⟩:=kV hL h2 [123] b2;unfold M.A9;simp only[e1,e2,e3,ak,an,aj];cases b3 with
 |true=>
  refine⟨ai.mk 4 [] mj [] false p [],k3,true,h3,a1.bG (a2.bG (a3.bG (At.no _ _ _))),?_⟩;obtain⟨n,hn⟩:∃n,ae=n+1:=⟨ae-1,by have:=bf;omega⟩;rw[hn,M.mi];rfl
 |false=>
  obtain⟨us,k',b',h4,a4,e4⟩:=af8 hL hT (aI.bD p) (aI.Name p) (aI.Version p) ae 15 [] k3 (by have:=bf;omega) h3 rfl;rw[AZ l _ [125] (by decide)]at a4;refine⟨ai.mk 4 [] mj [] false p us,k',b',h4,a1.bG (a2.bG (a3.bG ?_)),?_⟩
  ·rw[show ∀r:PR ai,RB false k3 r=r from fun _=>rfl];generalize hr:dL l (kW l) 15 [] k3=r at a4⊢;cases r with
   |no q=>
    rcases a4 with⟨q1,q2⟩|⟨q1,q2⟩
    ·cases q1
    ·cases q1;exact Or.inr ⟨rfl,q2⟩
   |ok us' q=>
    simp only[PR.bind]at a4⊢;cases hn:cq l [125] q with
    |no q'=>
     rw[hn]at a4;rcases a4 with⟨q1,q2⟩|⟨q1,q2⟩
     ·cases q1
     ·cases q1;exact Or.inr ⟨rfl,q2⟩
    |ok u q'=>
     rw[hn]at a4;rcases a4 with⟨q1,q2⟩|⟨q1,q2⟩
     ·cases q1;exact Or.inl ⟨rfl,q2⟩
     ·cases q1
  ·rw[e4];rfl
def jH(l:List af)(k:Nat):PR ai:=(nK l k).bind fun x k1=>(cq l [59] k1).bind fun _ k2=>.ok x k2
theorem RD{l:List af}(hL:bW l)(hT:∀t∈l,t.Text.length<=30000){k:Nat}(hk:k<l.length)(b:Bool):
 ∃v k' b',k'<l.length/\At (RB b k (jH l k)) v k' b'/\M.Ba (sp l k b)=some (v,sp l k' b'):=by
 obtain⟨v1,k1,b1,h1,a1,e1,z1⟩:=vR hL hT hk b;unfold M.Ba;simp only[e1,fC hL h1 [58] b1,ak,an,aj];cases b1 with
 |true=>
  rw[z1 rfl];refine⟨ai.mk 0 [] mj [] false ke [],k1,true,h1,At.bG (r:=nK l k) (v:=ai.mk 0 [] mj [] false ke []) (a1.bG (At.no _ _ _)) (At.no _ _ _),?_⟩;have f0:(([]:List UInt8)==[114,101,115,111,117,114,99,101])=false:=rfl;have f1:(([]:List UInt8)==[116,121,112,101])=false:=rfl;have f2:(([]:List UInt8)==[117,115,101])=false:=rfl;simp only[b9,cJ,al,f0,f1,f2,jE,jF,kU,gY hL h1 [59] true,an,aj,ad];rfl
 |false=>
  simp only[bo,bj];cases kg:aA l [58] k1
  ·simp only[al];cases hR:(v1==[114,101,115,111,117,114,99,101])
   ·simp only[al];cases hY:(v1==[116,121,112,101])
    ·simp only[al];cases hU:(v1==[117,115,101])
     ·refine⟨ai.mk 0 [] mj [] false ke [],k1,true,h1,At.bG (r:=nK l k) (v:=ai.mk 0 [] mj [] false ke []) (k1:=k1) (b1:=true) (a1.bG ?_) (At.no _ _ _),?_⟩
      ·unfold kf nI qb qc;rw[kg,hR,hY,hU];exact Or.inr ⟨rfl,rfl⟩
      ·simp only[al,jE,jF,kU,gY hL h1 [59] true,an,aj,ad];rfl
     ·obtain⟨v2,k2,b2,h2,a2,f2⟩:=agd hL hT h1 false;obtain⟨k3,b3,h3,a3,f3⟩:=kV hL h2 [59] b2;refine⟨v2,k3,b3,h3,At.bG (r:=nK l k) (a1.bG ?_) (a3.bG (At.ret _ _ _)),?_⟩
      ·unfold kf nI qb qc;rw[kg,hR,hY,hU];exact a2
      ·simp only[ad,f2,f3,ak,an,aj,ai.bX]
    ·obtain⟨v2,k2,b2,h2,a2,f2,-⟩:=EO hL hT h1 false;obtain⟨k3,b3,h3,a3,f3⟩:=kV hL h2 [61] b2;obtain⟨v4,k4,b4,h4,a4,f4⟩:=K0 hL hT h3 b3;obtain⟨k5,b5,h5,a5,f5⟩:=kV hL h4 [59] b4;refine⟨ai.mk 2 v2 v4 [] false ke [],k5,b5,h5,At.bG (r:=nK l k) (a1.bG ?_) (a5.bG (At.ret _ _ _)),?_⟩
     ·unfold kf nI qb qc;rw[kg,hR,hY];exact a2.bG (a3.bG (a4.bG (At.ret _ _ _)))
     ·simp only[ad,f2,f3,f4,f5,ak,an,aj,aa.bX];rfl
   ·obtain⟨v2,k2,b2,h2,a2,f2,-⟩:=EO hL hT h1 false;obtain⟨k3,b3,h3,a3,f3⟩:=kV hL h2 [59] b2;refine⟨ai.mk 1 v2 mj [] false ke [],k3,b3,h3,At.bG (r:=nK l k) (a1.bG ?_) (a3.bG (At.ret _ _ _)),?_⟩
    ·unfold kf nI;rw[kg,hR];exact a2.bG (At.ret _ _ _)
    ·simp only[ad,f2,f3,ak,an,aj];rfl
  ·obtain⟨v2,k2,b2,h2,a2,f2⟩:=aga hL hT v1 (cU hL h1 kg) false;obtain⟨k3,b3,h3,a3,f3⟩:=kV hL h2 [59] b2;refine⟨v2,k3,b3,h3,At.bG (r:=nK l k) (a1.bG ?_) (a3.bG (At.ret _ _ _)),?_⟩
   ·unfold kf;rw[kg];exact a2
   ·simp only[ad,f2,f3,ak,an,aj,ai.bX]
end M
namespace M
open Go.V (inB bS ae bf)
def fM{α:Type}(l:List af)(el:Nat->PR α):Nat->List α->Nat->PR (List α)
 |0,acc,k=>(cq l [125] k).bind fun _ k1=>.ok acc k1
 |m+1,acc,k=>bif aA l [125] k then .ok acc (k+1)else(el k).bind fun x k1=>fM l el m (acc++[x]) k1
def kX(l:List af)(k:Nat):PR aG:=(gi l k).bind fun n k1=>(cq l [123] k1).bind fun _ k2=>(fM l (jH l) 16 [] k2).bind fun xs k3=>.ok (aG.mk n xs) k3
theorem age{l:List af}(hL:bW l)(hT:∀t∈l,t.Text.length<=30000)(t2 x:List UInt8)(o5:List ai):∀(f m:Nat)(acc:List ai)(k:Nat)(b:Bool),m+1<f->k<l.length->acc.length+m=16->
 ∃vs k' b' k2 b2,k2<l.length/\M.yj t2 x o5 f (ip l k b) acc=some (ip l k' b',t2,x,o5,vs)/\M.di [125] (ip l k' b')=some (ip l k2 b2)/\At (RB b k (fM l (jH l) m acc k)) vs k2 b2:=by
 intro f
 induction f with
 |zero=>intro m acc k b h;omega
 |succ f ih=>
  intro m acc k b hf hk hacc;rw[M.yj];cases b with
  |true=>
   refine⟨acc,k,true,k,true,hk,?_,?_,At.no _ _ _⟩
   ·simp only[iC,b9,Bool.and_false,al,aj,cr,ad]
   ·rw[fi hL hk (cT 125 (by decide)) true];rfl
  |false=>
   cases m with
   |zero=>
    obtain⟨k2,b2,h2,a2,e2⟩:=kb hL hk (cT 125 (by decide)) false;refine⟨acc,k,false,k2,b2,h2,?_,e2,?_⟩
    ·rw[cY (show ¬((acc.length:Nat):Int)<16 by omega)];simp only[iC,bo,cJ,al,aj,cr,ad]
    ·rw[fM];exact a2.bG (At.ret _ _ _)
   |succ m=>
    rw[cN (show((acc.length:Nat):Int)<16 by omega),fM];simp only[iC,bo,bj,ad,AL hL hk (cT 125 (by decide)) false,ak,an,aj,cr];cases h:aA l [125] k
    ·obtain⟨v1,k1,b1,h1,a1,e1⟩:=agc hL hT hk false;obtain⟨k2,b2,h2,a2,e2⟩:=kb hL h1 (cT 59 (by decide)) b1;obtain⟨vs,k3,b3,k4,b4,h4,e3,e4,a4⟩:=ih m (acc++[v1]) k2 b2 (by omega) h2 (by rw[aE,List.length_singleton];omega);refine⟨vs,k3,b3,k4,b4,h4,?_,e4,?_⟩
     ·simp only[bo,ad,e1,e2,ak,an,dH (show acc.length<=1000 by omega),aj,ai.bX,e3]
     ·simp only[al];refine At.bG (r:=jH l k) (v:=v1) (k1:=k2) (b1:=b2) ?_ a4;unfold jH;exact a1.bG (a2.bG (At.ret _ _ _))
    ·refine⟨acc,k,false,k+1,false,cU hL hk h,?_,?_,?_⟩
     ·simp only[b9,al,ad]
     ·rw[fi hL hk (cT 125 (by decide)) false,h];rfl
     ·exact Or.inl ⟨rfl,rfl⟩
theorem agf{l:List af}(hL:bW l)(hT:∀t∈l,t.Text.length<=30000){k:Nat}(hk:k<l.length)(b:Bool):
 ∃v k' b',k'<l.length/\At (RB b k (kX l k)) v k' b'/\M.yk (ip l k b)=some (v,ip l k' b'):=by
 obtain⟨v1,k1,b1,h1,a1,e1,-⟩:=vQ hL hT hk b;obtain⟨k2,b2,h2,a2,e2⟩:=kb hL h1 (cT 123 (by decide)) b1;obtain⟨vs,k3,b3,k4,b4,h4,e3,e4,a4⟩:=age hL hT [] v1 [] ae 16 [] k2 b2 (by have:=bf;omega) h2 rfl;refine⟨aG.mk v1 vs,k4,b4,h4,a1.bG (a2.bG (a4.bG (At.ret _ _ _))),?_⟩;unfold M.yk;simp only[e1,e2,e3,e4,ak,an,aj,ad]
theorem agh{l:List af}(hL:bW l)(hT:∀t∈l,t.Text.length<=30000)(t2 x:List UInt8)(o5:List ai):∀(f m:Nat)(acc:List ai)(k:Nat)(b:Bool),m+1<f->k<l.length->acc.length+m=16->
 ∃vs k' b',k'<l.length/\At (RB b k (fM l (jH l) m acc k)) vs k' b'/\M.tP t2 x o5 f (sp l k b) acc=some (l,(k':Int),b',t2,x,o5,vs):=by
 intro f
 induction f with
 |zero=>intro m acc k b h;omega
 |succ f ih=>
  intro m acc k b hf hk hacc;obtain⟨f',rfl⟩:∃f',f=f'+1:=⟨f-1,by omega⟩;have hend:∀(f:Nat)(k:Nat)(xs:List ai),M.tP t2 x o5 (f+1) (sp l k true) xs=some (l,(k:Int),true,t2,x,o5,xs):=fun f k xs=>by
   rw[M.tP];rfl
  cases b with
  |true=>exact⟨acc,k,true,hk,At.no _ _ _,hend _ k acc⟩
  |false=>
   rw[M.tP];simp only[iN,bo,ad,fC hL hk [125] false,bj,ak,an,aj,cr];cases h:aA l [125] k
   ·simp only[al,bo,ad,jE,jF,kU];cases m with
    |zero=>
     rw[cN (show(16:Int)<=((acc.length:Nat):Int) by omega)];obtain⟨v1,k1,b1,h1,a1,e1⟩:=RD hL hT hk true;have q:b1=true/\k1=k:=by
      rcases a1 with⟨q1,q2⟩|⟨q1,q2⟩
      ·cases q1
      ·cases q1;exact⟨q2,rfl⟩
     rw[q.1,q.2]at e1;refine⟨acc++[v1],k,true,hk,?_,?_⟩
     ·rw[fM];unfold cq;rw[h];exact Or.inr ⟨rfl,rfl⟩
     ·simp only[e1,ak,an,dH (show acc.length<=1000 by omega),aj,ad,ai.bX];exact hend _ k _
    |succ m=>
     rw[cY (show ¬(16:Int)<=((acc.length:Nat):Int) by omega)];obtain⟨v1,k1,b1,h1,a1,e1⟩:=RD hL hT hk false;obtain⟨vs,k3,b3,h3,a3,e3⟩:=ih m (acc++[v1]) k1 b1 (by omega) h1 (by rw[aE,List.length_singleton];omega);refine⟨vs,k3,b3,h3,?_,?_⟩
     ·rw[fM,h];exact At.bG (r:=jH l k) a1 a3
     ·simp only[e1,ak,an,dH (show acc.length<=1000 by omega),aj,ad,ai.bX,e3]
   ·refine⟨acc,k+1,false,cU hL hk h,?_,rfl⟩;cases m with
    |zero=>
     rw[fM];unfold cq;rw[h];exact Or.inl ⟨rfl,rfl⟩
    |succ m=>
     rw[fM,h];exact Or.inl ⟨rfl,rfl⟩
theorem agi{l:List af}(hL:bW l)(hT:∀t∈l,t.Text.length<=30000){k:Nat}(hk:k<l.length)(b:Bool):
 ∃v k' b',k'<l.length/\At (RB b k (kX l k)) v k' b'/\M.yl (sp l k b)=some (v,sp l k' b'):=by
 obtain⟨v1,k1,b1,h1,a1,e1,-⟩:=vR hL hT hk b;obtain⟨k2,b2,h2,a2,e2⟩:=kV hL h1 [123] b1;obtain⟨vs,k3,b3,h3,a3,e3⟩:=agh hL hT [] v1 [] ae 16 [] k2 b2 (by have:=bf;omega) h2 rfl;refine⟨aG.mk v1 vs,k3,b3,h3,a1.bG (a2.bG (a3.bG (At.ret _ _ _))),?_⟩;unfold M.yl;simp only[e1,e2,e3,ak,an,aj,ad];rfl
end M
namespace M
open Go.V (inB bS ae bf)
def nL:List UInt8:=[105,109,112,111,114,116]
def nM:List UInt8:=[101,120,112,111,114,116]
def nN:List UInt8:=[105,110,99,108,117,100,101]
def oY(l:List af)(kind:Int)(k:Nat):PR aO:=(mS l k).bind fun p k1=>(cq l [59] k1).bind fun _ k2=>.ok (aO.mk kind p) k2
def jd(l:List af)(k:Nat):PR aO:=
 bif aA l nL k then oY l 1 (k+1)else bif aA l nM k then oY l 2 (k+1)else bif aA l nN k then oY l 3 (k+1)else .no k
def nO(l:List af)(k:Nat):PR aQ:=(gi l k).bind fun n k1=>(cq l [123] k1).bind fun _ k2=>(fM l (jd l) 16 [] k2).bind fun xs k3=>.ok (aQ.mk n xs) k3
theorem agj{l:List af}(hL:bW l)(hT:∀t∈l,t.Text.length<=30000)(t2 x:List UInt8)(o5:List aO):∀(f m:Nat)(acc:List aO)(k:Nat)(b:Bool),m+1<f->k<l.length->acc.length+m=16->
 ∃vs k' b' k2 b2,k2<l.length/\M.rN t2 x o5 f (ip l k b) acc=some (ip l k' b',t2,x,o5,vs)/\M.di [125] (ip l k' b')=some (ip l k2 b2)/\At (RB b k (fM l (jd l) m acc k)) vs k2 b2:=by
 intro f
 induction f with
 |zero=>intro m acc k b h;omega
 |succ f ih=>
  intro m acc k b hf hk hacc;rw[M.rN];cases b with
  |true=>
   refine⟨acc,k,true,k,true,hk,?_,?_,At.no _ _ _⟩
   ·simp only[iC,b9,Bool.and_false,al,aj,cr,ad]
   ·rw[fi hL hk (cT 125 (by decide)) true];rfl
  |false=>
   cases m with
   |zero=>
    obtain⟨k2,b2,h2,a2,e2⟩:=kb hL hk (cT 125 (by decide)) false;refine⟨acc,k,false,k2,b2,h2,?_,e2,?_⟩
    ·rw[cY (show ¬((acc.length:Nat):Int)<16 by omega)];simp only[iC,bo,cJ,al,aj,cr,ad]
    ·rw[fM];exact a2.bG (At.ret _ _ _)
   |succ m=>
    rw[cN (show((acc.length:Nat):Int)<16 by omega),fM];simp only[iC,bo,bj,ad,AL hL hk (cT 125 (by decide)) false,ak,an,aj,cr];have key:∀(kind:Int)(kk:Nat),kk<l.length->∃v1 k1 b1 k2 b2,k2<l.length/\M.nG (ip l kk false)=some (v1,ip l k1 b1)/\M.di [59] (ip l k1 b1)=some (ip l k2 b2)/\At (oY l kind kk) (aO.mk kind v1) k2 b2:=by
     intro kind kk hkk;obtain⟨v1,k1,b1,h1,a1,e1⟩:=K1 hL hT hkk false;obtain⟨k2,b2,h2,a2,e2⟩:=kb hL h1 (cT 59 (by decide)) b1;exact⟨v1,k1,b1,k2,b2,h2,e1,e2,At.bind (r:=mS l kk) a1 (a2.bG (At.ret _ _ _))⟩
    have tI:=js hL hk (text:=[105,109,112,111,114,116]) (fun d r e=>by cases e;decide) false;have tE:=js hL hk (text:=[101,120,112,111,114,116]) (fun d r e=>by cases e;decide) false;have tC:=js hL hk (text:=[105,110,99,108,117,100,101]) (fun d r e=>by cases e;decide) false;rw[bo,bj]at tI tE tC;cases h:aA l [125] k
    ·simp only[bo,ad,al];cases hI:aA l [105,109,112,111,114,116] k
     ·rw[hI]at tI;cases hE:aA l [101,120,112,111,114,116] k
      ·rw[hE]at tE;cases hC:aA l [105,110,99,108,117,100,101] k
       ·rw[hC]at tC;obtain⟨v1,k1,b1,h1,a1,e1⟩:=K1 hL hT hk true;have q:b1=true/\k1=k:=by
         rcases a1 with⟨q1,q2⟩|⟨q1,q2⟩
         ·cases q1
         ·cases q1;exact⟨q2,rfl⟩
        rw[q.1,q.2]at e1;have e2:M.di [59] (ip l k true)=some (ip l k true):=by rw[fi hL hk (cT 59 (by decide))];rfl
        obtain⟨vs,k3,b3,k4,b4,h4,e3,e4,a4⟩:=ih m (acc++[aO.mk 0 v1]) k true (by omega) hk (by rw[aE,List.length_singleton];omega);refine⟨vs,k3,b3,k4,b4,h4,?_,e4,?_⟩
        ·simp only[tI,tE,tC,al,ad,ak,an,lH,kr,mg,e1,e2,dH (show acc.length<=1000 by omega),aj,e3]
        ·unfold jd nL nM nN;rw[hI,hE,hC];exact a4
       ·rw[hC]at tC;obtain⟨v1,k1,b1,k2,b2,h2,e1,e2,a2⟩:=key 3 (k+1) (cU hL hk hC);obtain⟨vs,k3,b3,k4,b4,h4,e3,e4,a4⟩:=ih m (acc++[aO.mk 3 v1]) k2 b2 (by omega) h2 (by rw[aE,List.length_singleton];omega);refine⟨vs,k3,b3,k4,b4,h4,?_,e4,?_⟩
        ·simp only[tI,tE,tC,al,ad,ak,an,e1,e2,dH (show acc.length<=1000 by omega),aj,e3]
        ·unfold jd nL nM nN;rw[hI,hE,hC];exact At.bind a2 a4
      ·rw[hE]at tE;obtain⟨v1,k1,b1,k2,b2,h2,e1,e2,a2⟩:=key 2 (k+1) (cU hL hk hE);obtain⟨vs,k3,b3,k4,b4,h4,e3,e4,a4⟩:=ih m (acc++[aO.mk 2 v1]) k2 b2 (by omega) h2 (by rw[aE,List.length_singleton];omega);refine⟨vs,k3,b3,k4,b4,h4,?_,e4,?_⟩
       ·simp only[tI,tE,al,ad,ak,an,e1,e2,dH (show acc.length<=1000 by omega),aj,e3]
       ·unfold jd nL nM nN;rw[hI,hE];exact At.bind a2 a4
     ·rw[hI]at tI;obtain⟨v1,k1,b1,k2,b2,h2,e1,e2,a2⟩:=key 1 (k+1) (cU hL hk hI);obtain⟨vs,k3,b3,k4,b4,h4,e3,e4,a4⟩:=ih m (acc++[aO.mk 1 v1]) k2 b2 (by omega) h2 (by rw[aE,List.length_singleton];omega);refine⟨vs,k3,b3,k4,b4,h4,?_,e4,?_⟩
      ·simp only[tI,al,ad,ak,an,e1,e2,dH (show acc.length<=1000 by omega),aj,e3]
      ·unfold jd nL nM nN;rw[hI];exact At.bind a2 a4
    ·refine⟨acc,k,false,k+1,false,cU hL hk h,?_,?_,?_⟩
     ·simp only[b9,al,ad]
     ·rw[fi hL hk (cT 125 (by decide)) false,h];rfl
     ·exact Or.inl ⟨rfl,rfl⟩
theorem agk{l:List af}(hL:bW l)(hT:∀t∈l,t.Text.length<=30000){k:Nat}(hk:k<l.length)(b:Bool):
 ∃v k' b',k'<l.length/\At (RB b k (nO l k)) v k' b'/\M.vT (ip l k b)=some (v,ip l k' b'):=by
 obtain⟨v1,k1,b1,h1,a1,e1,-⟩:=vQ hL hT hk b;obtain⟨k2,b2,h2,a2,e2⟩:=kb hL h1 (cT 123 (by decide)) b1;obtain⟨vs,k3,b3,k4,b4,h4,e3,e4,a4⟩:=agj hL hT [] v1 [] ae 16 [] k2 b2 (by have:=bf;omega) h2 rfl;refine⟨aQ.mk v1 vs,k4,b4,h4,a1.bG (a2.bG (a4.bG (At.ret _ _ _))),?_⟩;unfold M.vT;simp only[e1,e2,e3,e4,ak,an,aj,ad]
end M
namespace M
open Go.V (inB bS ae bf)
theorem K4{l:List af}(hL:bW l)(t2 w:List UInt8)(o6 o7:List aO)(P:aI){k:Nat}(hk:k<l.length)(b:Bool)(n:Nat)(i j:Int)(t:List UInt8)
 (h1:List.getD (Option.getD M.kh Inhabited.default) (Int.toNat i) []=t) (h2:inB i (List.length (Option.getD M.kh Inhabited.default))=true) (h3:decide (i<(3:Int))=true) (h4:Go.IntKind.wrap Go.IntKind.i64 (i+1)=j):
 M.kY t2 w o6 o7 (n+1) i (sp l k b) (aO.mk 0 P)=bif !b&&aA l t k then M.kY t2 w o6 o7 n j (sp l (k+1) b) (aO.mk j P)else M.kY t2 w o6 o7 n j (sp l k b) (aO.mk 0 P):=by
 have hs:Option.isSome M.kh=true:=rfl;rw[M.kY];simp only[h1,h2,h3,h4,hs,fC hL hk t b,ak,an,aj,ad,cr];cases (!b&&aA l t k)
 ·simp only[al]
 ·simp only[ad]
theorem K5(t2 w:List UInt8)(o6 o7:List aO)(P:aI)(p:ay)(n:Nat)(i j kd:Int)(h0:(kd==(0:Int))=false)(h3:decide (i<(3:Int))=true)(h4:Go.IntKind.wrap Go.IntKind.i64 (i+1)=j):
 M.kY t2 w o6 o7 (n+1) i p (aO.mk kd P)=M.kY t2 w o6 o7 n j p (aO.mk kd P):=by
 rw[M.kY];simp only[h3,h4,h0,ad,al,cr,aj]
theorem ER(t2 w:List UInt8)(o6 o7:List aO)(p:ay)(x:aO)(n:Nat):M.kY t2 w o6 o7 (n+1) 3 p x=some (p,t2,w,x,o6,o7):=by
 rw[M.kY];rfl
theorem RE{l:List af}(hL:bW l)(t2 w:List UInt8)(o6 o7:List aO)(P:aI){k:Nat}(hk:k<l.length)(b:Bool):
 M.kY t2 w o6 o7 ae 0 (sp l k b) (aO.mk 0 P)=
   bif !b&&aA l nL k then some (sp l (k+1) b,t2,w,aO.mk 1 P,o6,o7)
   else bif !b&&aA l nM k then some (sp l (k+1) b,t2,w,aO.mk 2 P,o6,o7)
   else bif !b&&aA l nN k then some (sp l (k+1) b,t2,w,aO.mk 3 P,o6,o7)
   else some (sp l k b,t2,w,aO.mk 0 P,o6,o7):=by
 obtain⟨n,hn⟩:∃n,ae=n+1+1+1+1:=⟨ae-4,by have:=bf;omega⟩;rw[hn,K4 hL t2 w o6 o7 P hk b _ 0 1 nL rfl rfl rfl (by decide)];cases (!b&&aA l nL k)
 ·simp only[al];rw[K4 hL t2 w o6 o7 P hk b _ 1 2 nM rfl rfl rfl (by decide)];cases (!b&&aA l nM k)
  ·simp only[al];rw[K4 hL t2 w o6 o7 P hk b _ 2 3 nN rfl rfl rfl (by decide)];cases (!b&&aA l nN k)
   ·simp only[al];exact ER _ _ _ _ _ _ _
   ·simp only[ad];exact ER _ _ _ _ _ _ _
  ·simp only[ad];rw[K5 _ _ _ _ _ _ _ 2 3 2 rfl rfl (by decide)];exact ER _ _ _ _ _ _ _
 ·simp only[ad];rw[K5 _ _ _ _ _ _ _ 1 2 1 rfl rfl (by decide),K5 _ _ _ _ _ _ _ 2 3 1 rfl rfl (by decide)];exact ER _ _ _ _ _ _ _
theorem agl{l:List af}(hL:bW l)(hT:∀t∈l,t.Text.length<=30000)(t2 x:List UInt8)(o5:List aO):∀(f m:Nat)(acc:List aO)(k:Nat)(b:Bool),m+1<f->k<l.length->acc.length+m=16->
 ∃vs k' b',k'<l.length/\At (RB b k (fM l (jd l) m acc k)) vs k' b'/\M.rO f (sp l k b) t2 x o5 acc=some (l,(k':Int),b',t2,x,o5,vs):=by
 intro f
 induction f with
 |zero=>intro m acc k b h;omega
 |succ f ih=>
  intro m acc k b hf hk hacc;obtain⟨f',rfl⟩:∃f',f=f'+1:=⟨f-1,by omega⟩;have hend:∀(f:Nat)(k:Nat)(xs:List aO),M.rO (f+1) (sp l k true) t2 x o5 xs=some (l,(k:Int),true,t2,x,o5,xs):=fun f k xs=>by
   rw[M.rO];rfl
  cases b with
  |true=>exact⟨acc,k,true,hk,At.no _ _ _,hend _ k acc⟩
  |false=>
   have hbad:∃v,M.mh (sp l k true)=some (v,sp l k true):=by
    obtain⟨v1,k1,b1,h1,a1,e1⟩:=K2 hL hT hk true;have q:b1=true/\k1=k:=by
     rcases a1 with⟨q1,q2⟩|⟨q1,q2⟩
     ·cases q1
     ·cases q1;exact⟨q2,rfl⟩
    rw[q.1,q.2]at e1;exact⟨v1,e1⟩
   obtain⟨vb,eb⟩:=hbad;have mb:M.dE [59] (sp l k true)=some (sp l k true):=by rw[gY hL hk];rfl
   have key:∀(kind:Int)(kk:Nat),kk<l.length->∃v1 k1 b1 k2 b2,k2<l.length/\M.mh (sp l kk false)=some (v1,sp l k1 b1)/\M.dE [59] (sp l k1 b1)=some (sp l k2 b2)/\At (oY l kind kk) (aO.mk kind v1) k2 b2:=by
    intro kind kk hkk;obtain⟨v1,k1,b1,h1,a1,e1⟩:=K2 hL hT hkk false;obtain⟨k2,b2,h2,a2,e2⟩:=kV hL h1 [59] b1;exact⟨v1,k1,b1,k2,b2,h2,e1,e2,At.bind (r:=mS l kk) a1 (a2.bG (At.ret _ _ _))⟩
   rw[M.rO];simp only[iN,bo,ad,fC hL hk [125] false,bj,ak,an,aj,cr];cases h:aA l [125] k
   ·simp only[al,bo,ad,jE,jF,kU];cases m with
    |zero=>
     rw[cN (show(16:Int)<=((acc.length:Nat):Int) by omega),RE hL _ _ _ _ _ hk true];refine⟨acc++[aO.mk 0 vb],k,true,hk,?_,?_⟩
     ·rw[fM];unfold cq;rw[h];exact Or.inr ⟨rfl,rfl⟩
     ·simp only[b9,cJ,al,jE,jF,iN,kU,bu,eb,mb,ak,an,dH (show acc.length<=1000 by omega),aj,ad];exact hend _ k _
    |succ m=>
     rw[cY (show ¬(16:Int)<=((acc.length:Nat):Int) by omega),RE hL _ _ _ _ _ hk false];rw[fM,h];simp only[bo,bj];have go:∀kind:Int,(kind==(0:Int))=false->aA l (bif kind==1 then nL else bif kind==2 then nM else nN) k=true->(RB false k (bif false then PR.ok acc (k+1)else(jd l k).bind fun x k1=>fM l (jd l) m (acc++[x]) k1))=(oY l kind (k+1)).bind (fun x k1=>fM l (jd l) m (acc++[x]) k1)->
      ∃vs k' b',k'<l.length/\At (RB false k (bif false then PR.ok acc (k+1)else(jd l k).bind fun x k1=>fM l (jd l) m (acc++[x]) k1)) vs k' b'/\
       (match(some (sp l (k+1) false,t2,x,aO.mk kind (aI.mk [] [] []),o5,acc):Option (ay×List UInt8×List UInt8×aO×List aO×List aO))with
         |none=>none
         |some y3=>bif(decide (((List.length y3.2.2.2.2.2)+(List.length [(M.aO.mk (M.aO.Kind y3.2.2.2.1) (Option.getD (M.mh (M.ay.mk (M.ay.list y3.1) (M.ay.at_ y3.1) ((M.ay.bad y3.1)||((M.aO.Kind y3.2.2.2.1)==(0:Int))))) Inhabited.default).1)]))<=1073741824))&&((Option.isSome (M.dE [(59:UInt8)] (Option.getD (M.mh (M.ay.mk (M.ay.list y3.1) (M.ay.at_ y3.1) ((M.ay.bad y3.1)||((M.aO.Kind y3.2.2.2.1)==(0:Int))))) Inhabited.default).2))&&((Option.isSome (M.mh (M.ay.mk (M.ay.list y3.1) (M.ay.at_ y3.1) ((M.ay.bad y3.1)||((M.aO.Kind y3.2.2.2.1)==(0:Int))))))&&true))then
           M.rO (f'+1) (Option.getD (M.dE [(59:UInt8)] (Option.getD (M.mh (M.ay.mk (M.ay.list y3.1) (M.ay.at_ y3.1) ((M.ay.bad y3.1)||((M.aO.Kind y3.2.2.2.1)==(0:Int))))) Inhabited.default).2) Inhabited.default) y3.2.1 y3.2.2.1 y3.2.2.2.2.1 (y3.2.2.2.2.2++[(M.aO.mk (M.aO.Kind y3.2.2.2.1) (Option.getD (M.mh (M.ay.mk (M.ay.list y3.1) (M.ay.at_ y3.1) ((M.ay.bad y3.1)||((M.aO.Kind y3.2.2.2.1)==(0:Int))))) Inhabited.default).1)])
          else none)=some (l,(k':Int),b',t2,x,o5,vs):=by
      intro kind h0 hB hR;obtain⟨v1,k1,b1,k2,b2,h2,e1,e2,a2⟩:=key kind (k+1) (cU hL hk hB);obtain⟨vs,k3,b3,h3,a3,e3⟩:=ih m (acc++[aO.mk kind v1]) k2 b2 (by omega) h2 (by rw[aE,List.length_singleton];omega);refine⟨vs,k3,b3,h3,?_,?_⟩
      ·rw[hR];exact At.bind a2 a3
      ·simp only[h0,jE,jF,iN,pD,kU,e1,e2,ak,an,dH (show acc.length<=1000 by omega),aj,ad,e3]
     cases hI:aA l nL k
     ·cases hE:aA l nM k
      ·cases hC:aA l nN k
       ·refine⟨acc++[aO.mk 0 vb],k,true,hk,?_,?_⟩
        ·unfold jd;rw[hI,hE,hC];exact Or.inr ⟨rfl,rfl⟩
        ·simp only[al,jE,jF,iN,kU,cr,ek,eb,mb,ak,an,dH (show acc.length<=1000 by omega),aj,ad];exact hend _ k _
       ·have:=go 3 rfl hC (by unfold jd;rw[hI,hE,hC];rfl);exact this
      ·have:=go 2 rfl hE (by unfold jd;rw[hI,hE];rfl);exact this
     ·have:=go 1 rfl hI (by unfold jd;rw[hI];rfl);exact this
   ·refine⟨acc,k+1,false,cU hL hk h,?_,rfl⟩;cases m with
    |zero=>
     rw[fM];unfold cq;rw[h];exact Or.inl ⟨rfl,rfl⟩
    |succ m=>
     rw[fM,h];exact Or.inl ⟨rfl,rfl⟩
theorem agm{l:List af}(hL:bW l)(hT:∀t∈l,t.Text.length<=30000){k:Nat}(hk:k<l.length)(b:Bool):
 ∃v k' b',k'<l.length/\At (RB b k (nO l k)) v k' b'/\M.vU (sp l k b)=some (v,sp l k' b'):=by
 obtain⟨v1,k1,b1,h1,a1,e1,-⟩:=vR hL hT hk b;obtain⟨k2,b2,h2,a2,e2⟩:=kV hL h1 [123] b1;obtain⟨vs,k3,b3,h3,a3,e3⟩:=agl hL hT [] v1 [] ae 16 [] k2 b2 (by have:=bf;omega) h2 rfl;refine⟨aQ.mk v1 vs,k3,b3,h3,a1.bG (a2.bG (a3.bG (At.ret _ _ _))),?_⟩;unfold M.vU;simp only[e1,e2,e3,ak,an,aj,ad];rfl
end M
namespace M
open Go.V (inB bS ae bf)
def lI:List UInt8:=[105,110,116,101,114,102,97,99,101]
def mT:List UInt8:=[119,111,114,108,100]
def Bc:List UInt8:=[112,97,99,107,97,103,101]
def dZ(l:List af):Nat->List aG->List aQ->Nat->PR (List aG×List aQ)
 |0,fs,ws,k=>bif(bp l k).Kind==4 then .ok (fs,ws) k else .no k
 |m+1,fs,ws,k=>bif(bp l k).Kind==4 then .ok (fs,ws) k
  else bif decide (((fs.length:Nat):Int)<8)&&aA l lI k then(kX l (k+1)).bind fun f k1=>dZ l m (fs++[f]) ws k1
  else bif decide (((ws.length:Nat):Int)<8)&&aA l mT k then(nO l (k+1)).bind fun w k1=>dZ l m fs (ws++[w]) k1
  else .no k
def gk(l:List af)(k:Nat):PR aw:=(cq l Bc k).bind fun _ k1=>(gi l k1).bind fun n k2=>(cq l [64] k2).bind fun _ k3=>(tH l k3).bind fun v k4=>(cq l [59] k4).bind fun _ k5=>
 (dZ l 16 [] [] k5).bind fun q k6=>.ok (aw.mk n v q.1 q.2) k6
theorem oZ(l:List af)(k:Nat):List.getD l (Int.toNat ((k:Nat):Int)) af.zero=bp l k:=by rw[bN];rfl
theorem agn{l:List af}(hL:bW l)(hT:∀t∈l,t.Text.length<=30000)(t2 t22 x x2:List UInt8)(o7:List aG)(o8:List aQ):∀(f m:Nat)(fs:List aG)(ws:List aQ)(k:Nat)(b:Bool),m+1<f->k<l.length->fs.length+ws.length+m=16->fs.length<=8->ws.length<=8->
 ∃v k' b',k'<l.length/\At (RB b k (dZ l m fs ws k)) v k' b'/\M.kt t2 t22 x x2 o7 o8 f (ip l k b) fs ws=some (l,(k':Int),b',t2,t22,x,x2,o7,o8,v.1,v.2):=by
 have hend:∀(f k:Nat)(fs:List aG)(ws:List aQ),k<l.length->M.kt t2 t22 x x2 o7 o8 (f+1) (ip l k true) fs ws=some (l,(k:Int),true,t2,t22,x,x2,o7,o8,fs,ws):=fun f k fs ws hk=>by
  rw[M.kt];simp only[iC,lH,kr,mg,oZ,kR hk,b9,cJ,al,bu,aj,ad,cr]
 intro f
 induction f with
 |zero=>intro m fs ws k b h;omega
 |succ f ih=>
  intro m fs ws k b hf hk hm hfs hws;obtain⟨f',rfl⟩:∃f',f=f'+1:=⟨f-1,by omega⟩;cases b with
  |true=>exact⟨(fs,ws),k,true,hk,At.no _ _ _,hend _ k fs ws hk⟩
  |false=>
   rw[M.kt];cases hK:((bp l k).Kind==4)
   ·have bad:dZ l m fs ws k=.no k->∃v k' b',k'<l.length/\At (RB false k (dZ l m fs ws k)) v k' b'/\M.kt t2 t22 x x2 o7 o8 (f'+1) (ip l k true) fs ws=some (l,(k':Int),b',t2,t22,x,x2,o7,o8,v.1,v.2):=fun e=>by
     rw[e];exact⟨(fs,ws),k,true,hk,Or.inr ⟨rfl,rfl⟩,hend _ k fs ws hk⟩
    have tF:=js hL hk (text:=[105,110,116,101,114,102,97,99,101]) (fun d r e=>by cases e;decide) false;have tW:=js hL hk (text:=[119,111,114,108,100]) (fun d r e=>by cases e;decide) false;rw[bo,bj]at tF tW;have K6:fs.length<8->aA l [105,110,116,101,114,102,97,99,101] k=true->∃v1 k1 b1 v k' b',k'<l.length/\M.yk (ip l (k+1) false)=some (v1,ip l k1 b1)/\At (RB false k (dZ l m fs ws k)) v k' b'/\M.kt t2 t22 x x2 o7 o8 (f'+1) (ip l k1 b1) (fs++[v1]) ws=some (l,(k':Int),b',t2,t22,x,x2,o7,o8,v.1,v.2):=fun h8 hB=>by
     obtain⟨v1,k1,b1,h1,a1,e1⟩:=agf hL hT (cU hL hk hB) false;obtain⟨m',rfl⟩:∃m',m=m'+1:=⟨m-1,by omega⟩;obtain⟨v,k',b',h2,a2,e2⟩:=ih m' (fs++[v1]) ws k1 b1 (by omega) h1 (by rw[aE,List.length_singleton];omega) (by rw[aE,List.length_singleton];omega) hws;refine⟨v1,k1,b1,v,k',b',h2,e1,?_,e2⟩;rw[dZ,hK];unfold lI;rw[hB,cN (show((fs.length:Nat):Int)<8 by omega)];exact At.bind (r:=kX l (k+1)) a1 a2
    have world:(decide (((fs.length:Nat):Int)<8)&&aA l [105,110,116,101,114,102,97,99,101] k)=false->ws.length<8->aA l [119,111,114,108,100] k=true->∃v1 k1 b1 v k' b',k'<l.length/\M.vT (ip l (k+1) false)=some (v1,ip l k1 b1)/\At (RB false k (dZ l m fs ws k)) v k' b'/\M.kt t2 t22 x x2 o7 o8 (f'+1) (ip l k1 b1) fs (ws++[v1])=some (l,(k':Int),b',t2,t22,x,x2,o7,o8,v.1,v.2):=fun hF h8 hB=>by
     obtain⟨v1,k1,b1,h1,a1,e1⟩:=agk hL hT (cU hL hk hB) false;obtain⟨m',rfl⟩:∃m',m=m'+1:=⟨m-1,by omega⟩;obtain⟨v,k',b',h2,a2,e2⟩:=ih m' fs (ws++[v1]) k1 b1 (by omega) h1 (by rw[aE,List.length_singleton];omega) hfs (by rw[aE,List.length_singleton];omega);refine⟨v1,k1,b1,v,k',b',h2,e1,?_,e2⟩;rw[dZ,hK];unfold lI mT;rw[hF,hB,cN (show((ws.length:Nat):Int)<8 by omega)];exact At.bind (r:=nO l (k+1)) a1 a2
    have nothing:(decide (((fs.length:Nat):Int)<8)&&aA l [105,110,116,101,114,102,97,99,101] k)=false->(decide (((ws.length:Nat):Int)<8)&&aA l [119,111,114,108,100] k)=false->dZ l m fs ws k=.no k:=fun hF hW=>by
     cases m with
     |zero=>rw[dZ,hK];rfl
     |succ m=>rw[dZ,hK];unfold lI mT;rw[hF,hW];rfl
    have world':(decide (((fs.length:Nat):Int)<8)&&aA l [105,110,116,101,114,102,97,99,101] k)=false->∀dW:decide (((ws.length:Nat):Int)<8)=true,aA l [119,111,114,108,100] k=true->ws.length<8:=fun _ h _=>by
     have:=lS h;omega
    cases dF:decide (((fs.length:Nat):Int)<8)
    ·rw[dF,cJ]at world nothing;cases dW:decide (((ws.length:Nat):Int)<8)
     ·simp only[iC,lH,kr,mg,oZ,kR hk,hK,dF,dW,bne,b9,bo,bj,bM,cJ,ad,al,ak,an,cr,aj,ek,bu];exact bad (nothing rfl (by rw[dW];rfl))
     ·cases hW:aA l [119,111,114,108,100] k
      ·rw[hW]at tW;simp only[iC,lH,kr,mg,oZ,kR hk,hK,dF,dW,bne,b9,bo,bj,bM,cJ,ad,al,ak,an,cr,aj,ek,bu,tW];exact bad (nothing rfl (by rw[hW,Bool.and_false]))
      ·rw[hW]at tW;obtain⟨v1,k1,b1,v,k',b',h2,e1,a2,e2⟩:=world rfl (by have:=lS dW;omega) hW;refine⟨v,k',b',h2,a2,?_⟩;simp only[iC,lH,kr,mg,oZ,kR hk,hK,dF,dW,bne,b9,bo,bj,bM,cJ,ad,al,ak,an,cr,aj,ek,bu,tW,e1,dH (show ws.length<=1000 by omega)];exact e2
    ·cases hF:aA l [105,110,116,101,114,102,97,99,101] k
     ·rw[hF]at tF;rw[hF,Bool.and_false]at world nothing;cases dW:decide (((ws.length:Nat):Int)<8)
      ·simp only[iC,lH,kr,mg,oZ,kR hk,hK,dF,dW,bne,b9,bo,bj,bM,cJ,ad,al,ak,an,cr,aj,ek,bu,tF];exact bad (nothing rfl (by rw[dW];rfl))
      ·cases hW:aA l [119,111,114,108,100] k
       ·rw[hW]at tW;simp only[iC,lH,kr,mg,oZ,kR hk,hK,dF,dW,bne,b9,bo,bj,bM,cJ,ad,al,ak,an,cr,aj,ek,bu,tF,tW];exact bad (nothing rfl (by rw[hW,Bool.and_false]))
       ·rw[hW]at tW;obtain⟨v1,k1,b1,v,k',b',h2,e1,a2,e2⟩:=world rfl (by have:=lS dW;omega) hW;refine⟨v,k',b',h2,a2,?_⟩;simp only[iC,lH,kr,mg,oZ,kR hk,hK,dF,dW,bne,b9,bo,bj,bM,cJ,ad,al,ak,an,cr,aj,ek,bu,tF,tW,e1,dH (show ws.length<=1000 by omega)];exact e2
     ·rw[hF]at tF;obtain⟨v1,k1,b1,v,k',b',h2,e1,a2,e2⟩:=K6 (by have:=lS dF;omega) hF;refine⟨v,k',b',h2,a2,?_⟩;simp only[iC,lH,kr,mg,oZ,kR hk,hK,dF,bne,b9,bo,bj,bM,cJ,ad,al,ak,an,cr,aj,ek,bu,tF,e1,dH (show fs.length<=1000 by omega)];exact e2
   ·refine⟨(fs,ws),k,false,hk,?_,?_⟩
    ·cases m<;>(rw[dZ,hK];exact Or.inl ⟨rfl,rfl⟩)
    ·simp only[iC,lH,kr,mg,oZ,kR hk,hK,bne,b9,bo,Bool.and_false,al,ad,ak,an,cr,aj,bu]
theorem agp{l:List af}(hL:bW l)(hT:∀t∈l,t.Text.length<=30000)(t2 t22 x x2:List UInt8)(o7:List aG)(o8:List aQ):∀(f m:Nat)(fs:List aG)(ws:List aQ)(k:Nat)(b:Bool),m+1<f->k<l.length->fs.length+ws.length+m=16->fs.length<=8->ws.length<=8->
 ∃v k' b',k'<l.length/\At (RB b k (dZ l m fs ws k)) v k' b'/\M.ku t2 t22 x x2 o7 o8 f (sp l k b) fs ws=some (l,(k':Int),b',t2,t22,x,x2,o7,o8,v.1,v.2):=by
 have hend:∀(f k:Nat)(fs:List aG)(ws:List aQ),k<l.length->M.ku t2 t22 x x2 o7 o8 (f+1) (sp l k true) fs ws=some (l,(k:Int),true,t2,t22,x,x2,o7,o8,fs,ws):=fun f k fs ws hk=>by
  rw[M.ku];simp only[iN,jE,jF,kU,l6 hk,b9,cJ,al,bu,aj,ad,cr]
 intro f
 induction f with
 |zero=>intro m fs ws k b h;omega
 |succ f ih=>
  intro m fs ws k b hf hk hm hfs hws;obtain⟨f',rfl⟩:∃f',f=f'+1:=⟨f-1,by omega⟩;cases b with
  |true=>exact⟨(fs,ws),k,true,hk,At.no _ _ _,hend _ k fs ws hk⟩
  |false=>
   rw[M.ku];cases hK:((bp l k).Kind==4)
   ·have bad:dZ l m fs ws k=.no k->∃v k' b',k'<l.length/\At (RB false k (dZ l m fs ws k)) v k' b'/\M.ku t2 t22 x x2 o7 o8 (f'+1) (sp l k true) fs ws=some (l,(k':Int),b',t2,t22,x,x2,o7,o8,v.1,v.2):=fun e=>by
     rw[e];exact⟨(fs,ws),k,true,hk,Or.inr ⟨rfl,rfl⟩,hend _ k fs ws hk⟩
    have tF:=fC hL hk [105,110,116,101,114,102,97,99,101] false;have tW:=fC hL hk [119,111,114,108,100] false;rw[bo,bj]at tF tW;have K6:fs.length<8->aA l [105,110,116,101,114,102,97,99,101] k=true->∃v1 k1 b1 v k' b',k'<l.length/\M.yl (sp l (k+1) false)=some (v1,sp l k1 b1)/\At (RB false k (dZ l m fs ws k)) v k' b'/\M.ku t2 t22 x x2 o7 o8 (f'+1) (sp l k1 b1) (fs++[v1]) ws=some (l,(k':Int),b',t2,t22,x,x2,o7,o8,v.1,v.2):=fun h8 hB=>by
     obtain⟨v1,k1,b1,h1,a1,e1⟩:=agi hL hT (cU hL hk hB) false;obtain⟨m',rfl⟩:∃m',m=m'+1:=⟨m-1,by omega⟩;obtain⟨v,k',b',h2,a2,e2⟩:=ih m' (fs++[v1]) ws k1 b1 (by omega) h1 (by rw[aE,List.length_singleton];omega) (by rw[aE,List.length_singleton];omega) hws;refine⟨v1,k1,b1,v,k',b',h2,e1,?_,e2⟩;rw[dZ,hK];unfold lI;rw[hB,cN (show((fs.length:Nat):Int)<8 by omega)];exact At.bind (r:=kX l (k+1)) a1 a2
    have world:(decide (((fs.length:Nat):Int)<8)&&aA l [105,110,116,101,114,102,97,99,101] k)=false->ws.length<8->aA l [119,111,114,108,100] k=true->∃v1 k1 b1 v k' b',k'<l.length/\M.vU (sp l (k+1) false)=some (v1,sp l k1 b1)/\At (RB false k (dZ l m fs ws k)) v k' b'/\M.ku t2 t22 x x2 o7 o8 (f'+1) (sp l k1 b1) fs (ws++[v1])=some (l,(k':Int),b',t2,t22,x,x2,o7,o8,v.1,v.2):=fun hF h8 hB=>by
     obtain⟨v1,k1,b1,h1,a1,e1⟩:=agm hL hT (cU hL hk hB) false;obtain⟨m',rfl⟩:∃m',m=m'+1:=⟨m-1,by omega⟩;obtain⟨v,k',b',h2,a2,e2⟩:=ih m' fs (ws++[v1]) k1 b1 (by omega) h1 (by rw[aE,List.length_singleton];omega) hfs (by rw[aE,List.length_singleton];omega);refine⟨v1,k1,b1,v,k',b',h2,e1,?_,e2⟩;rw[dZ,hK];unfold lI mT;rw[hF,hB,cN (show((ws.length:Nat):Int)<8 by omega)];exact At.bind (r:=nO l (k+1)) a1 a2
    have nothing:(decide (((fs.length:Nat):Int)<8)&&aA l [105,110,116,101,114,102,97,99,101] k)=false->(decide (((ws.length:Nat):Int)<8)&&aA l [119,111,114,108,100] k)=false->dZ l m fs ws k=.no k:=fun hF hW=>by
     cases m with
     |zero=>rw[dZ,hK];rfl
     |succ m=>rw[dZ,hK];unfold lI mT;rw[hF,hW];rfl
    have world':(decide (((fs.length:Nat):Int)<8)&&aA l [105,110,116,101,114,102,97,99,101] k)=false->∀dW:decide (((ws.length:Nat):Int)<8)=true,aA l [119,111,114,108,100] k=true->ws.length<8:=fun _ h _=>by
     have:=lS h;omega
    cases dF:decide (((fs.length:Nat):Int)<8)
    ·rw[dF,cJ]at world nothing;cases dW:decide (((ws.length:Nat):Int)<8)
     ·simp only[iN,jE,jF,kU,l6 hk,hK,dF,dW,bne,b9,bo,bj,bM,cJ,ad,al,ak,an,cr,aj,ek,bu];exact bad (nothing rfl (by rw[dW];rfl))
     ·cases hW:aA l [119,111,114,108,100] k
      ·rw[hW]at tW;simp only[iN,jE,jF,kU,l6 hk,hK,dF,dW,bne,b9,bo,bj,bM,cJ,ad,al,ak,an,cr,aj,ek,bu,tW];exact bad (nothing rfl (by rw[hW,Bool.and_false]))
      ·rw[hW]at tW;obtain⟨v1,k1,b1,v,k',b',h2,e1,a2,e2⟩:=world rfl (by have:=lS dW;omega) hW;refine⟨v,k',b',h2,a2,?_⟩;simp only[iN,jE,jF,kU,l6 hk,hK,dF,dW,bne,b9,bo,bj,bM,cJ,ad,al,ak,an,cr,aj,ek,bu,tW,e1,dH (show ws.length<=1000 by omega)];exact e2
    ·cases hF:aA l [105,110,116,101,114,102,97,99,101] k
     ·rw[hF]at tF;rw[hF,Bool.and_false]at world nothing;cases dW:decide (((ws.length:Nat):Int)<8)
      ·simp only[iN,jE,jF,kU,l6 hk,hK,dF,dW,bne,b9,bo,bj,bM,cJ,ad,al,ak,an,cr,aj,ek,bu,tF];exact bad (nothing rfl (by rw[dW];rfl))
      ·cases hW:aA l [119,111,114,108,100] k
       ·rw[hW]at tW;simp only[iN,jE,jF,kU,l6 hk,hK,dF,dW,bne,b9,bo,bj,bM,cJ,ad,al,ak,an,cr,aj,ek,bu,tF,tW];exact bad (nothing rfl (by rw[hW,Bool.and_false]))
       ·rw[hW]at tW;obtain⟨v1,k1,b1,v,k',b',h2,e1,a2,e2⟩:=world rfl (by have:=lS dW;omega) hW;refine⟨v,k',b',h2,a2,?_⟩;simp only[iN,jE,jF,kU,l6 hk,hK,dF,dW,bne,b9,bo,bj,bM,cJ,ad,al,ak,an,cr,aj,ek,bu,tF,tW,e1,dH (show ws.length<=1000 by omega)];exact e2
     ·rw[hF]at tF;obtain⟨v1,k1,b1,v,k',b',h2,e1,a2,e2⟩:=K6 (by have:=lS dF;omega) hF;refine⟨v,k',b',h2,a2,?_⟩;simp only[iN,jE,jF,kU,l6 hk,hK,dF,bne,b9,bo,bj,bM,cJ,ad,al,ak,an,cr,aj,ek,bu,tF,e1,dH (show fs.length<=1000 by omega)];exact e2
   ·refine⟨(fs,ws),k,false,hk,?_,?_⟩
    ·cases m<;>(rw[dZ,hK];exact Or.inl ⟨rfl,rfl⟩)
    ·simp only[iN,jE,jF,kU,l6 hk,hK,bne,b9,bo,Bool.and_false,al,ad,ak,an,cr,aj,bu]
theorem agq{l:List af}(hL:bW l)(hT:∀t∈l,t.Text.length<=30000){k:Nat}(hk:k<l.length)(b:Bool):
 ∃v k' b',k'<l.length/\At (RB b k (gk l k)) v k' b'/\M.Bd (ip l k b)=some (aw.Name v,aw.Version v,ip l k' b',aw.aD v,aw.Worlds v):=by
 obtain⟨k1,b1,h1,a1,e1⟩:=kb hL hk (t:=Bc) (fun d r e=>by cases e;decide) b;obtain⟨v2,k2,b2,h2,a2,e2,-⟩:=vQ hL hT h1 b1;obtain⟨k3,b3,h3,a3,e3⟩:=kb hL h2 (cT 64 (by decide)) b2;obtain⟨v4,k4,b4,h4,a4,e4,-⟩:=Rw hL hT h3 b3;obtain⟨k5,b5,h5,a5,e5⟩:=kb hL h4 (cT 59 (by decide)) b4;obtain⟨v6,k6,b6,h6,a6,e6⟩:=agn hL hT [] [] v2 v4 [] [] ae 16 [] [] k5 b5 (by have:=bf;omega) h5 rfl (by simp) (by simp);refine⟨aw.mk v2 v4 v6.1 v6.2,k6,b6,h6,a1.bG (a2.bG (a3.bG (a4.bG (a5.bG (a6.bG (At.ret _ _ _)))))),?_⟩;unfold Bc at e1;unfold M.Bd;simp only[e1,e2,e3,e4,e5,e6,ak,an,aj,ad];rfl
theorem agr{l:List af}(hL:bW l)(hT:∀t∈l,t.Text.length<=30000){k:Nat}(hk:k<l.length)(b:Bool):
 ∃v k' b',k'<l.length/\At (RB b k (gk l k)) v k' b'/\M.ym (sp l k b)=some (v,sp l k' b'):=by
 obtain⟨k1,b1,h1,a1,e1⟩:=kV hL hk Bc b;obtain⟨v2,k2,b2,h2,a2,e2,-⟩:=vR hL hT h1 b1;obtain⟨k3,b3,h3,a3,e3⟩:=kV hL h2 [64] b2;obtain⟨v4,k4,b4,h4,a4,e4,-⟩:=Rx hL h3 b3;obtain⟨k5,b5,h5,a5,e5⟩:=kV hL h4 [59] b4;obtain⟨v6,k6,b6,h6,a6,e6⟩:=agp hL hT [] [] v2 v4 [] [] ae 16 [] [] k5 b5 (by have:=bf;omega) h5 rfl (by simp) (by simp);refine⟨aw.mk v2 v4 v6.1 v6.2,k6,b6,h6,a1.bG (a2.bG (a3.bG (a4.bG (a5.bG (a6.bG (At.ret _ _ _)))))),?_⟩;unfold Bc at e1;unfold M.ym;simp only[e1,e2,e3,e4,e5,e6,ak,an,aj,ad];rfl
end M
namespace M
open Go.V (inB bS ae bf)
theorem RF(s:List UInt8):∀(f a:Nat)(line:Int)(out:List af)(y:Int×List af),(∀t∈out,t.Text.length<=s.length)->jc s f a line out=.inr y->∀t∈y.2,t.Text.length<=s.length
 |0,a,line,out,y,ho,h=>by cases h
 |f+1,a,line,out,y,ho,h=>by
  unfold jc at h;split at h
  ·split at h
   ·cases h
   ·split at h
    ·cases h
    ·refine RF s f _ _ _ y (fun t ht=>?_) h;rcases de.1 ht with q|q
     ·exact ho t q
     ·rw[eI]at q;rw[q];show(nz s a _).length<=_
      unfold nz;rw[sF,List.length_drop];omega
  ·cases h;exact ho
theorem RG(s:List UInt8):∀t∈(dr s).1,t.Text.length<=30000:=by
 unfold dr;split
 ·intro t h;cases h
 ·rename_i hl;have hs:=RF s ae (bm false s 1).1 (bm false s 1).2 [];generalize jc s ae (bm false s 1).1 (bm false s 1).2 []=r at*;cases r with
  |inl x=>intro t h;cases h
  |inr y=>
   intro t h;rcases de.1 h with q|q
   ·have:=hs y (fun t q=>by cases q) rfl t q;omega
   ·rw[eI]at q;rw[q];simp
theorem K7(l:List af):∀(m:Nat)(fs:List aG)(ws:List aQ)(k:Nat)(v:List aG×List aQ)(k':Nat),dZ l m fs ws k=.ok v k'->(bp l k').Kind=4
 |0,fs,ws,k,v,k',h=>by
  rw[dZ]at h;cases hK:((bp l k).Kind==4)<;>rw[hK]at h
  ·cases h
  ·cases h;exact cK.1 hK
 |m+1,fs,ws,k,v,k',h=>by
  rw[dZ]at h;cases hK:((bp l k).Kind==4)<;>rw[hK]at h
  ·simp only[al]at h;cases hF:(decide (((fs.length:Nat):Int)<8)&&aA l lI k)<;>rw[hF]at h
   ·simp only[al]at h;cases hW:(decide (((ws.length:Nat):Int)<8)&&aA l mT k)<;>rw[hW]at h
    ·cases h
    ·simp only[ad]at h;cases hf:nO l (k+1)with
     |no q=>rw[hf]at h;cases h
     |ok w q=>rw[hf]at h;exact K7 l m _ _ _ _ _ h
   ·simp only[ad]at h;cases hf:kX l (k+1)with
    |no q=>rw[hf]at h;cases h
    |ok w q=>rw[hf]at h;exact K7 l m _ _ _ _ _ h
  ·cases h;exact cK.1 hK
theorem bind_ok{α β:Type}{r:PR α}{f:α->Nat->PR β}{v:β}{k:Nat}(h:r.bind f=.ok v k):∃a k1,r=.ok a k1/\f a k1=.ok v k:=by
 cases r with
 |no q=>cases h
 |ok a q=>exact⟨a,q,rfl,h⟩
theorem ags(l:List af)(k:Nat)(p:aw)(k':Nat)(h:gk l k=.ok p k'):(bp l k').Kind=4:=by
 unfold gk at h;obtain⟨_,_,_,h⟩:=bind_ok h;obtain⟨_,_,_,h⟩:=bind_ok h;obtain⟨_,_,_,h⟩:=bind_ok h;obtain⟨_,_,_,h⟩:=bind_ok h;obtain⟨_,_,_,h⟩:=bind_ok h;obtain⟨q,k6,h6,h⟩:=bind_ok h;cases h;exact K7 l _ _ _ _ _ _ h6
noncomputable def fN(s:List UInt8):(Int×Int)⊕aw:=
 if(dr s).2.2=0 then match gk (dr s).1 0 with
  |.no k=>.inl ((bp (dr s).1 k).Line,6)
  |.ok p _=>.inr p
 else .inl ((dr s).2.1,(dr s).2.2)
theorem RH(s:List UInt8):match fN s with
 |.inl e=>e.2≠0/\∃n v fs ws,M.qd s [] [] [] []=some (e.1,e.2,n,v,fs,ws)
 |.inr p=>M.qd s [] [] [] []=some (0,0,aw.Name p,aw.Version p,aw.aD p,aw.Worlds p):=by
 have ht:=afz s;unfold fN;by_cases h0:(dr s).2.2=0
 ·rw[aT h0];have hL:=EA s h0;have hT:=RG s;have e0:((dr s).2.2 !=0)=false:=by rw[bne_eq_false_iff_eq];exact h0
  obtain⟨p,k,b,hk,a,e⟩:=agq hL hT hL.pos false;have ew:∀n v fs ws,M.Be (au.mk (dr s).1 0 false) n v fs ws=some (ip (dr s).1 k b,aw.Name p,aw.Version p,aw.aD p,aw.Worlds p):=fun n v fs ws=>by
   unfold M.Be;rw[show au.mk (dr s).1 0 false=ip (dr s).1 0 false from rfl,e];rfl
  rcases a with⟨q1,q2⟩|⟨q1,q2⟩
  ·rw[show RB false 0 (gk (dr s).1 0)=gk (dr s).1 0 from rfl]at q1;have h4:=ags _ _ _ _ q1;rw[q1];have e4:((bp (dr s).1 k).Kind !=4)=false:=by rw[bne_eq_false_iff_eq];exact h4
   show M.qd s [] [] [] []=_
   unfold M.qd;simp only[ht,e0,ew,q2,iC,kr,oZ,e4,kR hk,ak,an,al,ad,pD,bu,aj]
  ·rw[show RB false 0 (gk (dr s).1 0)=gk (dr s).1 0 from rfl]at q1;rw[q1];refine⟨show(6:Int)≠0 by decide,aw.Name p,aw.Version p,aw.aD p,aw.Worlds p,?_⟩;unfold M.qd;simp only[ht,e0,ew,q2,iC,kr,oZ,kR hk,ak,an,al,ad,bu,aj]
 ·rw[aP h0];have e0:((dr s).2.2 !=0)=true:=by rw[pE];exact h0
  refine⟨h0,[],[],[],[],?_⟩;unfold M.qd;simp only[ht,e0,ak,an,ad,aj]
theorem agt(s:List UInt8)(c:aw->Bool)(hc:∀p,fN s=.inr p->M.yn p=some (c p)):M.tQ s=some (match fN s with
 |.inl e=>(aw.mk [] [] [] [],e.1,e.2)
 |.inr p=>bif c p then(p,0,0)else(aw.mk [] [] [] [],0,1)):=by
 have ht:=afy s;by_cases h0:(dr s).2.2=0
 ·have hL:=EA s h0;have hT:=RG s;have e0:((dr s).2.2 !=0)=false:=by rw[bne_eq_false_iff_eq];exact h0
  obtain⟨p,k,b,hk,a,e⟩:=agr hL hT hL.pos false;have e':M.ym (ay.mk (dr s).1 0 false)=some (p,sp (dr s).1 k b):=e;rcases a with⟨q1,q2⟩|⟨q1,q2⟩
  ·rw[show RB false 0 (gk (dr s).1 0)=gk (dr s).1 0 from rfl]at q1;have hw:fN s=.inr p:=by unfold fN;rw[aT h0,q1]
   have hcp:=hc p hw;rw[hw];unfold M.tQ;simp only[ht,e0,e',q2,iN,hcp,ak,an,al,aj,ad];cases c p<;>rfl
  ·rw[show RB false 0 (gk (dr s).1 0)=gk (dr s).1 0 from rfl]at q1;have hw:fN s=.inl ((bp (dr s).1 k).Line,6):=by unfold fN;rw[aT h0,q1]
   rw[hw];unfold M.tQ;simp only[ht,e0,e',q2,iN,l6 hk,ak,an,al,aj,ad]
 ·have hw:fN s=.inl ((dr s).2.1,(dr s).2.2):=by unfold fN;rw[aP h0]
  have e0:((dr s).2.2 !=0)=true:=by rw[pE];exact h0
  rw[hw];unfold M.tQ;simp only[ht,e0,ak,an,ad,aj]
end M
namespace M
open Go.V (inB bS ae bf)
theorem dS{n k:Nat}(h:k<n):inB (k:Int) n=true:=by rw[cZ];simpa using h
theorem twice_in(list:List (List UInt8))(hl:list.length<=1000000)(i:Nat)(hi:i<list.length):∀(f k:Nat),i-k<f->k<=i->
 ((∃j,k<=j/\j<i/\list.getD i []=list.getD j [])/\M.vV list (i:Int) f (k:Int)=some (.inl true))\/
 ((¬∃j,k<=j/\j<i/\list.getD i []=list.getD j [])/\M.vV list (i:Int) f (k:Int)=some (.inr (list,(i:Int))))
 |0,k,h,_=>by omega
 |f+1,k,h,hk=>by
  rw[M.vV];rcases cQ k i with q|q
  ·rw[cN (show((k:Nat):Int)<((i:Nat):Int) by omega)];simp only[bN,dS (show k<list.length by omega),dS hi,ad,aj];have hw:Go.IntKind.wrap .i64 ((k:Int)+1)=((k+1:Nat):Int):=by rw[wrap_i64 (by omega) (by omega)];omega
   cases e:(list.getD i []==list.getD k [])
   ·have hne:list.getD i []≠list.getD k []:=cL.1 e;simp only[al,hw];rcases twice_in list hl i hi f (k+1) (by omega) (by omega)with⟨⟨j,h1,h2,h3⟩,e1⟩|⟨h1,e1⟩
    ·exact Or.inl ⟨⟨j,by omega,h2,h3⟩,e1⟩
    ·refine Or.inr ⟨fun⟨j,a,b,c⟩=>?_,e1⟩;rcases Nat.eq_or_lt_of_le a with z|z
     ·rw[<-z]at c;exact hne c
     ·exact h1 ⟨j,by omega,b,c⟩
   ·exact Or.inl ⟨⟨k,cu _,q,cK.1 e⟩,rfl⟩
  ·rw[cY (show ¬((k:Nat):Int)<((i:Nat):Int) by omega)];exact Or.inr ⟨fun⟨j,a,b,_⟩=>by omega,rfl⟩
theorem RI(list:List (List UInt8))(hl:list.length<=1000000):∀(f i:Nat),list.length-i<f->i<=list.length->
 ((∃a b,i<=a/\a<list.length/\b<a/\list.getD a []=list.getD b [])/\M.vW f list (i:Int)=some (.inl true))\/
 ((¬∃a b,i<=a/\a<list.length/\b<a/\list.getD a []=list.getD b [])/\M.vW f list (i:Int)=some (.inr ()))
 |0,i,h,_=>by omega
 |f+1,i,h,hi=>by
  rw[M.vW];rcases cQ i list.length with q|q
  ·rw[cN (show((i:Nat):Int)<((list.length:Nat):Int) by omega)];have hw:Go.IntKind.wrap .i64 ((i:Int)+1)=((i+1:Nat):Int):=by rw[wrap_i64 (by omega) (by omega)];omega
   rcases twice_in list hl i q ae 0 (by have:=bf;omega) (cM _)with⟨⟨j,h1,h2,h3⟩,e1⟩|⟨h1,e1⟩
   ·refine Or.inl ⟨⟨i,j,cu _,q,h2,h3⟩,?_⟩;rw[show((0:Nat):Int)=0 from rfl]at e1;simp only[ad,e1]
   ·rw[show((0:Nat):Int)=0 from rfl]at e1;simp only[ad,e1,hw];rcases RI list hl f (i+1) (by omega) (by omega)with⟨⟨a,b,x1,x2,x3,x4⟩,e2⟩|⟨h2,e2⟩
    ·exact Or.inl ⟨⟨a,b,by omega,x2,x3,x4⟩,e2⟩
    ·refine Or.inr ⟨fun⟨a,b,x1,x2,x3,x4⟩=>?_,e2⟩;rcases Nat.eq_or_lt_of_le x1 with z|z
     ·rw[<-z]at x3 x4;exact h1 ⟨b,cM _,x3,x4⟩
     ·exact h2 ⟨a,b,by omega,x2,x3,x4⟩
  ·rw[cY (show ¬((i:Nat):Int)<((list.length:Nat):Int) by omega)];exact Or.inr ⟨fun⟨a,b,x1,x2,_,_⟩=>by omega,rfl⟩
theorem ES(list:List (List UInt8))(hl:list.length<=1000000):M.tR list=some (!nodupB list):=by
 unfold M.tR;have h:=RI list hl ae 0 (by have:=bf;omega) (cM _);rw[show((0:Nat):Int)=0 from rfl]at h;rcases h with⟨⟨a,b,_,x2,x3,x4⟩,e⟩|⟨h1,e⟩
 ·have:nodupB list=false:=by
   rw[Bool.eq_false_iff];intro hn;have hn:=(ET list).1 hn;have:=wW.1 hn b a (by omega) x2 x3;rw[gK,gK,cH x2,cH (show b<list.length by omega)]at x4;exact this x4.symm
  simp only[e,this,bo]
 ·have:nodupB list=true:=by
   rw[ET];refine wW.2 fun i j hi hj hij e2=>h1 ⟨j,i,cM _,hj,hij,?_⟩
   rw[gK,gK,cH hj,cH hi];exact e2.symm
  simp only[e,this,b9]
end M
namespace M
open Go.V (inB bS ae bf)
def pd(u:aX):List UInt8:=bif !(u.As==[])then u.As else u.Name
def typeOf(x:ai):List (List UInt8):=bif x.Kind==3 then[]else bif x.Kind==4 then x.Uses.map pd else[x.Name]
def funcOf(x:ai):List (List UInt8):=bif x.Kind==3 then[x.Name]else[]
def jI(xs:List ai):List (List UInt8):=(xs.map typeOf).flatten
def jJ(xs:List ai):List (List UInt8):=(xs.map funcOf).flatten
theorem agu(u:aX):M.Bf u=some (pd u):=by
 unfold M.Bf pd;cases (!(u.As==[]))<;>rfl
theorem agv(u:aX):M.nP u=some (pd u):=by
 unfold M.nP pd;cases (!(u.As==[]))<;>rfl
theorem dT{α:Type}{l:List α}{k:Nat}(d:α)(h:k<l.length):List.getD l k d=l[k]:=by
 rw[gK,cH h];rfl
theorem kx{α:Type}{l:List α}{k:Nat}(h:k<l.length):l.drop k=l[k]::l.drop (k+1):=List.drop_eq_getElem_cons h
theorem fS{k n:Nat}(h:k<n):decide ((k:Int)<(n:Int))=true:=cN (by omega)
theorem lJ{k n:Nat}(h:n<=k):decide ((k:Int)<(n:Int))=false:=cY (by omega)
theorem qe{k:Nat}(h:k<=1000000):Go.IntKind.wrap .i64 ((k:Int)+1)=((k+1:Nat):Int):=by rw[wrap_i64 (by omega) (by omega)];omega
theorem RJ{t18:List aG}{t19 t20:Int}{t27:List ai}{t28 t29:Int}{x:aw}{f:aG}{faces worlds funcs:List (List UInt8)}(us:List aX)(hU:us.length<=1000):∀(n k:Nat)(types:List (List UInt8)),us.length-k<n->k<=us.length->types.length+(us.length-k)<=1000->
 M.yo t18 t19 t20 t27 t28 t29 us ((us.length:Nat):Int) x f faces worlds funcs n (k:Int) types=some (t18,t19,t20,t27,t28,t29,x,f,faces,worlds,funcs,types++(us.drop k).map pd)
 |0,k,types,h,_,_=>by omega
 |n+1,k,types,h,hk,hb=>by
  rw[M.yo];rcases cQ k us.length with q|q
  ·have:=RJ (t18:=t18) (t19:=t19) (t20:=t20) (t27:=t27) (t28:=t28) (t29:=t29) (x:=x) (f:=f) (faces:=faces) (worlds:=worlds) (funcs:=funcs) us hU n (k+1) (types++[pd us[k]]) (by omega) (by omega) (by rw[aE,List.length_singleton];omega);simp only[fS q,bN,dT _ q,agu,ak,an,dH (show types.length<=1000 by omega),dS q,aj,ad,qe (show k<=1000000 by omega),this];rw[kx q,eQ,fX,List.singleton_append]
  ·simp only[lJ q,al];rw[List.drop_eq_nil_of_le q,List.map_nil,sJ]
theorem RL{t18:List aG}{t19 t20:Int}{x:aw}{f:aG}{faces worlds:List (List UInt8)}(xs:List ai)(hX:xs.length<=1000)(hu:∀i∈xs,i.Uses.length<=16):∀(n k:Nat)(funcs types:List (List UInt8)),xs.length-k<n->k<=xs.length->types.length+17*(xs.length-k)<=1000->funcs.length+(xs.length-k)<=1000->
 M.tU n t18 t19 t20 xs ((xs.length:Nat):Int) (k:Int) x f faces worlds funcs types=some (t18,t19,t20,x,f,faces,worlds,funcs++jJ (xs.drop k),types++jI (xs.drop k))
 |0,k,_,_,h,_,_,_=>by omega
 |n+1,k,funcs,types,h,hk,hb,hc=>by
  rw[M.tU];rcases cQ k xs.length with q|q
  ·have hx:=hu xs[k] (dt q);have ih:=fun fs ts=>RL (t18:=t18) (t19:=t19) (t20:=t20) (x:=x) (f:=f) (faces:=faces) (worlds:=worlds) xs hX hu n (k+1) fs ts (by omega) (by omega)
   have eF:jJ (xs.drop k)=funcOf xs[k]++jJ (xs.drop (k+1)):=by unfold jJ;rw[kx q];rfl
   have eT:jI (xs.drop k)=typeOf xs[k]++jI (xs.drop (k+1)):=by unfold jI;rw[kx q];rfl
   rw[eF,eT];unfold funcOf typeOf;simp only[fS q,bN,dT _ q,ad,dS q,aj,qe (show k<=1000000 by omega)];cases h3:(xs[k].Kind==(3:Int))
   ·cases h4:(xs[k].Kind==(4:Int))
    ·have:=ih funcs (types++[xs[k].Name]) (by rw[aE,List.length_singleton];omega) (by omega);simp only[al,ad,dH (show types.length<=1000 by omega),aj,this,eP,fX]
    ·have hm:=RJ (t18:=t18) (t19:=t19) (t20:=t20) (t27:=xs) (t28:=((xs.length:Nat):Int)) (t29:=((k:Nat):Int)) (x:=x) (f:=f) (faces:=faces) (worlds:=worlds) (funcs:=funcs) xs[k].Uses (by omega) ae 0 types (by have:=bf;omega) (cM _) (by omega);rw[show((0:Nat):Int)=0 from rfl,jj]at hm;have:=ih funcs (types++xs[k].Uses.map pd) (by rw[aE,eJ];omega) (by omega);simp only[al,ad,hm,qe (show k<=1000000 by omega),this,eP,fX]
   ·have:=ih (funcs++[xs[k].Name]) types (by omega) (by rw[aE,List.length_singleton];omega);simp only[ad,dH (show funcs.length<=1000 by omega),aj,this,eP,fX]
  ·simp only[lJ q,al];rw[List.drop_eq_nil_of_le q];simp[jJ,jI]
theorem RN{i:Int}{f:aG}{funcs:List (List UInt8)}(x:ai)(hU:x.Uses.length<=1000):∀(n k:Nat)(types:List (List UInt8)),x.Uses.length-k<n->k<=x.Uses.length->types.length+(x.Uses.length-k)<=1000->
 M.yp i f funcs n (k:Int) x types=some (i,f,types++(x.Uses.drop k).map pd,funcs)
 |0,k,types,h,_,_=>by omega
 |n+1,k,types,h,hk,hb=>by
  rw[M.yp];rcases cQ k x.Uses.length with q|q
  ·have:=RN (i:=i) (f:=f) (funcs:=funcs) x hU n (k+1) (types++[pd x.Uses[k]]) (by omega) (by omega) (by rw[aE,List.length_singleton];omega);simp only[fS q,bN,dT _ q,agv,ak,an,dH (show types.length<=1000 by omega),dS q,aj,ad,qe (show k<=1000000 by omega),ai.bX,this];rw[kx q,eQ,fX,List.singleton_append]
  ·simp only[lJ q,al];rw[List.drop_eq_nil_of_le q,List.map_nil,sJ]
theorem RO(f:aG)(hX:f.Items.length<=1000)(hu:∀i∈f.Items,i.Uses.length<=16/\1<=i.Kind/\i.Kind<=4):∀(n k:Nat)(funcs types:List (List UInt8)),f.Items.length-k<n->k<=f.Items.length->types.length+17*(f.Items.length-k)<=1000->funcs.length+(f.Items.length-k)<=1000->
 M.rP n (k:Int) f types funcs=some (types++jI (f.Items.drop k),funcs++jJ (f.Items.drop k))
 |0,k,_,_,h,_,_,_=>by omega
 |n+1,k,funcs,types,h,hk,hb,hc=>by
  rw[M.rP];rcases cQ k f.Items.length with q|q
  ·have hx:=hu f.Items[k] (dt q);have ih:=fun fs ts=>RO f hX hu n (k+1) fs ts (by omega) (by omega)
   have eF:jJ (f.Items.drop k)=funcOf f.Items[k]++jJ (f.Items.drop (k+1)):=by unfold jJ;rw[kx q];rfl
   have eT:jI (f.Items.drop k)=typeOf f.Items[k]++jI (f.Items.drop (k+1)):=by unfold jI;rw[kx q];rfl
   rw[eF,eT];unfold funcOf typeOf;simp only[fS q,bN,dT _ q,ad,dS q,aj,bu,qe (show k<=1000000 by omega),ai.bX];have hkd:f.Items[k].Kind=1\/f.Items[k].Kind=2\/f.Items[k].Kind=3\/f.Items[k].Kind=4:=by omega
   rcases hkd with e|e|e|e
   ·have:=ih funcs (types++[f.Items[k].Name]) (by rw[aE,List.length_singleton];omega) (by omega);rw[e];simp only[Int.reduceBEq,al,ad,dH (show types.length<=1000 by omega),aj,this,eP,fX]
   ·have:=ih funcs (types++[f.Items[k].Name]) (by rw[aE,List.length_singleton];omega) (by omega);rw[e];simp only[Int.reduceBEq,al,ad,dH (show types.length<=1000 by omega),aj,this,eP,fX]
   ·have:=ih (funcs++[f.Items[k].Name]) types (by omega) (by rw[aE,List.length_singleton];omega);rw[e];simp only[Int.reduceBEq,al,ad,dH (show funcs.length<=1000 by omega),aj,this,eP,fX]
   ·have hm:=RN (i:=((k:Nat):Int)) (f:=f) (funcs:=funcs) f.Items[k] (by omega) ae 0 types (by have:=bf;omega) (cM _) (by omega);rw[show((0:Nat):Int)=0 from rfl,jj]at hm;have:=ih funcs (types++f.Items[k].Uses.map pd) (by rw[aE,eJ];omega) (by omega);rw[e];simp only[Int.reduceBEq,al,ad,hm,qe (show k<=1000000 by omega),this,eP,fX]
  ·simp only[lJ q,al];rw[List.drop_eq_nil_of_le q];simp[jJ,jI]
end M
namespace M
open Go.V (inB bS ae bf)
def yq(f:aG):Prop:=f.Items.length<=16/\∀i∈f.Items,i.Uses.length<=16/\1<=i.Kind/\i.Kind<=4
def EU(p:aw):Prop:=p.aD.length<=8/\p.Worlds.length<=8/\∀f∈p.aD,yq f
def vX(f:aG):Bool:=nodupB (jI f.Items)&&nodupB (jJ f.Items)
def mm(p:aw):Bool:=p.aD.all vX&&(nodupB (p.aD.map (·.Name))&&nodupB (p.Worlds.map (·.Name)))
theorem K8:∀(xs:List ai),(∀i∈xs,i.Uses.length<=16)->(jI xs).length<=17*xs.length
 |[],_=>cu _
 |x::r,h=>by
  have h1:=h x (by simp);have h2:=K8 r fun i hi=>h i (by simp[hi])
  have e:jI (x::r)=typeOf x++jI r:=rfl;rw[e,aE,aC];have:(typeOf x).length<=16:=by
   unfold typeOf;cases (x.Kind==3)
   ·cases (x.Kind==4)
    ·simp
    ·simpa using h1
   ·simp
  omega
theorem K9:∀(xs:List ai),(jJ xs).length<=xs.length
 |[]=>cu _
 |x::r=>by
  have h2:=K9 r;have e:jJ (x::r)=funcOf x++jJ r:=rfl;rw[e,aE,aC];have:(funcOf x).length<=1:=by
   unfold funcOf;cases (x.Kind==3)<;>simp
  omega
theorem RP{x:aw}{worlds:List (List UInt8)}(fs:List aG)(hX:fs.length<=8)(hf:∀f∈fs,yq f):∀(n k:Nat)(faces:List (List UInt8)),fs.length-k<n->k<=fs.length->faces.length+(fs.length-k)<=1000->
 M.yt n fs ((fs.length:Nat):Int) (k:Int) x faces worlds=some (bif(fs.drop k).all vX then .inr (x,faces++(fs.drop k).map (·.Name),worlds)else .inl false)
 |0,k,faces,h,_,_=>by omega
 |n+1,k,faces,h,hk,hb=>by
  rw[M.yt];rcases cQ k fs.length with q|q
  ·obtain⟨hf1,hf2⟩:=hf fs[k] (dt q);have hu:=fun i hi=>(hf2 i hi).1
   have hm:=RL (t18:=fs) (t19:=((fs.length:Nat):Int)) (t20:=((k:Nat):Int)) (x:=x) (f:=fs[k]) (faces:=faces) (worlds:=worlds) fs[k].Items (by omega) hu ae 0 [] [] (by have:=bf;omega) (cM _) (by simp;omega) (by simp;omega);rw[show((0:Nat):Int)=0 from rfl,jj,eP,eP]at hm;have l1:=K8 fs[k].Items hu;have l2:=K9 fs[k].Items;have d1:=EV (jI fs[k].Items) (by omega);have d2:=EV (jJ fs[k].Items) (by omega);have ih:=RP (x:=x) (worlds:=worlds) fs hX hf n (k+1) (faces++[fs[k].Name]) (by omega) (by omega) (by rw[aE,List.length_singleton];omega);rw[kx q,nf];simp only[fS q,bN,dT _ q,ad,hm,d1,d2,ak,an,bu,dS q,aj,qe (show k<=1000000 by omega),dH (show faces.length<=1000 by omega),ih];unfold vX;cases nodupB (jJ fs[k].Items)
   ·simp only[bo,bu,ad,Bool.and_false,cJ,al]
   ·cases nodupB (jI fs[k].Items)
    ·simp only[bo,b9,ek,ad,cJ,al]
    ·simp only[b9,pD,al,aj,bj,eQ,fX,List.singleton_append]
  ·simp only[lJ q,al];rw[List.drop_eq_nil_of_le q];simp
theorem RQ{faces:List (List UInt8)}(ws:List aQ)(hX:ws.length<=8):∀(n k:Nat)(worlds:List (List UInt8)),ws.length-k<n->k<=ws.length->worlds.length+(ws.length-k)<=1000->
 M.yu ws ((ws.length:Nat):Int) faces n (k:Int) worlds=some (faces,worlds++(ws.drop k).map (·.Name))
 |0,k,_,h,_,_=>by omega
 |n+1,k,worlds,h,hk,hb=>by
  rw[M.yu];rcases cQ k ws.length with q|q
  ·have ih:=RQ (faces:=faces) ws hX n (k+1) (worlds++[ws[k].Name]) (by omega) (by omega) (by rw[aE,List.length_singleton];omega);simp only[fS q,bN,dT _ q,ad,dS q,aj,qe (show k<=1000000 by omega),dH (show worlds.length<=1000 by omega),ih];rw[kx q,eQ,fX,List.singleton_append]
  ·simp only[lJ q,al];rw[List.drop_eq_nil_of_le q];simp
theorem agw(p:aw)(hp:EU p):M.Bg p=some (mm p):=by
 obtain⟨h1,h2,h3⟩:=hp;have e1:=RP (x:=p) (worlds:=[]) p.aD h1 h3 ae 0 [] (by have:=bf;omega) (cM _) (by simp;omega);have e2:=RQ (faces:=p.aD.map (·.Name)) p.Worlds h2 ae 0 [] (by have:=bf;omega) (cM _) (by simp;omega);rw[show((0:Nat):Int)=0 from rfl,jj,eP]at e1 e2;have d1:=EV (p.aD.map (·.Name)) (by rw[eJ];omega);have d2:=EV (p.Worlds.map (·.Name)) (by rw[eJ];omega);unfold M.Bg mm;rw[e1];cases p.aD.all vX
 ·rfl
 ·simp only[ad,e2,d1,d2,ak,an,bu,aj,bj]
theorem agx(f:aG)(hf:yq f):M.Bh f=some (jI f.Items,jJ f.Items):=by
 have hm:=RO f (by have:=hf.1;omega) hf.2 ae 0 [] [] (by have:=bf;have:=hf.1;omega) (cM _) (by simp;have:=hf.1;omega) (by simp;have:=hf.1;omega);rw[show((0:Nat):Int)=0 from rfl,jj,eP,eP]at hm;unfold M.Bh;simp only[hm]
theorem RR(x:aw){worlds:List (List UInt8)}(hX:x.aD.length<=8)(hf:∀f∈x.aD,yq f):∀(n k:Nat)(faces:List (List UInt8)),x.aD.length-k<n->k<=x.aD.length->faces.length+(x.aD.length-k)<=1000->
 M.yv x worlds n (k:Int) faces=some (bif(x.aD.drop k).all vX then .inr (x,faces++(x.aD.drop k).map (·.Name),worlds)else .inl false)
 |0,k,faces,h,_,_=>by omega
 |n+1,k,faces,h,hk,hb=>by
  rw[M.yv];rcases cQ k x.aD.length with q|q
  ·have hfk:=hf x.aD[k] (dt q);have hu:=fun i hi=>(hfk.2 i hi).1
   have l1:=K8 x.aD[k].Items hu;have l2:=K9 x.aD[k].Items;have l3:=hfk.1;have d1:=ES (jI x.aD[k].Items) (by omega);have d2:=ES (jJ x.aD[k].Items) (by omega);have ih:=RR x (worlds:=worlds) hX hf n (k+1) (faces++[x.aD[k].Name]) (by omega) (by omega) (by rw[aE,List.length_singleton];omega);rw[kx q,nf];simp only[fS q,bN,dT _ q,ad,agx _ hfk,d1,d2,ak,an,bu,dS q,aj,qe (show k<=1000000 by omega),dH (show faces.length<=1000 by omega),ih];unfold vX;cases nodupB (jI x.aD[k].Items)
   ·simp only[bo,bu,ad,Bool.and_false,cJ,al]
   ·cases nodupB (jJ x.aD[k].Items)
    ·simp only[bo,b9,ek,ad,Bool.and_false,cJ,al]
    ·simp only[b9,pD,al,aj,bj,eQ,fX,List.singleton_append]
  ·simp only[lJ q,al];rw[List.drop_eq_nil_of_le q];simp
theorem RS(x:aw){faces:List (List UInt8)}(hX:x.Worlds.length<=8):∀(n k:Nat)(worlds:List (List UInt8)),x.Worlds.length-k<n->k<=x.Worlds.length->worlds.length+(x.Worlds.length-k)<=1000->
 M.yw x faces n (k:Int) worlds=some (faces,worlds++(x.Worlds.drop k).map (·.Name))
 |0,k,_,h,_,_=>by omega
 |n+1,k,worlds,h,hk,hb=>by
  rw[M.yw];rcases cQ k x.Worlds.length with q|q
  ·have ih:=RS x (faces:=faces) hX n (k+1) (worlds++[x.Worlds[k].Name]) (by omega) (by omega) (by rw[aE,List.length_singleton];omega);simp only[fS q,bN,dT _ q,ad,dS q,aj,qe (show k<=1000000 by omega),dH (show worlds.length<=1000 by omega),ih];rw[kx q,eQ,fX,List.singleton_append]
  ·simp only[lJ q,al];rw[List.drop_eq_nil_of_le q];simp
theorem agy(p:aw)(hp:EU p):M.yn p=some (mm p):=by
 obtain⟨h1,h2,h3⟩:=hp;have e1:=RR p (worlds:=[]) h1 h3 ae 0 [] (by have:=bf;omega) (cM _) (by simp;omega);have e2:=RS p (faces:=p.aD.map (·.Name)) h2 ae 0 [] (by have:=bf;omega) (cM _) (by simp;omega);rw[show((0:Nat):Int)=0 from rfl,jj,eP]at e1 e2;have d1:=ES (p.aD.map (·.Name)) (by rw[eJ];omega);have d2:=ES (p.Worlds.map (·.Name)) (by rw[eJ];omega);unfold M.yn mm;rw[e1];cases p.aD.all vX
 ·rfl
 ·simp only[ad,e2,d1,d2,ak,an,bu,aj,bj,Bool.not_not]
end M
namespace M
open Go.V (inB bS ae bf)
theorem vY{α:Type}{P:α->Prop}(l:List af)(el:Nat->PR α)(he:∀k v k',el k=.ok v k'->P v):∀(m:Nat)(acc:List α)(k:Nat)(vs:List α)(k':Nat),(∀v∈acc,P v)->dL l el m acc k=.ok vs k'->vs.length<=acc.length+m+1/\∀v∈vs,P v
 |m,acc,k,vs,k',ha,h=>by
  rw[dL.eq_def]at h;dsimp only at h;have one:∀v k1,el k=.ok v k1->∀w∈acc++[v],P w:=fun v k1 e w hw=>by
   rcases de.1 hw with q|q
   ·exact ha w q
   ·rw[eI.1 q];exact he _ _ _ e
  cases hk:el k with
  |no q=>rw[hk]at h;cases h
  |ok v k1=>
   rw[hk]at h;cases m with
   |zero=>
    cases h;exact⟨by rw[aE,List.length_singleton];omega,one v _ hk⟩
   |succ m=>
    simp only at h;cases hc:aA l [44] k1<;>rw[hc]at h
    ·cases h;exact⟨by rw[aE,List.length_singleton];omega,one v _ hk⟩
    ·have:=vY l el he m (acc++[v]) (k1+1) vs k' (one v k1 hk) h;rw[aE,List.length_singleton]at this;exact⟨by omega,this.2⟩
theorem Bi{α:Type}{P:α->Prop}(l:List af)(el:Nat->PR α)(he:∀k v k',el k=.ok v k'->P v):∀(m:Nat)(acc:List α)(k:Nat)(vs:List α)(k':Nat),(∀v∈acc,P v)->fM l el m acc k=.ok vs k'->vs.length<=acc.length+m/\∀v∈vs,P v
 |0,acc,k,vs,k',ha,h=>by
  rw[fM]at h;obtain⟨_,_,_,h⟩:=bind_ok h;cases h;exact⟨by omega,ha⟩
 |m+1,acc,k,vs,k',ha,h=>by
  rw[fM]at h;cases hc:aA l [125] k<;>rw[hc]at h
  ·obtain⟨v,k1,hk,h⟩:=bind_ok h;have:=Bi l el he m (acc++[v]) k1 vs k' (fun w hw=>by
    rcases de.1 hw with q|q
    ·exact ha w q
    ·rw[eI.1 q];exact he _ _ _ hk) h
   rw[aE,List.length_singleton]at this;exact⟨by omega,this.2⟩
  ·cases h;exact⟨by omega,ha⟩
theorem Bj{P:aG->Prop}{Q:aQ->Prop}(l:List af)(hP:∀k v k',kX l k=.ok v k'->P v)(hQ:∀k v k',nO l k=.ok v k'->Q v):∀(m:Nat)(fs:List aG)(ws:List aQ)(k:Nat)(v:List aG×List aQ)(k':Nat),
 fs.length<=8->ws.length<=8->(∀f∈fs,P f)->(∀w∈ws,Q w)->dZ l m fs ws k=.ok v k'->v.1.length<=8/\v.2.length<=8/\(∀f∈v.1,P f)/\∀w∈v.2,Q w
 |0,fs,ws,k,v,k',h1,h2,h3,h4,h=>by
  rw[dZ]at h;cases hK:((bp l k).Kind==4)<;>rw[hK]at h
  ·cases h
  ·cases h;exact⟨h1,h2,h3,h4⟩
 |m+1,fs,ws,k,v,k',h1,h2,h3,h4,h=>by
  rw[dZ]at h;cases hK:((bp l k).Kind==4)<;>rw[hK]at h
  ·simp only[al]at h;cases hF:(decide (((fs.length:Nat):Int)<8)&&aA l lI k)<;>rw[hF]at h
   ·simp only[al]at h;cases hW:(decide (((ws.length:Nat):Int)<8)&&aA l mT k)<;>rw[hW]at h
    ·cases h
    ·simp only[ad]at h;obtain⟨w,k1,hk,h⟩:=bind_ok h;have h8:=lS (Bool.and_eq_true_iff.1 hW).1;exact Bj l hP hQ m fs (ws++[w]) k1 v k' h1 (by rw[aE,List.length_singleton];omega) h3 (fun x hx=>by
      rcases de.1 hx with q|q
      ·exact h4 x q
      ·rw[eI.1 q];exact hQ _ _ _ hk) h
   ·simp only[ad]at h;obtain⟨f,k1,hk,h⟩:=bind_ok h;have h8:=lS (Bool.and_eq_true_iff.1 hF).1;exact Bj l hP hQ m (fs++[f]) ws k1 v k' (by rw[aE,List.length_singleton];omega) h2 (fun x hx=>by
     rcases de.1 hx with q|q
     ·exact h3 x q
     ·rw[eI.1 q];exact hP _ _ _ hk) h4 h
  ·cases h;exact⟨h1,h2,h3,h4⟩
theorem agz(l:List af)(nm:List UInt8)(k:Nat)(v:ai)(k':Nat)(h:ml l nm k=.ok v k'):v.Kind=3/\v.Uses=[]:=by
 have:∀as k,nJ l nm as k=.ok v k'->v.Kind=3/\v.Uses=[]:=fun as k h=>by
  unfold nJ at h;obtain⟨_,_,_,h⟩:=bind_ok h;obtain⟨_,_,_,h⟩:=bind_ok h;obtain⟨_,_,_,h⟩:=bind_ok h;cases h;exact⟨rfl,rfl⟩
 unfold ml at h;cases hc:aA l qa k<;>rw[hc]at h<;>exact this _ _ h
theorem agA(l:List af)(k:Nat)(v:ai)(k':Nat)(h:jH l k=.ok v k'):v.Uses.length<=16/\1<=v.Kind/\v.Kind<=4:=by
 unfold jH nK at h;obtain⟨x,k1,hx,h⟩:=bind_ok h;obtain⟨_,_,_,h⟩:=bind_ok h;cases h;obtain⟨nm,k2,_,hx⟩:=bind_ok hx;unfold kf at hx;cases kg:aA l [58] k2<;>rw[kg]at hx
 ·cases hR:(nm==nI)<;>rw[hR]at hx
  ·cases hY:(nm==qb)<;>rw[hY]at hx
   ·cases hU:(nm==qc)<;>rw[hU]at hx
    ·cases hx
    ·simp only[ad,al]at hx;unfold rM at hx;obtain⟨_,_,_,hx⟩:=bind_ok hx;obtain⟨_,_,_,hx⟩:=bind_ok hx;obtain⟨_,_,_,hx⟩:=bind_ok hx;obtain⟨us,_,hu,hx⟩:=bind_ok hx;obtain⟨_,_,_,hx⟩:=bind_ok hx;cases hx;have:=(vY (P:=fun _=>True) l _ (fun _ _ _ _=>trivial) 15 [] _ us _ (fun _ _=>trivial) hu).1;exact⟨by simpa using this,by show(1:Int)<=4;decide,by show(4:Int)<=4;decide⟩
   ·simp only[ad,al]at hx;obtain⟨_,_,_,hx⟩:=bind_ok hx;obtain⟨_,_,_,hx⟩:=bind_ok hx;obtain⟨_,_,_,hx⟩:=bind_ok hx;cases hx;exact⟨by simp,by show(1:Int)<=2;decide,by show(2:Int)<=4;decide⟩
  ·simp only[ad,al]at hx;obtain⟨_,_,_,hx⟩:=bind_ok hx;cases hx;exact⟨by simp,by show(1:Int)<=1;decide,by show(1:Int)<=4;decide⟩
 ·obtain⟨e1,e2⟩:=agz l _ _ _ _ hx;rw[e1,e2];exact⟨by simp,by decide,by decide⟩
theorem agB(l:List af)(k:Nat)(v:aG)(k':Nat)(h:kX l k=.ok v k'):yq v:=by
 unfold kX at h;obtain⟨_,_,_,h⟩:=bind_ok h;obtain⟨_,_,_,h⟩:=bind_ok h;obtain⟨xs,_,hx,h⟩:=bind_ok h;cases h;have:=Bi (P:=fun v:ai=>v.Uses.length<=16/\1<=v.Kind/\v.Kind<=4) l (jH l) (agA l) 16 [] _ xs _ (by simp) hx;exact⟨by simpa using this.1,this.2⟩
theorem agC(l:List af)(k:Nat)(p:aw)(k':Nat)(h:gk l k=.ok p k'):EU p:=by
 unfold gk at h;obtain⟨_,_,_,h⟩:=bind_ok h;obtain⟨_,_,_,h⟩:=bind_ok h;obtain⟨_,_,_,h⟩:=bind_ok h;obtain⟨_,_,_,h⟩:=bind_ok h;obtain⟨_,_,_,h⟩:=bind_ok h;obtain⟨q,k6,h6,h⟩:=bind_ok h;cases h;have:=Bj (P:=yq) (Q:=fun _=>True) l (agB l) (fun _ _ _ _=>trivial) 16 [] [] _ q _ (by simp) (by simp) (by simp) (by simp) h6;exact⟨this.1,this.2.1,this.2.2.1⟩
theorem RU(s:List UInt8)(p:aw)(h:fN s=.inr p):EU p:=by
 unfold fN at h;split at h
 ·split at h
  ·cases h
  ·rename_i hp;cases h;exact agC _ _ _ _ hp
 ·cases h
def noPack:aw:=aw.mk [] [] [] []
noncomputable def je(s:List UInt8):aw×Int×Int:=match fN s with
 |.inl e=>(noPack,e.1,e.2)
 |.inr p=>bif mm p then(p,0,0)else(noPack,0,1)
theorem agD(s:List UInt8):M.tQ s=some (je s):=by
 rw[agt s mm fun p hp=>agy p (RU s p hp)];rfl
theorem EW(s:List UInt8):M.nQ s=some (je s):=by
 have h:=RH s;unfold M.nQ je;cases hw:fN s with
 |inl e=>
  rw[hw]at h;obtain⟨h0,n,v,fs,ws,h1⟩:=h;have e0:(e.2 !=0)=true:=by rw[pE];exact h0
  simp only[h1,e0,ak,an,ad,aj];rfl
 |inr p=>
  rw[hw]at h;have h:M.qd s [] [] [] []=some (0,0,aw.Name p,aw.Version p,aw.aD p,aw.Worlds p):=h;have e0:((0:Int) !=0)=false:=rfl;have ep:aw.mk (aw.Name p) (aw.Version p) (aw.aD p) (aw.Worlds p)=p:=rfl;simp only[h,e0,ep,agw p (RU s p hw),ak,an,al,ad,aj];cases mm p<;>rfl
end M
