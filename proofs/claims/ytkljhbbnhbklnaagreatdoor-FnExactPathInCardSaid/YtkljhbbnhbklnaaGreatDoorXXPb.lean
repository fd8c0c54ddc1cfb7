/-
  FUNCTIONS and items: both readers.
-/
import Derived.Test.YtkljhbbnhbklnaaGreatDoorXXPa
set_option linter.unusedVariables false
set_option linter.unusedSimpArgs false
namespace M
open Go.V (inB bV ah bq)
def qL:List UInt8:=[97,115,121,110,99]
def An:List UInt8:=[102,117,110,99]
def mR:List UInt8:=[114,101,115,111,117,114,99,101]
def oV:List UInt8:=[116,121,112,101]
def oW:List UInt8:=[117,115,101]
def jz:aQ:=aQ.mk [] [] []
def lN:aa:=aa.mk 0 [] [] []
def xu(l:List aj)(k:Nat):PR (List aA):=(cq l [40] k).bind fun _ k1=>
 bif aH l [41] k1 then .ok [] (k1+1)else(dV l (kr l) 5 [] k1).bind fun ps k2=>(cq l [41] k2).bind fun _ k3=>.ok ps k3
def Ao(l:List aj)(k:Nat):PR aa:=bif aH l [45,62] k then dY l 4 (k+1)else .ok dG k
def qM(l:List aj)(nm:List UInt8)(as:Bool)(k:Nat):PR af:=
 (cq l An k).bind fun _ k1=>(xu l k1).bind fun ps k2=>(Ao l k2).bind fun t k3=>.ok (af.mk 3 nm t ps as jz []) k3
def nK(l:List aj)(nm:List UInt8)(k:Nat):PR af:=bif aH l qL k then qM l nm true (k+1)else qM l nm false k
def xw(l:List aj)(k:Nat):PR af:=(oU l k).bind fun p k1=>(cq l [46] k1).bind fun _ k2=>(cq l [123] k2).bind fun _ k3=>
 (dV l (md l) 15 [] k3).bind fun us k4=>(cq l [125] k4).bind fun _ k5=>.ok (af.mk 4 [] lN [] false p us) k5
def kU(l:List aj)(nm:List UInt8)(k1:Nat):PR af:=
 bif aH l [58] k1 then nK l nm (k1+1)
 else bif nm==mR then(ma l k1).bind fun n k2=>.ok (af.mk 1 n lN [] false jz []) k2
 else bif nm==oV then(ma l k1).bind fun n k2=>(cq l [61] k2).bind fun _ k3=>(dY l 4 k3).bind fun t k4=>.ok (af.mk 2 n t [] false jz []) k4
 else bif nm==oW then xw l k1
 else .no k1
def nL(l:List aj)(k:Nat):PR af:=(gQ l k).bind (kU l)
theorem MW{l:List aj}(hL:bW l){k:Nat}(hk:k<l.length){t:List UInt8}(hn:sr t)(b:Bool):
 ∃c k' b',k'<l.length/\M.eE t (ip l k b)=some (c,ip l k' b')/\(c=true->k'=k+1/\b'=false)/\(c=false->k'=k/\b'=b)/\∀(α:Type)(x y:PR α),RB b k (bif aH l t k then x else y)=RB b' k' (bif c then x else y):=by
 rw[iP hL hk hn b];cases h:(!b&&aH l t k)
 ·exact⟨false,k,b,hk,rfl,(fun q=>by cases q),(fun _=>⟨rfl,rfl⟩),fun α x y=>by rw[mN h];rfl⟩
 ·obtain⟨h2,hb⟩:=mO hL hk h;subst hb;exact⟨true,k+1,false,h2,rfl,(fun _=>⟨rfl,rfl⟩),(fun q=>by cases q),fun α x y=>by rw[lJ h];rfl⟩
theorem TF{l:List aj}(hL:bW l){k:Nat}(hk:k<l.length)(t:List UInt8)(b:Bool):
 ∃c k' b',k'<l.length/\M.dI t (sp l k b)=some (c,sp l k' b')/\(c=true->k'=k+1/\b'=false)/\(c=false->k'=k/\b'=b)/\∀(α:Type)(x y:PR α),RB b k (bif aH l t k then x else y)=RB b' k' (bif c then x else y):=by
 rw[fh hL hk t b];cases h:(!b&&aH l t k)
 ·exact⟨false,k,b,hk,rfl,(fun q=>by cases q),(fun _=>⟨rfl,rfl⟩),fun α x y=>by rw[mN h];rfl⟩
 ·obtain⟨h2,hb⟩:=mO hL hk h;subst hb;exact⟨true,k+1,false,h2,rfl,(fun _=>⟨rfl,rfl⟩),(fun q=>by cases q),fun α x y=>by rw[lJ h];rfl⟩
theorem xx{l:List aj}{nm:List UInt8}{k1 k2:Nat}{b1 b2 as:Bool}(t2:as=true->k2=k1+1/\b2=false)(f2:as=false->k2=k1/\b2=b1)
 (r2:∀(α:Type)(x y:PR α),RB b1 k1 (bif aH l qL k1 then x else y)=RB b2 k2 (bif as then x else y)):RB b1 k1 (nK l nm k1)=RB b2 k2 (qM l nm as k2):=by
 unfold nK;rw[r2];cases as
 ·rw[(f2 rfl).1];rfl
 ·rw[(t2 rfl).1];rfl
theorem xy{l:List aj}{k1 k2:Nat}{b1 b2 as:Bool}(t2:as=true->k2=k1+1/\b2=false)(f2:as=false->k2=k1/\b2=b1)
 (r2:∀(α:Type)(x y:PR α),RB b1 k1 (bif aH l [45,62] k1 then x else y)=RB b2 k2 (bif as then x else y)):RB b1 k1 (Ao l k1)=RB b2 k2 (bif as then dY l 4 k2 else .ok dG k2):=by
 unfold Ao;rw[r2];cases as
 ·rw[(f2 rfl).1];rfl
 ·rw[(t2 rfl).1];rfl
theorem TG{l:List aj}(hL:bW l)(hT:∀t∈l,t.Text.length<=30000)(nm:List UInt8){k:Nat}(hk:k<l.length)(b:Bool):
 ∃v k' b',k'<l.length/\At (RB b k ((cq l [58] k).bind fun _ k1=>nK l nm k1)) v k' b'/\M.xz nm (ip l k b)=some (v,ip l k' b'):=by
 obtain⟨k1,b1,h1,a1,e1⟩:=jy hL hk (cP 58 (by decide)) b;obtain⟨as,k2,b2,h2,e2,t2,f2,r2⟩:=MW hL h1 (t:=qL) (fun d r e=>by cases e;decide) b1;obtain⟨k3,b3,h3,a3,e3⟩:=jy hL h2 (t:=An) (fun d r e=>by cases e;decide) b2;obtain⟨k4,b4,h4,a4,e4⟩:=jy hL h3 (cP 40 (by decide)) b3;have e5:=zX hL h4 (cP 41 (by decide)) b4;unfold qL at e2;unfold An at e3;unfold M.xz;simp only[e1,e2,e3,e4,e5,av,aw,al];cases oS:(!b4&&aH l [41] k4)
 ·obtain⟨ps,k5,b5,h5,a5,e6⟩:=ajM hL hT 3 nm 1 [] as [] [] [] [] [] [] h4 b4;obtain⟨k6,b6,h6,a6,e7⟩:=jy hL h5 (cP 41 (by decide)) b5;obtain⟨c,k7,b7,h7,e8,t7,f7,r7⟩:=MW hL h6 (t:=[45,62]) (fun d r e=>by cases e;decide) b6;have sA:At (RB b3 k3 (xu l k3)) ps k6 b6:=by
   refine a4.bL ?_;rw[mN oS];exact a5.bL (a6.bL (At.ret _ _ _))
  simp only[bw,ad,e6,e7,e8,av,aw,al];cases c
  ·refine⟨af.mk 3 nm dG ps as jz [],k7,b7,h7,a1.bL ?_,rfl⟩;rw[xx t2 f2 r2];refine a3.bL (sA.bL ?_);rw[va,xy t7 f7 r7];exact At.bind (At.ret _ _ _) (At.ret _ _ _)
  ·obtain⟨v,k8,b8,h8,a8,e9⟩:=Fh hL hT h7 b7;refine⟨af.mk 3 nm v ps as jz [],k8,b8,h8,a1.bL ?_,?_⟩
   ·rw[xx t2 f2 r2];refine a3.bL (sA.bL ?_);rw[va,xy t7 f7 r7];exact At.bind a8 (At.ret _ _ _)
   ·simp only[ad,e9,av,aw,al,aa.aB];rfl
 ·obtain⟨h5,hb⟩:=mO hL h4 oS;subst hb;have e7:M.dk [41] (ip l k4 false)=some (ip l (k4+1) false):=by rw[eY hL h4 (cP 41 (by decide)),oS];rfl
  obtain⟨c,k7,b7,h7,e8,t7,f7,r7⟩:=MW hL h5 (t:=[45,62]) (fun d r e=>by cases e;decide) false;have sA:At (RB b3 k3 (xu l k3)) [] (k4+1) false:=by
   refine a4.bL ?_;rw[lJ oS];exact Or.inl ⟨rfl,rfl⟩
  simp only[bM,ak,e7,e8,av,aw,al];cases c
  ·refine⟨af.mk 3 nm dG [] as jz [],k7,b7,h7,a1.bL ?_,rfl⟩;rw[xx t2 f2 r2];refine a3.bL (sA.bL ?_);rw[va,xy t7 f7 r7];exact At.bind (At.ret _ _ _) (At.ret _ _ _)
  ·obtain⟨v,k8,b8,h8,a8,e9⟩:=Fh hL hT h7 b7;refine⟨af.mk 3 nm v [] as jz [],k8,b8,h8,a1.bL ?_,?_⟩
   ·rw[xx t2 f2 r2];refine a3.bL (sA.bL ?_);rw[va,xy t7 f7 r7];exact At.bind a8 (At.ret _ _ _)
   ·simp only[ad,e9,av,aw,al,aa.aB];rfl
theorem ajR{l:List aj}(hL:bW l)(hT:∀t∈l,t.Text.length<=30000){k:Nat}(hk:k<l.length)(b:Bool):
 ∃v k' b',k'<l.length/\At (RB b k (xu l k)) v k' b'/\M.Ap (sp l k b)=some (v,sp l k' b'):=by
 obtain⟨k4,b4,h4,a4,e4⟩:=kq hL hk [40] b;unfold M.Ap;simp only[e4,fh hL h4 [41] b4,av,aw,al];cases oS:(!b4&&aH l [41] k4)
 ·simp only[ak];cases b4 with
  |true=>
   refine⟨[],k4,true,h4,a4.bL (At.no _ _ _),?_⟩;obtain⟨n,hn⟩:∃n,ah=n+1:=⟨ah-1,by have:=bq;omega⟩;rw[hn,M.mQ];rfl
  |false=>
   obtain⟨vs,k',b',h1,a1,e1⟩:=ajP hL hT ah 5 [] k4 (by have:=bq;omega) h4 rfl;refine⟨vs,k',b',h1,a4.bL ?_,?_⟩
   ·rw[mN oS,show ∀r:PR (List aA),RB false k4 r=r from fun _=>rfl];rw[Ai l _ [41] (by decide)]at a1;exact a1
   ·rw[e1];rfl
 ·obtain⟨h5,hb⟩:=mO hL h4 oS;subst hb;refine⟨[],k4+1,false,h5,a4.bL ?_,rfl⟩;rw[lJ oS];exact Or.inl ⟨rfl,rfl⟩
theorem ajS{l:List aj}(hL:bW l)(hT:∀t∈l,t.Text.length<=30000)(nm:List UInt8){k1:Nat}(h1:k1<l.length)(b1:Bool):
 ∃v k' b',k'<l.length/\At (RB b1 k1 (nK l nm k1)) v k' b'/\M.Aq nm (sp l k1 b1)=some (v,sp l k' b'):=by
 obtain⟨as,k2,b2,h2,e2,t2,f2,r2⟩:=TF hL h1 qL b1;obtain⟨k3,b3,h3,a3,e3⟩:=kq hL h2 An b2;obtain⟨ps,k6,b6,h6,sA,e4⟩:=ajR hL hT h3 b3;obtain⟨c,k7,b7,h7,e8,t7,f7,r7⟩:=TF hL h6 [45,62] b6;unfold qL at e2;unfold An at e3;unfold M.Aq;simp only[e2,e3,e4,e8,av,aw,al];cases c
 ·refine⟨af.mk 3 nm dG ps as jz [],k7,b7,h7,?_,rfl⟩;rw[xx t2 f2 r2];refine a3.bL (sA.bL ?_);rw[va,xy t7 f7 r7];exact At.bind (At.ret _ _ _) (At.ret _ _ _)
 ·obtain⟨v,k8,b8,h8,a8,e9⟩:=MS hL hT h7 b7;refine⟨af.mk 3 nm v ps as jz [],k8,b8,h8,?_,?_⟩
  ·rw[xx t2 f2 r2];refine a3.bL (sA.bL ?_);rw[va,xy t7 f7 r7];exact At.bind a8 (At.ret _ _ _)
  ·simp only[ad,e9,av,aw,al,aa.aB];rfl
end M
namespace M
open Go.V (inB bV ah bq)
theorem ajT{l:List aj}(hL:bW l)(hT:∀t∈l,t.Text.length<=30000){k:Nat}(hk:k<l.length)(b:Bool):
 ∃p us k1 b1 k2 b2 k3 b3 k4 b4 k5 b5,k5<l.length/\M.mP (ip l k b)=some (p,ip l k1 b1)/\M.dk [46] (ip l k1 b1)=some (ip l k2 b2)/\M.dk [123] (ip l k2 b2)=some (ip l k3 b3)/\
  M.ve 16 (ip l k3 b3) 4 [] 0 [] false (aQ.aJ p) (aQ.Name p) (aQ.Version p) [] [] [] []=some (ip l k4 b4,4,[],0,[],false,aQ.aJ p,aQ.Name p,aQ.Version p,[],[],[],us)/\
  M.dk [125] (ip l k4 b4)=some (ip l k5 b5)/\At (RB b k (xw l k)) (af.mk 4 [] lN [] false p us) k5 b5:=by
 obtain⟨p,k1,b1,h1,a1,e1⟩:=MU hL hT hk b;obtain⟨k2,b2,h2,a2,e2⟩:=jy hL h1 (cP 46 (by decide)) b1;obtain⟨k3,b3,h3,a3,e3⟩:=jy hL h2 (cP 123 (by decide)) b2;obtain⟨us,k4,b4,h4,a4,e4⟩:=ajO hL hT 4 [] 0 [] false (aQ.aJ p) (aQ.Name p) (aQ.Version p) [] [] [] h3 b3;obtain⟨k5,b5,h5,a5,e5⟩:=jy hL h4 (cP 125 (by decide)) b4;exact⟨p,us,k1,b1,k2,b2,k3,b3,k4,b4,k5,b5,h5,e1,e2,e3,e4,e5,a1.bL (a2.bL (a3.bL (a4.bL (a5.bL (At.ret _ _ _)))))⟩
theorem ajU{l:List aj}(hL:bW l)(hT:∀t∈l,t.Text.length<=30000){k:Nat}(hk:k<l.length)(b:Bool):
 ∃v k' b',k'<l.length/\At (RB b k (nL l k)) v k' b'/\M.Ar (ip l k b)=some (v,ip l k' b'):=by
 obtain⟨v1,k1,b1,h1,a1,e1,-⟩:=vc hL hT hk b;unfold M.Ar;simp only[e1,ic,av,aw,al];cases b1 with
 |true=>
  obtain⟨v,k',b',h,a,e⟩:=TG hL hT v1 h1 true;have a':At (PR.no k1) v k' b':=a;refine⟨v,k',b',h,a1.bL (f:=kU l) a',?_⟩;simp only[ad,e,av,aw,al,da,af.aB]
 |false=>
  have e2:=zX hL h1 (cP 58 (by decide)) false;simp only[ak,e2,av,aw,al,bw,bA,da];cases jA:aH l [58] k1
  ·simp only[ak];cases hR:(v1==[114,101,115,111,117,114,99,101])
   ·simp only[ak];cases hY:(v1==[116,121,112,101])
    ·simp only[ak];cases hU:(v1==[117,115,101])
     ·refine⟨af.mk 0 [] lN [] false jz [],k1,true,h1,a1.bL ?_,rfl⟩;unfold kU mR oV oW;rw[jA,hR,hY,hU];exact Or.inr ⟨rfl,rfl⟩
     ·obtain⟨p,us,k2,b2,k3,b3,k4,b4,k5,b5,k6,b6,h6,f1,f2,f3,f4,f5,a6⟩:=ajT hL hT h1 false;refine⟨af.mk 4 [] lN [] false p us,k6,b6,h6,a1.bL ?_,?_⟩
      ·unfold kU mR oV oW;rw[jA,hR,hY,hU];exact a6
      ·simp only[ad,f1,f2,f3,f4,f5,av,aw,al];rfl
    ·obtain⟨v2,k2,b2,h2,a2,f2,-⟩:=Ff hL hT h1 false;obtain⟨k3,b3,h3,a3,f3⟩:=jy hL h2 (cP 61 (by decide)) b2;obtain⟨v4,k4,b4,h4,a4,f4⟩:=Fh hL hT h3 b3;refine⟨af.mk 2 v2 v4 [] false jz [],k4,b4,h4,a1.bL ?_,?_⟩
     ·unfold kU mR oV oW;rw[jA,hR,hY];exact a2.bL (a3.bL (a4.bL (At.ret _ _ _)))
     ·simp only[ad,f2,f3,f4,av,aw,al,aa.aB];rfl
   ·obtain⟨v2,k2,b2,h2,a2,f2,-⟩:=Ff hL hT h1 false;refine⟨af.mk 1 v2 lN [] false jz [],k2,b2,h2,a1.bL ?_,?_⟩
    ·unfold kU mR;rw[jA,hR];exact a2.bL (At.ret _ _ _)
    ·simp only[ad,f2,av,aw,al];rfl
  ·obtain⟨v,k',b',h,a,e⟩:=TG hL hT v1 h1 false;refine⟨v,k',b',h,a1.bL ?_,?_⟩
   ·unfold kU;unfold cq at a;rw[jA]at a⊢;exact a
   ·simp only[ad,e,av,aw,al,af.aB]
theorem ajV{l:List aj}(hL:bW l)(hT:∀t∈l,t.Text.length<=30000){k:Nat}(hk:k<l.length)(b:Bool):
 ∃v k' b',k'<l.length/\At (RB b k (xw l k)) v k' b'/\M.Au (sp l k b)=some (v,sp l k' b'):=by
 obtain⟨p,k1,b1,h1,a1,e1⟩:=MV hL hT hk b;obtain⟨k2,b2,h2,a2,e2⟩:=kq hL h1 [46] b1;obtain⟨k3,b3,h3,a3,e3⟩:=kq hL h2 [123] b2;unfold M.Au;simp only[e1,e2,e3,av,aw,al];cases b3 with
 |true=>
  refine⟨af.mk 4 [] lN [] false p [],k3,true,h3,a1.bL (a2.bL (a3.bL (At.no _ _ _))),?_⟩;obtain⟨n,hn⟩:∃n,ah=n+1:=⟨ah-1,by have:=bq;omega⟩;rw[hn,M.lM];rfl
 |false=>
  obtain⟨us,k',b',h4,a4,e4⟩:=ajQ hL hT (aQ.aJ p) (aQ.Name p) (aQ.Version p) ah 15 [] k3 (by have:=bq;omega) h3 rfl;rw[Ai l _ [125] (by decide)]at a4;refine⟨af.mk 4 [] lN [] false p us,k',b',h4,a1.bL (a2.bL (a3.bL ?_)),?_⟩
  ·rw[show ∀r:PR af,RB false k3 r=r from fun _=>rfl];generalize hr:dV l (md l) 15 [] k3=r at a4⊢;cases r with
   |no q=>
    rcases a4 with⟨q1,q2⟩|⟨q1,q2⟩
    ·cases q1
    ·cases q1;exact Or.inr ⟨rfl,q2⟩
   |ok us' q=>
    simp only[PR.bind]at a4⊢;cases hn:cq l [125] q with
    |no q'=>
     rw[hn]at a4;rcases a4 with⟨q1,q2⟩|⟨q1,q2⟩
     ·cases q1
     ·cases q1;exact Or.inr ⟨rfl,q2⟩
    |ok u q'=>
     rw[hn]at a4;rcases a4 with⟨q1,q2⟩|⟨q1,q2⟩
     ·cases q1;exact Or.inl ⟨rfl,q2⟩
     ·cases q1
  ·rw[e4];rfl
def kt(l:List aj)(k:Nat):PR af:=(nL l k).bind fun x k1=>(cq l [59] k1).bind fun _ k2=>.ok x k2
theorem TI{l:List aj}(hL:bW l)(hT:∀t∈l,t.Text.length<=30000){k:Nat}(hk:k<l.length)(b:Bool):
 ∃v k' b',k'<l.length/\At (RB b k (kt l k)) v k' b'/\M.Av (sp l k b)=some (v,sp l k' b'):=by
 obtain⟨v1,k1,b1,h1,a1,e1,z1⟩:=vd hL hT hk b;unfold M.Av;simp only[e1,fh hL h1 [58] b1,av,aw,al];cases b1 with
 |true=>
  rw[z1 rfl];refine⟨af.mk 0 [] lN [] false jz [],k1,true,h1,At.bL (r:=nL l k) (v:=af.mk 0 [] lN [] false jz []) (a1.bL (At.no _ _ _)) (At.no _ _ _),?_⟩;have f0:(([]:List UInt8)==[114,101,115,111,117,114,99,101])=false:=rfl;have f1:(([]:List UInt8)==[116,121,112,101])=false:=rfl;have f2:(([]:List UInt8)==[117,115,101])=false:=rfl;simp only[bM,cG,ak,f0,f1,f2,ja,jb,ko,gz hL h1 [59] true,aw,al,ad];rfl
 |false=>
  simp only[bw,bA];cases jA:aH l [58] k1
  ·simp only[ak];cases hR:(v1==[114,101,115,111,117,114,99,101])
   ·simp only[ak];cases hY:(v1==[116,121,112,101])
    ·simp only[ak];cases hU:(v1==[117,115,101])
     ·refine⟨af.mk 0 [] lN [] false jz [],k1,true,h1,At.bL (r:=nL l k) (v:=af.mk 0 [] lN [] false jz []) (k1:=k1) (b1:=true) (a1.bL ?_) (At.no _ _ _),?_⟩
      ·unfold kU mR oV oW;rw[jA,hR,hY,hU];exact Or.inr ⟨rfl,rfl⟩
      ·simp only[ak,ja,jb,ko,gz hL h1 [59] true,aw,al,ad];rfl
     ·obtain⟨v2,k2,b2,h2,a2,f2⟩:=ajV hL hT h1 false;obtain⟨k3,b3,h3,a3,f3⟩:=kq hL h2 [59] b2;refine⟨v2,k3,b3,h3,At.bL (r:=nL l k) (a1.bL ?_) (a3.bL (At.ret _ _ _)),?_⟩
      ·unfold kU mR oV oW;rw[jA,hR,hY,hU];exact a2
      ·simp only[ad,f2,f3,av,aw,al,af.aB]
    ·obtain⟨v2,k2,b2,h2,a2,f2,-⟩:=Fg hL hT h1 false;obtain⟨k3,b3,h3,a3,f3⟩:=kq hL h2 [61] b2;obtain⟨v4,k4,b4,h4,a4,f4⟩:=MS hL hT h3 b3;obtain⟨k5,b5,h5,a5,f5⟩:=kq hL h4 [59] b4;refine⟨af.mk 2 v2 v4 [] false jz [],k5,b5,h5,At.bL (r:=nL l k) (a1.bL ?_) (a5.bL (At.ret _ _ _)),?_⟩
     ·unfold kU mR oV oW;rw[jA,hR,hY];exact a2.bL (a3.bL (a4.bL (At.ret _ _ _)))
     ·simp only[ad,f2,f3,f4,f5,av,aw,al,aa.aB];rfl
   ·obtain⟨v2,k2,b2,h2,a2,f2,-⟩:=Fg hL hT h1 false;obtain⟨k3,b3,h3,a3,f3⟩:=kq hL h2 [59] b2;refine⟨af.mk 1 v2 lN [] false jz [],k3,b3,h3,At.bL (r:=nL l k) (a1.bL ?_) (a3.bL (At.ret _ _ _)),?_⟩
    ·unfold kU mR;rw[jA,hR];exact a2.bL (At.ret _ _ _)
    ·simp only[ad,f2,f3,av,aw,al];rfl
  ·obtain⟨v2,k2,b2,h2,a2,f2⟩:=ajS hL hT v1 (cU hL h1 jA) false;obtain⟨k3,b3,h3,a3,f3⟩:=kq hL h2 [59] b2;refine⟨v2,k3,b3,h3,At.bL (r:=nL l k) (a1.bL ?_) (a3.bL (At.ret _ _ _)),?_⟩
   ·unfold kU;rw[jA];exact a2
   ·simp only[ad,f2,f3,av,aw,al,af.aB]
end M
namespace M
open Go.V (inB bV ah bq)
def gC{α:Type}(l:List aj)(el:Nat->PR α):Nat->List α->Nat->PR (List α)
 |0,acc,k=>(cq l [125] k).bind fun _ k1=>.ok acc k1
 |m+1,acc,k=>bif aH l [125] k then .ok acc (k+1)else(el k).bind fun x k1=>gC l el m (acc++[x]) k1
def me(l:List aj)(k:Nat):PR aD:=(gQ l k).bind fun n k1=>(cq l [123] k1).bind fun _ k2=>(gC l (kt l) 16 [] k2).bind fun xs k3=>.ok (aD.mk n xs) k3
theorem ajW{l:List aj}(hL:bW l)(hT:∀t∈l,t.Text.length<=30000)(t2 x:List UInt8)(o5:List af):∀(f m:Nat)(acc:List af)(k:Nat)(b:Bool),m+1<f->k<l.length->acc.length+m=16->
 ∃vs k' b' k2 b2,k2<l.length/\M.xA t2 x o5 f (ip l k b) acc=some (ip l k' b',t2,x,o5,vs)/\M.dk [125] (ip l k' b')=some (ip l k2 b2)/\At (RB b k (gC l (kt l) m acc k)) vs k2 b2:=by
 intro f
 induction f with
 |zero=>intro m acc k b h;omega
 |succ f ih=>
  intro m acc k b hf hk hacc;rw[M.xA];cases b with
  |true=>
   refine⟨acc,k,true,k,true,hk,?_,?_,At.no _ _ _⟩
   ·simp only[ic,bM,Bool.and_false,ak,al,da,ad]
   ·rw[eY hL hk (cP 125 (by decide)) true];rfl
  |false=>
   cases m with
   |zero=>
    obtain⟨k2,b2,h2,a2,e2⟩:=jy hL hk (cP 125 (by decide)) false;refine⟨acc,k,false,k2,b2,h2,?_,e2,?_⟩
    ·rw[cQ (show ¬((acc.length:Nat):Int)<16 by omega)];simp only[ic,bw,cG,ak,al,da,ad]
    ·rw[gC];exact a2.bL (At.ret _ _ _)
   |succ m=>
    rw[db (show((acc.length:Nat):Int)<16 by omega),gC];simp only[ic,bw,bA,ad,zX hL hk (cP 125 (by decide)) false,av,aw,al,da];cases h:aH l [125] k
    ·obtain⟨v1,k1,b1,h1,a1,e1⟩:=ajU hL hT hk false;obtain⟨k2,b2,h2,a2,e2⟩:=jy hL h1 (cP 59 (by decide)) b1;obtain⟨vs,k3,b3,k4,b4,h4,e3,e4,a4⟩:=ih m (acc++[v1]) k2 b2 (by omega) h2 (by rw[aR,List.length_singleton];omega);refine⟨vs,k3,b3,k4,b4,h4,?_,e4,?_⟩
     ·simp only[bw,ad,e1,e2,av,aw,dH (show acc.length<=1000 by omega),al,af.aB,e3]
     ·simp only[ak];refine At.bL (r:=kt l k) (v:=v1) (k1:=k2) (b1:=b2) ?_ a4;unfold kt;exact a1.bL (a2.bL (At.ret _ _ _))
    ·refine⟨acc,k,false,k+1,false,cU hL hk h,?_,?_,?_⟩
     ·simp only[bM,ak,ad]
     ·rw[eY hL hk (cP 125 (by decide)) false,h];rfl
     ·exact Or.inl ⟨rfl,rfl⟩
theorem ajX{l:List aj}(hL:bW l)(hT:∀t∈l,t.Text.length<=30000){k:Nat}(hk:k<l.length)(b:Bool):
 ∃v k' b',k'<l.length/\At (RB b k (me l k)) v k' b'/\M.xB (ip l k b)=some (v,ip l k' b'):=by
 obtain⟨v1,k1,b1,h1,a1,e1,-⟩:=vc hL hT hk b;obtain⟨k2,b2,h2,a2,e2⟩:=jy hL h1 (cP 123 (by decide)) b1;obtain⟨vs,k3,b3,k4,b4,h4,e3,e4,a4⟩:=ajW hL hT [] v1 [] ah 16 [] k2 b2 (by have:=bq;omega) h2 rfl;refine⟨aD.mk v1 vs,k4,b4,h4,a1.bL (a2.bL (a4.bL (At.ret _ _ _))),?_⟩;unfold M.xB;simp only[e1,e2,e3,e4,av,aw,al,ad]
theorem ajY{l:List aj}(hL:bW l)(hT:∀t∈l,t.Text.length<=30000)(t2 x:List UInt8)(o5:List af):∀(f m:Nat)(acc:List af)(k:Nat)(b:Bool),m+1<f->k<l.length->acc.length+m=16->
 ∃vs k' b',k'<l.length/\At (RB b k (gC l (kt l) m acc k)) vs k' b'/\M.sH t2 x o5 f (sp l k b) acc=some (l,(k':Int),b',t2,x,o5,vs):=by
 intro f
 induction f with
 |zero=>intro m acc k b h;omega
 |succ f ih=>
  intro m acc k b hf hk hacc;obtain⟨f',rfl⟩:∃f',f=f'+1:=⟨f-1,by omega⟩;have hend:∀(f:Nat)(k:Nat)(xs:List af),M.sH t2 x o5 (f+1) (sp l k true) xs=some (l,(k:Int),true,t2,x,o5,xs):=fun f k xs=>by
   rw[M.sH];rfl
  cases b with
  |true=>exact⟨acc,k,true,hk,At.no _ _ _,hend _ k acc⟩
  |false=>
   rw[M.sH];simp only[iw,bw,ad,fh hL hk [125] false,bA,av,aw,al,da];cases h:aH l [125] k
   ·simp only[ak,bw,ad,ja,jb,ko];cases m with
    |zero=>
     rw[db (show(16:Int)<=((acc.length:Nat):Int) by omega)];obtain⟨v1,k1,b1,h1,a1,e1⟩:=TI hL hT hk true;have q:b1=true/\k1=k:=by
      rcases a1 with⟨q1,q2⟩|⟨q1,q2⟩
      ·cases q1
      ·cases q1;exact⟨q2,rfl⟩
     rw[q.1,q.2]at e1;refine⟨acc++[v1],k,true,hk,?_,?_⟩
     ·rw[gC];unfold cq;rw[h];exact Or.inr ⟨rfl,rfl⟩
     ·simp only[e1,av,aw,dH (show acc.length<=1000 by omega),al,ad,af.aB];exact hend _ k _
    |succ m=>
     rw[cQ (show ¬(16:Int)<=((acc.length:Nat):Int) by omega)];obtain⟨v1,k1,b1,h1,a1,e1⟩:=TI hL hT hk false;obtain⟨vs,k3,b3,h3,a3,e3⟩:=ih m (acc++[v1]) k1 b1 (by omega) h1 (by rw[aR,List.length_singleton];omega);refine⟨vs,k3,b3,h3,?_,?_⟩
     ·rw[gC,h];exact At.bL (r:=kt l k) a1 a3
     ·simp only[e1,av,aw,dH (show acc.length<=1000 by omega),al,ad,af.aB,e3]
   ·refine⟨acc,k+1,false,cU hL hk h,?_,rfl⟩;cases m with
    |zero=>
     rw[gC];unfold cq;rw[h];exact Or.inl ⟨rfl,rfl⟩
    |succ m=>
     rw[gC,h];exact Or.inl ⟨rfl,rfl⟩
theorem ajZ{l:List aj}(hL:bW l)(hT:∀t∈l,t.Text.length<=30000){k:Nat}(hk:k<l.length)(b:Bool):
 ∃v k' b',k'<l.length/\At (RB b k (me l k)) v k' b'/\M.xC (sp l k b)=some (v,sp l k' b'):=by
 obtain⟨v1,k1,b1,h1,a1,e1,-⟩:=vd hL hT hk b;obtain⟨k2,b2,h2,a2,e2⟩:=kq hL h1 [123] b1;obtain⟨vs,k3,b3,h3,a3,e3⟩:=ajY hL hT [] v1 [] ah 16 [] k2 b2 (by have:=bq;omega) h2 rfl;refine⟨aD.mk v1 vs,k3,b3,h3,a1.bL (a2.bL (a3.bL (At.ret _ _ _))),?_⟩;unfold M.xC;simp only[e1,e2,e3,av,aw,al,ad];rfl
end M
namespace M
open Go.V (inB bV ah bq)
def nM:List UInt8:=[105,109,112,111,114,116]
def nN:List UInt8:=[101,120,112,111,114,116]
def nO:List UInt8:=[105,110,99,108,117,100,101]
def sJ(l:List aj)(kind:Int)(k:Nat):PR aG:=(oU l k).bind fun p k1=>(cq l [59] k1).bind fun _ k2=>.ok (aG.mk kind p) k2
def jB(l:List aj)(k:Nat):PR aG:=
 bif aH l nM k then sJ l 1 (k+1)else bif aH l nN k then sJ l 2 (k+1)else bif aH l nO k then sJ l 3 (k+1)else .no k
def qN(l:List aj)(k:Nat):PR aM:=(gQ l k).bind fun n k1=>(cq l [123] k1).bind fun _ k2=>(gC l (jB l) 16 [] k2).bind fun xs k3=>.ok (aM.mk n xs) k3
theorem aj0{l:List aj}(hL:bW l)(hT:∀t∈l,t.Text.length<=30000)(t2 x:List UInt8)(o5:List aG):∀(f m:Nat)(acc:List aG)(k:Nat)(b:Bool),m+1<f->k<l.length->acc.length+m=16->
 ∃vs k' b' k2 b2,k2<l.length/\M.qO t2 x o5 f (ip l k b) acc=some (ip l k' b',t2,x,o5,vs)/\M.dk [125] (ip l k' b')=some (ip l k2 b2)/\At (RB b k (gC l (jB l) m acc k)) vs k2 b2:=by
 intro f
 induction f with
 |zero=>intro m acc k b h;omega
 |succ f ih=>
  intro m acc k b hf hk hacc;rw[M.qO];cases b with
  |true=>
   refine⟨acc,k,true,k,true,hk,?_,?_,At.no _ _ _⟩
   ·simp only[ic,bM,Bool.and_false,ak,al,da,ad]
   ·rw[eY hL hk (cP 125 (by decide)) true];rfl
  |false=>
   cases m with
   |zero=>
    obtain⟨k2,b2,h2,a2,e2⟩:=jy hL hk (cP 125 (by decide)) false;refine⟨acc,k,false,k2,b2,h2,?_,e2,?_⟩
    ·rw[cQ (show ¬((acc.length:Nat):Int)<16 by omega)];simp only[ic,bw,cG,ak,al,da,ad]
    ·rw[gC];exact a2.bL (At.ret _ _ _)
   |succ m=>
    rw[db (show((acc.length:Nat):Int)<16 by omega),gC];simp only[ic,bw,bA,ad,zX hL hk (cP 125 (by decide)) false,av,aw,al,da];have key:∀(kind:Int)(kk:Nat),kk<l.length->∃v1 k1 b1 k2 b2,k2<l.length/\M.mP (ip l kk false)=some (v1,ip l k1 b1)/\M.dk [59] (ip l k1 b1)=some (ip l k2 b2)/\At (sJ l kind kk) (aG.mk kind v1) k2 b2:=by
     intro kind kk hkk;obtain⟨v1,k1,b1,h1,a1,e1⟩:=MU hL hT hkk false;obtain⟨k2,b2,h2,a2,e2⟩:=jy hL h1 (cP 59 (by decide)) b1;exact⟨v1,k1,b1,k2,b2,h2,e1,e2,At.bind (r:=oU l kk) a1 (a2.bL (At.ret _ _ _))⟩
    have tI:=iP hL hk (text:=[105,109,112,111,114,116]) (fun d r e=>by cases e;decide) false;have tE:=iP hL hk (text:=[101,120,112,111,114,116]) (fun d r e=>by cases e;decide) false;have tC:=iP hL hk (text:=[105,110,99,108,117,100,101]) (fun d r e=>by cases e;decide) false;rw[bw,bA]at tI tE tC;cases h:aH l [125] k
    ·simp only[bw,ad,ak];cases hI:aH l [105,109,112,111,114,116] k
     ·rw[hI]at tI;cases hE:aH l [101,120,112,111,114,116] k
      ·rw[hE]at tE;cases hC:aH l [105,110,99,108,117,100,101] k
       ·rw[hC]at tC;obtain⟨v1,k1,b1,h1,a1,e1⟩:=MU hL hT hk true;have q:b1=true/\k1=k:=by
         rcases a1 with⟨q1,q2⟩|⟨q1,q2⟩
         ·cases q1
         ·cases q1;exact⟨q2,rfl⟩
        rw[q.1,q.2]at e1;have e2:M.dk [59] (ip l k true)=some (ip l k true):=by rw[eY hL hk (cP 59 (by decide))];rfl
        obtain⟨vs,k3,b3,k4,b4,h4,e3,e4,a4⟩:=ih m (acc++[aG.mk 0 v1]) k true (by omega) hk (by rw[aR,List.length_singleton];omega);refine⟨vs,k3,b3,k4,b4,h4,?_,e4,?_⟩
        ·simp only[tI,tE,tC,ak,ad,av,aw,kT,jL,lK,e1,e2,dH (show acc.length<=1000 by omega),al,e3]
        ·unfold jB nM nN nO;rw[hI,hE,hC];exact a4
       ·rw[hC]at tC;obtain⟨v1,k1,b1,k2,b2,h2,e1,e2,a2⟩:=key 3 (k+1) (cU hL hk hC);obtain⟨vs,k3,b3,k4,b4,h4,e3,e4,a4⟩:=ih m (acc++[aG.mk 3 v1]) k2 b2 (by omega) h2 (by rw[aR,List.length_singleton];omega);refine⟨vs,k3,b3,k4,b4,h4,?_,e4,?_⟩
        ·simp only[tI,tE,tC,ak,ad,av,aw,e1,e2,dH (show acc.length<=1000 by omega),al,e3]
        ·unfold jB nM nN nO;rw[hI,hE,hC];exact At.bind a2 a4
      ·rw[hE]at tE;obtain⟨v1,k1,b1,k2,b2,h2,e1,e2,a2⟩:=key 2 (k+1) (cU hL hk hE);obtain⟨vs,k3,b3,k4,b4,h4,e3,e4,a4⟩:=ih m (acc++[aG.mk 2 v1]) k2 b2 (by omega) h2 (by rw[aR,List.length_singleton];omega);refine⟨vs,k3,b3,k4,b4,h4,?_,e4,?_⟩
       ·simp only[tI,tE,ak,ad,av,aw,e1,e2,dH (show acc.length<=1000 by omega),al,e3]
       ·unfold jB nM nN nO;rw[hI,hE];exact At.bind a2 a4
     ·rw[hI]at tI;obtain⟨v1,k1,b1,k2,b2,h2,e1,e2,a2⟩:=key 1 (k+1) (cU hL hk hI);obtain⟨vs,k3,b3,k4,b4,h4,e3,e4,a4⟩:=ih m (acc++[aG.mk 1 v1]) k2 b2 (by omega) h2 (by rw[aR,List.length_singleton];omega);refine⟨vs,k3,b3,k4,b4,h4,?_,e4,?_⟩
      ·simp only[tI,ak,ad,av,aw,e1,e2,dH (show acc.length<=1000 by omega),al,e3]
      ·unfold jB nM nN nO;rw[hI];exact At.bind a2 a4
    ·refine⟨acc,k,false,k+1,false,cU hL hk h,?_,?_,?_⟩
     ·simp only[bM,ak,ad]
     ·rw[eY hL hk (cP 125 (by decide)) false,h];rfl
     ·exact Or.inl ⟨rfl,rfl⟩
theorem aj1{l:List aj}(hL:bW l)(hT:∀t∈l,t.Text.length<=30000){k:Nat}(hk:k<l.length)(b:Bool):
 ∃v k' b',k'<l.length/\At (RB b k (qN l k)) v k' b'/\M.vf (ip l k b)=some (v,ip l k' b'):=by
 obtain⟨v1,k1,b1,h1,a1,e1,-⟩:=vc hL hT hk b;obtain⟨k2,b2,h2,a2,e2⟩:=jy hL h1 (cP 123 (by decide)) b1;obtain⟨vs,k3,b3,k4,b4,h4,e3,e4,a4⟩:=aj0 hL hT [] v1 [] ah 16 [] k2 b2 (by have:=bq;omega) h2 rfl;refine⟨aM.mk v1 vs,k4,b4,h4,a1.bL (a2.bL (a4.bL (At.ret _ _ _))),?_⟩;unfold M.vf;simp only[e1,e2,e3,e4,av,aw,al,ad]
end M
namespace M
open Go.V (inB bV ah bq)
theorem MX{l:List aj}(hL:bW l)(t2 w:List UInt8)(o6 o7:List aG)(P:aQ){k:Nat}(hk:k<l.length)(b:Bool)(n:Nat)(i j:Int)(t:List UInt8)
 (h1:List.getD (Option.getD M.jC Inhabited.default) (Int.toNat i) []=t) (h2:inB i (List.length (Option.getD M.jC Inhabited.default))=true) (h3:decide (i<(3:Int))=true) (h4:Go.IntKind.wrap Go.IntKind.i64 (i+1)=j):
 M.ku t2 w o6 o7 (n+1) i (sp l k b) (aG.mk 0 P)=bif !b&&aH l t k then M.ku t2 w o6 o7 n j (sp l (k+1) b) (aG.mk j P)else M.ku t2 w o6 o7 n j (sp l k b) (aG.mk 0 P):=by
 have hs:Option.isSome M.jC=true:=rfl;rw[M.ku];simp only[h1,h2,h3,h4,hs,fh hL hk t b,av,aw,al,ad,da];cases (!b&&aH l t k)
 ·simp only[ak]
 ·simp only[ad]
theorem MY(t2 w:List UInt8)(o6 o7:List aG)(P:aQ)(p:aC)(n:Nat)(i j kd:Int)(h0:(kd==(0:Int))=false)(h3:decide (i<(3:Int))=true)(h4:Go.IntKind.wrap Go.IntKind.i64 (i+1)=j):
 M.ku t2 w o6 o7 (n+1) i p (aG.mk kd P)=M.ku t2 w o6 o7 n j p (aG.mk kd P):=by
 rw[M.ku];simp only[h3,h4,h0,ad,ak,da,al]
theorem Fj(t2 w:List UInt8)(o6 o7:List aG)(p:aC)(x:aG)(n:Nat):M.ku t2 w o6 o7 (n+1) 3 p x=some (p,t2,w,x,o6,o7):=by
 rw[M.ku];rfl
theorem TJ{l:List aj}(hL:bW l)(t2 w:List UInt8)(o6 o7:List aG)(P:aQ){k:Nat}(hk:k<l.length)(b:Bool):
 M.ku t2 w o6 o7 ah 0 (sp l k b) (aG.mk 0 P)=
   bif !b&&aH l nM k then some (sp l (k+1) b,t2,w,aG.mk 1 P,o6,o7)
   else bif !b&&aH l nN k then some (sp l (k+1) b,t2,w,aG.mk 2 P,o6,o7)
   else bif !b&&aH l nO k then some (sp l (k+1) b,t2,w,aG.mk 3 P,o6,o7)
   else some (sp l k b,t2,w,aG.mk 0 P,o6,o7):=by
 obtain⟨n,hn⟩:∃n,ah=n+1+1+1+1:=⟨ah-4,by have:=bq;omega⟩;rw[hn,MX hL t2 w o6 o7 P hk b _ 0 1 nM rfl rfl rfl (by decide)];cases (!b&&aH l nM k)
 ·simp only[ak];rw[MX hL t2 w o6 o7 P hk b _ 1 2 nN rfl rfl rfl (by decide)];cases (!b&&aH l nN k)
  ·simp only[ak];rw[MX hL t2 w o6 o7 P hk b _ 2 3 nO rfl rfl rfl (by decide)];cases (!b&&aH l nO k)
   ·simp only[ak];exact Fj _ _ _ _ _ _ _
   ·simp only[ad];exact Fj _ _ _ _ _ _ _
  ·simp only[ad];rw[MY _ _ _ _ _ _ _ 2 3 2 rfl rfl (by decide)];exact Fj _ _ _ _ _ _ _
 ·simp only[ad];rw[MY _ _ _ _ _ _ _ 1 2 1 rfl rfl (by decide),MY _ _ _ _ _ _ _ 2 3 1 rfl rfl (by decide)];exact Fj _ _ _ _ _ _ _
theorem aj2{l:List aj}(hL:bW l)(hT:∀t∈l,t.Text.length<=30000)(t2 x:List UInt8)(o5:List aG):∀(f m:Nat)(acc:List aG)(k:Nat)(b:Bool),m+1<f->k<l.length->acc.length+m=16->
 ∃vs k' b',k'<l.length/\At (RB b k (gC l (jB l) m acc k)) vs k' b'/\M.qP f (sp l k b) t2 x o5 acc=some (l,(k':Int),b',t2,x,o5,vs):=by
 intro f
 induction f with
 |zero=>intro m acc k b h;omega
 |succ f ih=>
  intro m acc k b hf hk hacc;obtain⟨f',rfl⟩:∃f',f=f'+1:=⟨f-1,by omega⟩;have hend:∀(f:Nat)(k:Nat)(xs:List aG),M.qP (f+1) (sp l k true) t2 x o5 xs=some (l,(k:Int),true,t2,x,o5,xs):=fun f k xs=>by
   rw[M.qP];rfl
  cases b with
  |true=>exact⟨acc,k,true,hk,At.no _ _ _,hend _ k acc⟩
  |false=>
   have hbad:∃v,M.lL (sp l k true)=some (v,sp l k true):=by
    obtain⟨v1,k1,b1,h1,a1,e1⟩:=MV hL hT hk true;have q:b1=true/\k1=k:=by
     rcases a1 with⟨q1,q2⟩|⟨q1,q2⟩
     ·cases q1
     ·cases q1;exact⟨q2,rfl⟩
    rw[q.1,q.2]at e1;exact⟨v1,e1⟩
   obtain⟨vb,eb⟩:=hbad;have mb:M.dE [59] (sp l k true)=some (sp l k true):=by rw[gz hL hk];rfl
   have key:∀(kind:Int)(kk:Nat),kk<l.length->∃v1 k1 b1 k2 b2,k2<l.length/\M.lL (sp l kk false)=some (v1,sp l k1 b1)/\M.dE [59] (sp l k1 b1)=some (sp l k2 b2)/\At (sJ l kind kk) (aG.mk kind v1) k2 b2:=by
    intro kind kk hkk;obtain⟨v1,k1,b1,h1,a1,e1⟩:=MV hL hT hkk false;obtain⟨k2,b2,h2,a2,e2⟩:=kq hL h1 [59] b1;exact⟨v1,k1,b1,k2,b2,h2,e1,e2,At.bind (r:=oU l kk) a1 (a2.bL (At.ret _ _ _))⟩
   rw[M.qP];simp only[iw,bw,ad,fh hL hk [125] false,bA,av,aw,al,da];cases h:aH l [125] k
   ·simp only[ak,bw,ad,ja,jb,ko];cases m with
    |zero=>
     rw[db (show(16:Int)<=((acc.length:Nat):Int) by omega),TJ hL _ _ _ _ _ hk true];refine⟨acc++[aG.mk 0 vb],k,true,hk,?_,?_⟩
     ·rw[gC];unfold cq;rw[h];exact Or.inr ⟨rfl,rfl⟩
     ·simp only[bM,cG,ak,ja,jb,iw,ko,bo,eb,mb,av,aw,dH (show acc.length<=1000 by omega),al,ad];exact hend _ k _
    |succ m=>
     rw[cQ (show ¬(16:Int)<=((acc.length:Nat):Int) by omega),TJ hL _ _ _ _ _ hk false];rw[gC,h];simp only[bw,bA];have go:∀kind:Int,(kind==(0:Int))=false->aH l (bif kind==1 then nM else bif kind==2 then nN else nO) k=true->(RB false k (bif false then PR.ok acc (k+1)else(jB l k).bind fun x k1=>gC l (jB l) m (acc++[x]) k1))=(sJ l kind (k+1)).bind (fun x k1=>gC l (jB l) m (acc++[x]) k1)->
      ∃vs k' b',k'<l.length/\At (RB false k (bif false then PR.ok acc (k+1)else(jB l k).bind fun x k1=>gC l (jB l) m (acc++[x]) k1)) vs k' b'/\
       (match(some (sp l (k+1) false,t2,x,aG.mk kind (aQ.mk [] [] []),o5,acc):Option (aC×List UInt8×List UInt8×aG×List aG×List aG))with
         |none=>none
         |some y3=>bif(decide (((List.length y3.2.2.2.2.2)+(List.length [(M.aG.mk (M.aG.Kind y3.2.2.2.1) (Option.getD (M.lL (M.aC.mk (M.aC.list y3.1) (M.aC.at_ y3.1) ((M.aC.bad y3.1)||((M.aG.Kind y3.2.2.2.1)==(0:Int))))) Inhabited.default).1)]))<=1073741824))&&((Option.isSome (M.dE [(59:UInt8)] (Option.getD (M.lL (M.aC.mk (M.aC.list y3.1) (M.aC.at_ y3.1) ((M.aC.bad y3.1)||((M.aG.Kind y3.2.2.2.1)==(0:Int))))) Inhabited.default).2))&&((Option.isSome (M.lL (M.aC.mk (M.aC.list y3.1) (M.aC.at_ y3.1) ((M.aC.bad y3.1)||((M.aG.Kind y3.2.2.2.1)==(0:Int))))))&&true))then
           M.qP (f'+1) (Option.getD (M.dE [(59:UInt8)] (Option.getD (M.lL (M.aC.mk (M.aC.list y3.1) (M.aC.at_ y3.1) ((M.aC.bad y3.1)||((M.aG.Kind y3.2.2.2.1)==(0:Int))))) Inhabited.default).2) Inhabited.default) y3.2.1 y3.2.2.1 y3.2.2.2.2.1 (y3.2.2.2.2.2++[(M.aG.mk (M.aG.Kind y3.2.2.2.1) (Option.getD (M.lL (M.aC.mk (M.aC.list y3.1) (M.aC.at_ y3.1) ((M.aC.bad y3.1)||((M.aG.Kind y3.2.2.2.1)==(0:Int))))) Inhabited.default).1)])
          else none)=some (l,(k':Int),b',t2,x,o5,vs):=by
      intro kind h0 hB hR;obtain⟨v1,k1,b1,k2,b2,h2,e1,e2,a2⟩:=key kind (k+1) (cU hL hk hB);obtain⟨vs,k3,b3,h3,a3,e3⟩:=ih m (acc++[aG.mk kind v1]) k2 b2 (by omega) h2 (by rw[aR,List.length_singleton];omega);refine⟨vs,k3,b3,h3,?_,?_⟩
      ·rw[hR];exact At.bind a2 a3
      ·simp only[h0,ja,jb,iw,kH,ko,e1,e2,av,aw,dH (show acc.length<=1000 by omega),al,ad,e3]
     cases hI:aH l nM k
     ·cases hE:aH l nN k
      ·cases hC:aH l nO k
       ·refine⟨acc++[aG.mk 0 vb],k,true,hk,?_,?_⟩
        ·unfold jB;rw[hI,hE,hC];exact Or.inr ⟨rfl,rfl⟩
        ·simp only[ak,ja,jb,iw,ko,da,dT,eb,mb,av,aw,dH (show acc.length<=1000 by omega),al,ad];exact hend _ k _
       ·have:=go 3 rfl hC (by unfold jB;rw[hI,hE,hC];rfl);exact this
      ·have:=go 2 rfl hE (by unfold jB;rw[hI,hE];rfl);exact this
     ·have:=go 1 rfl hI (by unfold jB;rw[hI];rfl);exact this
   ·refine⟨acc,k+1,false,cU hL hk h,?_,rfl⟩;cases m with
    |zero=>
     rw[gC];unfold cq;rw[h];exact Or.inl ⟨rfl,rfl⟩
    |succ m=>
     rw[gC,h];exact Or.inl ⟨rfl,rfl⟩
theorem aj3{l:List aj}(hL:bW l)(hT:∀t∈l,t.Text.length<=30000){k:Nat}(hk:k<l.length)(b:Bool):
 ∃v k' b',k'<l.length/\At (RB b k (qN l k)) v k' b'/\M.vg (sp l k b)=some (v,sp l k' b'):=by
 obtain⟨v1,k1,b1,h1,a1,e1,-⟩:=vd hL hT hk b;obtain⟨k2,b2,h2,a2,e2⟩:=kq hL h1 [123] b1;obtain⟨vs,k3,b3,h3,a3,e3⟩:=aj2 hL hT [] v1 [] ah 16 [] k2 b2 (by have:=bq;omega) h2 rfl;refine⟨aM.mk v1 vs,k3,b3,h3,a1.bL (a2.bL (a3.bL (At.ret _ _ _))),?_⟩;unfold M.vg;simp only[e1,e2,e3,av,aw,al,ad];rfl
end M
namespace M
open Go.V (inB bV ah bq)
def qQ:List UInt8:=[105,110,116,101,114,102,97,99,101]
def vh:List UInt8:=[119,111,114,108,100]
def Aw:List UInt8:=[112,97,99,107,97,103,101]
def fx(l:List aj):Nat->List aD->List aM->Nat->PR (List aD×List aM)
 |0,fs,ws,k=>bif(bT l k).Kind==4 then .ok (fs,ws) k else .no k
 |m+1,fs,ws,k=>bif(bT l k).Kind==4 then .ok (fs,ws) k
  else bif decide (((fs.length:Nat):Int)<8)&&aH l qQ k then(me l (k+1)).bind fun f k1=>fx l m (fs++[f]) ws k1
  else bif decide (((ws.length:Nat):Int)<8)&&aH l vh k then(qN l (k+1)).bind fun w k1=>fx l m fs (ws++[w]) k1
  else .no k
def jc(l:List aj)(k:Nat):PR ai:=(cq l Aw k).bind fun _ k1=>(gQ l k1).bind fun n k2=>(cq l [64] k2).bind fun _ k3=>(E7 l k3).bind fun v k4=>(cq l [59] k4).bind fun _ k5=>
 (fx l 16 [] [] k5).bind fun q k6=>.ok (ai.mk n v q.1 q.2) k6
theorem nP(l:List aj)(k:Nat):List.getD l (Int.toNat ((k:Nat):Int)) aj.zero=bT l k:=by rw[bP];rfl
theorem aj6{l:List aj}(hL:bW l)(hT:∀t∈l,t.Text.length<=30000)(t2 t22 x x2:List UInt8)(o7:List aD)(o8:List aM):∀(f m:Nat)(fs:List aD)(ws:List aM)(k:Nat)(b:Bool),m+1<f->k<l.length->fs.length+ws.length+m=16->fs.length<=8->ws.length<=8->
 ∃v k' b',k'<l.length/\At (RB b k (fx l m fs ws k)) v k' b'/\M.jM t2 t22 x x2 o7 o8 f (ip l k b) fs ws=some (l,(k':Int),b',t2,t22,x,x2,o7,o8,v.1,v.2):=by
 have hend:∀(f k:Nat)(fs:List aD)(ws:List aM),k<l.length->M.jM t2 t22 x x2 o7 o8 (f+1) (ip l k true) fs ws=some (l,(k:Int),true,t2,t22,x,x2,o7,o8,fs,ws):=fun f k fs ws hk=>by
  rw[M.jM];simp only[ic,kT,jL,lK,nP,kj hk,bM,cG,ak,bo,al,ad,da]
 intro f
 induction f with
 |zero=>intro m fs ws k b h;omega
 |succ f ih=>
  intro m fs ws k b hf hk hm hfs hws;obtain⟨f',rfl⟩:∃f',f=f'+1:=⟨f-1,by omega⟩;cases b with
  |true=>exact⟨(fs,ws),k,true,hk,At.no _ _ _,hend _ k fs ws hk⟩
  |false=>
   rw[M.jM];cases hK:((bT l k).Kind==4)
   ·have bad:fx l m fs ws k=.no k->∃v k' b',k'<l.length/\At (RB false k (fx l m fs ws k)) v k' b'/\M.jM t2 t22 x x2 o7 o8 (f'+1) (ip l k true) fs ws=some (l,(k':Int),b',t2,t22,x,x2,o7,o8,v.1,v.2):=fun e=>by
     rw[e];exact⟨(fs,ws),k,true,hk,Or.inr ⟨rfl,rfl⟩,hend _ k fs ws hk⟩
    have tF:=iP hL hk (text:=[105,110,116,101,114,102,97,99,101]) (fun d r e=>by cases e;decide) false;have tW:=iP hL hk (text:=[119,111,114,108,100]) (fun d r e=>by cases e;decide) false;rw[bw,bA]at tF tW;have MZ:fs.length<8->aH l [105,110,116,101,114,102,97,99,101] k=true->∃v1 k1 b1 v k' b',k'<l.length/\M.xB (ip l (k+1) false)=some (v1,ip l k1 b1)/\At (RB false k (fx l m fs ws k)) v k' b'/\M.jM t2 t22 x x2 o7 o8 (f'+1) (ip l k1 b1) (fs++[v1]) ws=some (l,(k':Int),b',t2,t22,x,x2,o7,o8,v.1,v.2):=fun h8 hB=>by
     obtain⟨v1,k1,b1,h1,a1,e1⟩:=ajX hL hT (cU hL hk hB) false;obtain⟨m',rfl⟩:∃m',m=m'+1:=⟨m-1,by omega⟩;obtain⟨v,k',b',h2,a2,e2⟩:=ih m' (fs++[v1]) ws k1 b1 (by omega) h1 (by rw[aR,List.length_singleton];omega) (by rw[aR,List.length_singleton];omega) hws;refine⟨v1,k1,b1,v,k',b',h2,e1,?_,e2⟩;rw[fx,hK];unfold qQ;rw[hB,db (show((fs.length:Nat):Int)<8 by omega)];exact At.bind (r:=me l (k+1)) a1 a2
    have world:(decide (((fs.length:Nat):Int)<8)&&aH l [105,110,116,101,114,102,97,99,101] k)=false->ws.length<8->aH l [119,111,114,108,100] k=true->∃v1 k1 b1 v k' b',k'<l.length/\M.vf (ip l (k+1) false)=some (v1,ip l k1 b1)/\At (RB false k (fx l m fs ws k)) v k' b'/\M.jM t2 t22 x x2 o7 o8 (f'+1) (ip l k1 b1) fs (ws++[v1])=some (l,(k':Int),b',t2,t22,x,x2,o7,o8,v.1,v.2):=fun hF h8 hB=>by
     obtain⟨v1,k1,b1,h1,a1,e1⟩:=aj1 hL hT (cU hL hk hB) false;obtain⟨m',rfl⟩:∃m',m=m'+1:=⟨m-1,by omega⟩;obtain⟨v,k',b',h2,a2,e2⟩:=ih m' fs (ws++[v1]) k1 b1 (by omega) h1 (by rw[aR,List.length_singleton];omega) hfs (by rw[aR,List.length_singleton];omega);refine⟨v1,k1,b1,v,k',b',h2,e1,?_,e2⟩;rw[fx,hK];unfold qQ vh;rw[hF,hB,db (show((ws.length:Nat):Int)<8 by omega)];exact At.bind (r:=qN l (k+1)) a1 a2
    have nothing:(decide (((fs.length:Nat):Int)<8)&&aH l [105,110,116,101,114,102,97,99,101] k)=false->(decide (((ws.length:Nat):Int)<8)&&aH l [119,111,114,108,100] k)=false->fx l m fs ws k=.no k:=fun hF hW=>by
     cases m with
     |zero=>rw[fx,hK];rfl
     |succ m=>rw[fx,hK];unfold qQ vh;rw[hF,hW];rfl
    have world':(decide (((fs.length:Nat):Int)<8)&&aH l [105,110,116,101,114,102,97,99,101] k)=false->∀dW:decide (((ws.length:Nat):Int)<8)=true,aH l [119,111,114,108,100] k=true->ws.length<8:=fun _ h _=>by
     have:=ll h;omega
    cases dF:decide (((fs.length:Nat):Int)<8)
    ·rw[dF,cG]at world nothing;cases dW:decide (((ws.length:Nat):Int)<8)
     ·simp only[ic,kT,jL,lK,nP,kj hk,hK,dF,dW,bne,bM,bw,bA,cT,cG,ad,ak,av,aw,da,al,dT,bo];exact bad (nothing rfl (by rw[dW];rfl))
     ·cases hW:aH l [119,111,114,108,100] k
      ·rw[hW]at tW;simp only[ic,kT,jL,lK,nP,kj hk,hK,dF,dW,bne,bM,bw,bA,cT,cG,ad,ak,av,aw,da,al,dT,bo,tW];exact bad (nothing rfl (by rw[hW,Bool.and_false]))
      ·rw[hW]at tW;obtain⟨v1,k1,b1,v,k',b',h2,e1,a2,e2⟩:=world rfl (by have:=ll dW;omega) hW;refine⟨v,k',b',h2,a2,?_⟩;simp only[ic,kT,jL,lK,nP,kj hk,hK,dF,dW,bne,bM,bw,bA,cT,cG,ad,ak,av,aw,da,al,dT,bo,tW,e1,dH (show ws.length<=1000 by omega)];exact e2
    ·cases hF:aH l [105,110,116,101,114,102,97,99,101] k
     ·rw[hF]at tF;rw[hF,Bool.and_false]at world nothing;cases dW:decide (((ws.length:Nat):Int)<8)
      ·simp only[ic,kT,jL,lK,nP,kj hk,hK,dF,dW,bne,bM,bw,bA,cT,cG,ad,ak,av,aw,da,al,dT,bo,tF];exact bad (nothing rfl (by rw[dW];rfl))
      ·cases hW:aH l [119,111,114,108,100] k
       ·rw[hW]at tW;simp only[ic,kT,jL,lK,nP,kj hk,hK,dF,dW,bne,bM,bw,bA,cT,cG,ad,ak,av,aw,da,al,dT,bo,tF,tW];exact bad (nothing rfl (by rw[hW,Bool.and_false]))
       ·rw[hW]at tW;obtain⟨v1,k1,b1,v,k',b',h2,e1,a2,e2⟩:=world rfl (by have:=ll dW;omega) hW;refine⟨v,k',b',h2,a2,?_⟩;simp only[ic,kT,jL,lK,nP,kj hk,hK,dF,dW,bne,bM,bw,bA,cT,cG,ad,ak,av,aw,da,al,dT,bo,tF,tW,e1,dH (show ws.length<=1000 by omega)];exact e2
     ·rw[hF]at tF;obtain⟨v1,k1,b1,v,k',b',h2,e1,a2,e2⟩:=MZ (by have:=ll dF;omega) hF;refine⟨v,k',b',h2,a2,?_⟩;simp only[ic,kT,jL,lK,nP,kj hk,hK,dF,bne,bM,bw,bA,cT,cG,ad,ak,av,aw,da,al,dT,bo,tF,e1,dH (show fs.length<=1000 by omega)];exact e2
   ·refine⟨(fs,ws),k,false,hk,?_,?_⟩
    ·cases m<;>(rw[fx,hK];exact Or.inl ⟨rfl,rfl⟩)
    ·simp only[ic,kT,jL,lK,nP,kj hk,hK,bne,bM,bw,Bool.and_false,ak,ad,av,aw,da,al,bo]
theorem aj7{l:List aj}(hL:bW l)(hT:∀t∈l,t.Text.length<=30000)(t2 t22 x x2:List UInt8)(o7:List aD)(o8:List aM):∀(f m:Nat)(fs:List aD)(ws:List aM)(k:Nat)(b:Bool),m+1<f->k<l.length->fs.length+ws.length+m=16->fs.length<=8->ws.length<=8->
 ∃v k' b',k'<l.length/\At (RB b k (fx l m fs ws k)) v k' b'/\M.jN t2 t22 x x2 o7 o8 f (sp l k b) fs ws=some (l,(k':Int),b',t2,t22,x,x2,o7,o8,v.1,v.2):=by
 have hend:∀(f k:Nat)(fs:List aD)(ws:List aM),k<l.length->M.jN t2 t22 x x2 o7 o8 (f+1) (sp l k true) fs ws=some (l,(k:Int),true,t2,t22,x,x2,o7,o8,fs,ws):=fun f k fs ws hk=>by
  rw[M.jN];simp only[iw,ja,jb,ko,lD hk,bM,cG,ak,bo,al,ad,da]
 intro f
 induction f with
 |zero=>intro m fs ws k b h;omega
 |succ f ih=>
  intro m fs ws k b hf hk hm hfs hws;obtain⟨f',rfl⟩:∃f',f=f'+1:=⟨f-1,by omega⟩;cases b with
  |true=>exact⟨(fs,ws),k,true,hk,At.no _ _ _,hend _ k fs ws hk⟩
  |false=>
   rw[M.jN];cases hK:((bT l k).Kind==4)
   ·have bad:fx l m fs ws k=.no k->∃v k' b',k'<l.length/\At (RB false k (fx l m fs ws k)) v k' b'/\M.jN t2 t22 x x2 o7 o8 (f'+1) (sp l k true) fs ws=some (l,(k':Int),b',t2,t22,x,x2,o7,o8,v.1,v.2):=fun e=>by
     rw[e];exact⟨(fs,ws),k,true,hk,Or.inr ⟨rfl,rfl⟩,hend _ k fs ws hk⟩
    have tF:=fh hL hk [105,110,116,101,114,102,97,99,101] false;have tW:=fh hL hk [119,111,114,108,100] false;rw[bw,bA]at tF tW;have MZ:fs.length<8->aH l [105,110,116,101,114,102,97,99,101] k=true->∃v1 k1 b1 v k' b',k'<l.length/\M.xC (sp l (k+1) false)=some (v1,sp l k1 b1)/\At (RB false k (fx l m fs ws k)) v k' b'/\M.jN t2 t22 x x2 o7 o8 (f'+1) (sp l k1 b1) (fs++[v1]) ws=some (l,(k':Int),b',t2,t22,x,x2,o7,o8,v.1,v.2):=fun h8 hB=>by
     obtain⟨v1,k1,b1,h1,a1,e1⟩:=ajZ hL hT (cU hL hk hB) false;obtain⟨m',rfl⟩:∃m',m=m'+1:=⟨m-1,by omega⟩;obtain⟨v,k',b',h2,a2,e2⟩:=ih m' (fs++[v1]) ws k1 b1 (by omega) h1 (by rw[aR,List.length_singleton];omega) (by rw[aR,List.length_singleton];omega) hws;refine⟨v1,k1,b1,v,k',b',h2,e1,?_,e2⟩;rw[fx,hK];unfold qQ;rw[hB,db (show((fs.length:Nat):Int)<8 by omega)];exact At.bind (r:=me l (k+1)) a1 a2
    have world:(decide (((fs.length:Nat):Int)<8)&&aH l [105,110,116,101,114,102,97,99,101] k)=false->ws.length<8->aH l [119,111,114,108,100] k=true->∃v1 k1 b1 v k' b',k'<l.length/\M.vg (sp l (k+1) false)=some (v1,sp l k1 b1)/\At (RB false k (fx l m fs ws k)) v k' b'/\M.jN t2 t22 x x2 o7 o8 (f'+1) (sp l k1 b1) fs (ws++[v1])=some (l,(k':Int),b',t2,t22,x,x2,o7,o8,v.1,v.2):=fun hF h8 hB=>by
     obtain⟨v1,k1,b1,h1,a1,e1⟩:=aj3 hL hT (cU hL hk hB) false;obtain⟨m',rfl⟩:∃m',m=m'+1:=⟨m-1,by omega⟩;obtain⟨v,k',b',h2,a2,e2⟩:=ih m' fs (ws++[v1]) k1 b1 (by omega) h1 (by rw[aR,List.length_singleton];omega) hfs (by rw[aR,List.length_singleton];omega);refine⟨v1,k1,b1,v,k',b',h2,e1,?_,e2⟩;rw[fx,hK];unfold qQ vh;rw[hF,hB,db (show((ws.length:Nat):Int)<8 by omega)];exact At.bind (r:=qN l (k+1)) a1 a2
    have nothing:(decide (((fs.length:Nat):Int)<8)&&aH l [105,110,116,101,114,102,97,99,101] k)=false->(decide (((ws.length:Nat):Int)<8)&&aH l [119,111,114,108,100] k)=false->fx l m fs ws k=.no k:=fun hF hW=>by
     cases m with
     |zero=>rw[fx,hK];rfl
     |succ m=>rw[fx,hK];unfold qQ vh;rw[hF,hW];rfl
    have world':(decide (((fs.length:Nat):Int)<8)&&aH l [105,110,116,101,114,102,97,99,101] k)=false->∀dW:decide (((ws.length:Nat):Int)<8)=true,aH l [119,111,114,108,100] k=true->ws.length<8:=fun _ h _=>by
     have:=ll h;omega
    cases dF:decide (((fs.length:Nat):Int)<8)
    ·rw[dF,cG]at world nothing;cases dW:decide (((ws.length:Nat):Int)<8)
     ·simp only[iw,ja,jb,ko,lD hk,hK,dF,dW,bne,bM,bw,bA,cT,cG,ad,ak,av,aw,da,al,dT,bo];exact bad (nothing rfl (by rw[dW];rfl))
     ·cases hW:aH l [119,111,114,108,100] k
      ·rw[hW]at tW;simp only[iw,ja,jb,ko,lD hk,hK,dF,dW,bne,bM,bw,bA,cT,cG,ad,ak,av,aw,da,al,dT,bo,tW];exact bad (nothing rfl (by rw[hW,Bool.and_false]))
      ·rw[hW]at tW;obtain⟨v1,k1,b1,v,k',b',h2,e1,a2,e2⟩:=world rfl (by have:=ll dW;omega) hW;refine⟨v,k',b',h2,a2,?_⟩;simp only[iw,ja,jb,ko,lD hk,hK,dF,dW,bne,bM,bw,bA,cT,cG,ad,ak,av,aw,da,al,dT,bo,tW,e1,dH (show ws.length<=1000 by omega)];exact e2
    ·cases hF:aH l [105,110,116,101,114,102,97,99,101] k
     ·rw[hF]at tF;rw[hF,Bool.and_false]at world nothing;cases dW:decide (((ws.length:Nat):Int)<8)
      ·simp only[iw,ja,jb,ko,lD hk,hK,dF,dW,bne,bM,bw,bA,cT,cG,ad,ak,av,aw,da,al,dT,bo,tF];exact bad (nothing rfl (by rw[dW];rfl))
      ·cases hW:aH l [119,111,114,108,100] k
       ·rw[hW]at tW;simp only[iw,ja,jb,ko,lD hk,hK,dF,dW,bne,bM,bw,bA,cT,cG,ad,ak,av,aw,da,al,dT,bo,tF,tW];exact bad (nothing rfl (by rw[hW,Bool.and_false]))
       ·rw[hW]at tW;obtain⟨v1,k1,b1,v,k',b',h2,e1,a2,e2⟩:=world rfl (by have:=ll dW;omega) hW;refine⟨v,k',b',h2,a2,?_⟩;simp only[iw,ja,jb,ko,lD hk,hK,dF,dW,bne,bM,bw,bA,cT,cG,ad,ak,av,aw,da,al,dT,bo,tF,tW,e1,dH (show ws.length<=1000 by omega)];exact e2
     ·rw[hF]at tF;obtain⟨v1,k1,b1,v,k',b',h2,e1,a2,e2⟩:=MZ (by have:=ll dF;omega) hF;refine⟨v,k',b',h2,a2,?_⟩;simp only[iw,ja,jb,ko,lD hk,hK,dF,bne,bM,bw,bA,cT,cG,ad,ak,av,aw,da,al,dT,bo,tF,e1,dH (show fs.length<=1000 by omega)];exact e2
   ·refine⟨(fs,ws),k,false,hk,?_,?_⟩
    ·cases m<;>(rw[fx,hK];exact Or.inl ⟨rfl,rfl⟩)
    ·simp only[iw,ja,jb,ko,lD hk,hK,bne,bM,bw,Bool.and_false,ak,ad,av,aw,da,al,bo]
theorem aj8{l:List aj}(hL:bW l)(hT:∀t∈l,t.Text.length<=30000){k:Nat}(hk:k<l.length)(b:Bool):
 ∃v k' b',k'<l.length/\At (RB b k (jc l k)) v k' b'/\M.Ax (ip l k b)=some (ai.Name v,ai.Version v,ip l k' b',ai.aF v,ai.Worlds v):=by
 obtain⟨k1,b1,h1,a1,e1⟩:=jy hL hk (t:=Aw) (fun d r e=>by cases e;decide) b;obtain⟨v2,k2,b2,h2,a2,e2,-⟩:=vc hL hT h1 b1;obtain⟨k3,b3,h3,a3,e3⟩:=jy hL h2 (cP 64 (by decide)) b2;obtain⟨v4,k4,b4,h4,a4,e4,-⟩:=TD hL hT h3 b3;obtain⟨k5,b5,h5,a5,e5⟩:=jy hL h4 (cP 59 (by decide)) b4;obtain⟨v6,k6,b6,h6,a6,e6⟩:=aj6 hL hT [] [] v2 v4 [] [] ah 16 [] [] k5 b5 (by have:=bq;omega) h5 rfl (by simp) (by simp);refine⟨ai.mk v2 v4 v6.1 v6.2,k6,b6,h6,a1.bL (a2.bL (a3.bL (a4.bL (a5.bL (a6.bL (At.ret _ _ _)))))),?_⟩;unfold Aw at e1;unfold M.Ax;simp only[e1,e2,e3,e4,e5,e6,av,aw,al,ad];rfl
theorem aj9{l:List aj}(hL:bW l)(hT:∀t∈l,t.Text.length<=30000){k:Nat}(hk:k<l.length)(b:Bool):
 ∃v k' b',k'<l.length/\At (RB b k (jc l k)) v k' b'/\M.xE (sp l k b)=some (v,sp l k' b'):=by
 obtain⟨k1,b1,h1,a1,e1⟩:=kq hL hk Aw b;obtain⟨v2,k2,b2,h2,a2,e2,-⟩:=vd hL hT h1 b1;obtain⟨k3,b3,h3,a3,e3⟩:=kq hL h2 [64] b2;obtain⟨v4,k4,b4,h4,a4,e4,-⟩:=TE hL h3 b3;obtain⟨k5,b5,h5,a5,e5⟩:=kq hL h4 [59] b4;obtain⟨v6,k6,b6,h6,a6,e6⟩:=aj7 hL hT [] [] v2 v4 [] [] ah 16 [] [] k5 b5 (by have:=bq;omega) h5 rfl (by simp) (by simp);refine⟨ai.mk v2 v4 v6.1 v6.2,k6,b6,h6,a1.bL (a2.bL (a3.bL (a4.bL (a5.bL (a6.bL (At.ret _ _ _)))))),?_⟩;unfold Aw at e1;unfold M.xE;simp only[e1,e2,e3,e4,e5,e6,av,aw,al,ad];rfl
end M
namespace M
open Go.V (inB bV ah bq)
theorem TK(s:List UInt8):∀(f a:Nat)(line:Int)(out:List aj)(y:Int×List aj),(∀t∈out,t.Text.length<=s.length)->jv s f a line out=.inr y->∀t∈y.2,t.Text.length<=s.length
 |0,a,line,out,y,ho,h=>by cases h
 |f+1,a,line,out,y,ho,h=>by
  unfold jv at h;split at h
  ·split at h
   ·cases h
   ·split at h
    ·cases h
    ·refine TK s f _ _ _ y (fun t ht=>?_) h;rcases dN.1 ht with q|q
     ·exact ho t q
     ·rw[jj]at q;rw[q];show(nG s a _).length<=_
      unfold nG;rw[ni,List.length_drop];omega
  ·cases h;exact ho
theorem TL(s:List UInt8):∀t∈(eC s).1,t.Text.length<=30000:=by
 unfold eC;split
 ·intro t h;cases h
 ·rename_i hl;have hs:=TK s ah (cD false s 1).1 (cD false s 1).2 [];generalize jv s ah (cD false s 1).1 (cD false s 1).2 []=r at*;cases r with
  |inl x=>intro t h;cases h
  |inr y=>
   intro t h;rcases dN.1 h with q|q
   ·have:=hs y (fun t q=>by cases q) rfl t q;omega
   ·rw[jj]at q;rw[q];simp
theorem M1(l:List aj):∀(m:Nat)(fs:List aD)(ws:List aM)(k:Nat)(v:List aD×List aM)(k':Nat),fx l m fs ws k=.ok v k'->(bT l k').Kind=4
 |0,fs,ws,k,v,k',h=>by
  rw[fx]at h;cases hK:((bT l k).Kind==4)<;>rw[hK]at h
  ·cases h
  ·cases h;exact cA.1 hK
 |m+1,fs,ws,k,v,k',h=>by
  rw[fx]at h;cases hK:((bT l k).Kind==4)<;>rw[hK]at h
  ·simp only[ak]at h;cases hF:(decide (((fs.length:Nat):Int)<8)&&aH l qQ k)<;>rw[hF]at h
   ·simp only[ak]at h;cases hW:(decide (((ws.length:Nat):Int)<8)&&aH l vh k)<;>rw[hW]at h
    ·cases h
    ·simp only[ad]at h;cases hf:qN l (k+1)with
     |no q=>rw[hf]at h;cases h
     |ok w q=>rw[hf]at h;exact M1 l m _ _ _ _ _ h
   ·simp only[ad]at h;cases hf:me l (k+1)with
    |no q=>rw[hf]at h;cases h
    |ok w q=>rw[hf]at h;exact M1 l m _ _ _ _ _ h
  ·cases h;exact cA.1 hK
theorem bind_ok{α β:Type}{r:PR α}{f:α->Nat->PR β}{v:β}{k:Nat}(h:r.bind f=.ok v k):∃a k1,r=.ok a k1/\f a k1=.ok v k:=by
 cases r with
 |no q=>cases h
 |ok a q=>exact⟨a,q,rfl,h⟩
theorem aka(l:List aj)(k:Nat)(p:ai)(k':Nat)(h:jc l k=.ok p k'):(bT l k').Kind=4:=by
 unfold jc at h;obtain⟨_,_,_,h⟩:=bind_ok h;obtain⟨_,_,_,h⟩:=bind_ok h;obtain⟨_,_,_,h⟩:=bind_ok h;obtain⟨_,_,_,h⟩:=bind_ok h;obtain⟨_,_,_,h⟩:=bind_ok h;obtain⟨q,k6,h6,h⟩:=bind_ok h;cases h;exact M1 l _ _ _ _ _ _ h6
noncomputable def ix(s:List UInt8):(Int×Int)⊕ai:=
 if(eC s).2.2=0 then match jc (eC s).1 0 with
  |.no k=>.inl ((bT (eC s).1 k).Line,6)
  |.ok p _=>.inr p
 else .inl ((eC s).2.1,(eC s).2.2)
theorem TM(s:List UInt8):match ix s with
 |.inl e=>e.2≠0/\∃n v fs ws,M.oY s [] [] [] []=some (e.1,e.2,n,v,fs,ws)
 |.inr p=>M.oY s [] [] [] []=some (0,0,ai.Name p,ai.Version p,ai.aF p,ai.Worlds p):=by
 have ht:=ajl s;unfold ix;by_cases h0:(eC s).2.2=0
 ·rw[ba h0];have hL:=ML s h0;have hT:=TL s;have e0:((eC s).2.2 !=0)=false:=by rw[bne_eq_false_iff_eq];exact h0
  obtain⟨p,k,b,hk,a,e⟩:=aj8 hL hT hL.pos false;have ew:∀n v fs ws,M.Az (ar.mk (eC s).1 0 false) n v fs ws=some (ip (eC s).1 k b,ai.Name p,ai.Version p,ai.aF p,ai.Worlds p):=fun n v fs ws=>by
   unfold M.Az;rw[show ar.mk (eC s).1 0 false=ip (eC s).1 0 false from rfl,e];rfl
  rcases a with⟨q1,q2⟩|⟨q1,q2⟩
  ·rw[show RB false 0 (jc (eC s).1 0)=jc (eC s).1 0 from rfl]at q1;have h4:=aka _ _ _ _ q1;rw[q1];have e4:((bT (eC s).1 k).Kind !=4)=false:=by rw[bne_eq_false_iff_eq];exact h4
   show M.oY s [] [] [] []=_
   unfold M.oY;simp only[ht,e0,ew,q2,ic,jL,nP,e4,kj hk,av,aw,ak,ad,kH,bo,al]
  ·rw[show RB false 0 (jc (eC s).1 0)=jc (eC s).1 0 from rfl]at q1;rw[q1];refine⟨show(6:Int)≠0 by decide,ai.Name p,ai.Version p,ai.aF p,ai.Worlds p,?_⟩;unfold M.oY;simp only[ht,e0,ew,q2,ic,jL,nP,kj hk,av,aw,ak,ad,bo,al]
 ·rw[aX h0];have e0:((eC s).2.2 !=0)=true:=by rw[yU];exact h0
  refine⟨h0,[],[],[],[],?_⟩;unfold M.oY;simp only[ht,e0,av,aw,ad,al]
theorem akb(s:List UInt8)(c:ai->Bool)(hc:∀p,ix s=.inr p->M.xF p=some (c p)):M.sK s=some (match ix s with
 |.inl e=>(ai.mk [] [] [] [],e.1,e.2)
 |.inr p=>bif c p then(p,0,0)else(ai.mk [] [] [] [],0,1)):=by
 have ht:=ajk s;by_cases h0:(eC s).2.2=0
 ·have hL:=ML s h0;have hT:=TL s;have e0:((eC s).2.2 !=0)=false:=by rw[bne_eq_false_iff_eq];exact h0
  obtain⟨p,k,b,hk,a,e⟩:=aj9 hL hT hL.pos false;have e':M.xE (aC.mk (eC s).1 0 false)=some (p,sp (eC s).1 k b):=e;rcases a with⟨q1,q2⟩|⟨q1,q2⟩
  ·rw[show RB false 0 (jc (eC s).1 0)=jc (eC s).1 0 from rfl]at q1;have hw:ix s=.inr p:=by unfold ix;rw[ba h0,q1]
   have hcp:=hc p hw;rw[hw];unfold M.sK;simp only[ht,e0,e',q2,iw,hcp,av,aw,ak,al,ad];cases c p<;>rfl
  ·rw[show RB false 0 (jc (eC s).1 0)=jc (eC s).1 0 from rfl]at q1;have hw:ix s=.inl ((bT (eC s).1 k).Line,6):=by unfold ix;rw[ba h0,q1]
   rw[hw];unfold M.sK;simp only[ht,e0,e',q2,iw,lD hk,av,aw,ak,al,ad]
 ·have hw:ix s=.inl ((eC s).2.1,(eC s).2.2):=by unfold ix;rw[aX h0]
  have e0:((eC s).2.2 !=0)=true:=by rw[yU];exact h0
  rw[hw];unfold M.sK;simp only[ht,e0,av,aw,ad,al]
end M
namespace M
open Go.V (inB bV ah bq)
theorem dB{n k:Nat}(h:k<n):inB (k:Int) n=true:=by rw[dA];simpa using h
theorem twice_in(list:List (List UInt8))(hl:list.length<=1000000)(i:Nat)(hi:i<list.length):∀(f k:Nat),i-k<f->k<=i->
 ((∃j,k<=j/\j<i/\list.getD i []=list.getD j [])/\M.vi list (i:Int) f (k:Int)=some (.inl true))\/
 ((¬∃j,k<=j/\j<i/\list.getD i []=list.getD j [])/\M.vi list (i:Int) f (k:Int)=some (.inr (list,(i:Int))))
 |0,k,h,_=>by omega
 |f+1,k,h,hk=>by
  rw[M.vi];rcases cN k i with q|q
  ·rw[db (show((k:Nat):Int)<((i:Nat):Int) by omega)];simp only[bP,dB (show k<list.length by omega),dB hi,ad,al];have hw:Go.IntKind.wrap .i64 ((k:Int)+1)=((k+1:Nat):Int):=by rw[wrap_i64 (by omega) (by omega)];omega
   cases e:(list.getD i []==list.getD k [])
   ·have hne:list.getD i []≠list.getD k []:=cM.1 e;simp only[ak,hw];rcases twice_in list hl i hi f (k+1) (by omega) (by omega)with⟨⟨j,h1,h2,h3⟩,e1⟩|⟨h1,e1⟩
    ·exact Or.inl ⟨⟨j,by omega,h2,h3⟩,e1⟩
    ·refine Or.inr ⟨fun⟨j,a,b,c⟩=>?_,e1⟩;rcases Nat.eq_or_lt_of_le a with z|z
     ·rw[<-z]at c;exact hne c
     ·exact h1 ⟨j,by omega,b,c⟩
   ·exact Or.inl ⟨⟨k,ct _,q,cA.1 e⟩,rfl⟩
  ·rw[cQ (show ¬((k:Nat):Int)<((i:Nat):Int) by omega)];exact Or.inr ⟨fun⟨j,a,b,_⟩=>by omega,rfl⟩
theorem TN(list:List (List UInt8))(hl:list.length<=1000000):∀(f i:Nat),list.length-i<f->i<=list.length->
 ((∃a b,i<=a/\a<list.length/\b<a/\list.getD a []=list.getD b [])/\M.vj f list (i:Int)=some (.inl true))\/
 ((¬∃a b,i<=a/\a<list.length/\b<a/\list.getD a []=list.getD b [])/\M.vj f list (i:Int)=some (.inr ()))
 |0,i,h,_=>by omega
 |f+1,i,h,hi=>by
  rw[M.vj];rcases cN i list.length with q|q
  ·rw[db (show((i:Nat):Int)<((list.length:Nat):Int) by omega)];have hw:Go.IntKind.wrap .i64 ((i:Int)+1)=((i+1:Nat):Int):=by rw[wrap_i64 (by omega) (by omega)];omega
   rcases twice_in list hl i q ah 0 (by have:=bq;omega) (dL _)with⟨⟨j,h1,h2,h3⟩,e1⟩|⟨h1,e1⟩
   ·refine Or.inl ⟨⟨i,j,ct _,q,h2,h3⟩,?_⟩;rw[show((0:Nat):Int)=0 from rfl]at e1;simp only[ad,e1]
   ·rw[show((0:Nat):Int)=0 from rfl]at e1;simp only[ad,e1,hw];rcases TN list hl f (i+1) (by omega) (by omega)with⟨⟨a,b,x1,x2,x3,x4⟩,e2⟩|⟨h2,e2⟩
    ·exact Or.inl ⟨⟨a,b,by omega,x2,x3,x4⟩,e2⟩
    ·refine Or.inr ⟨fun⟨a,b,x1,x2,x3,x4⟩=>?_,e2⟩;rcases Nat.eq_or_lt_of_le x1 with z|z
     ·rw[<-z]at x3 x4;exact h1 ⟨b,dL _,x3,x4⟩
     ·exact h2 ⟨a,b,by omega,x2,x3,x4⟩
  ·rw[cQ (show ¬((i:Nat):Int)<((list.length:Nat):Int) by omega)];exact Or.inr ⟨fun⟨a,b,x1,x2,_,_⟩=>by omega,rfl⟩
theorem Fo(list:List (List UInt8))(hl:list.length<=1000000):M.sL list=some (!nodupB list):=by
 unfold M.sL;have h:=TN list hl ah 0 (by have:=bq;omega) (dL _);rw[show((0:Nat):Int)=0 from rfl]at h;rcases h with⟨⟨a,b,_,x2,x3,x4⟩,e⟩|⟨h1,e⟩
 ·have:nodupB list=false:=by
   rw[Bool.eq_false_iff];intro hn;have hn:=(Fp list).1 hn;have:=uc.1 hn b a (by omega) x2 x3;rw[gd,gd,cF x2,cF (show b<list.length by omega)]at x4;exact this x4.symm
  simp only[e,this,bw]
 ·have:nodupB list=true:=by
   rw[Fp];refine uc.2 fun i j hi hj hij e2=>h1 ⟨j,i,dL _,hj,hij,?_⟩
   rw[gd,gd,cF hj,cF hi];exact e2.symm
  simp only[e,this,bM]
end M
namespace M
open Go.V (inB bV ah bq)
def nQ(u:aO):List UInt8:=bif !(u.As==[])then u.As else u.Name
def typeOf(x:af):List (List UInt8):=bif x.Kind==3 then[]else bif x.Kind==4 then x.Uses.map nQ else[x.Name]
def funcOf(x:af):List (List UInt8):=bif x.Kind==3 then[x.Name]else[]
def jd(xs:List af):List (List UInt8):=(xs.map typeOf).flatten
def je(xs:List af):List (List UInt8):=(xs.map funcOf).flatten
theorem akc(u:aO):M.AA u=some (nQ u):=by
 unfold M.AA nQ;cases (!(u.As==[]))<;>rfl
theorem akd(u:aO):M.AB u=some (nQ u):=by
 unfold M.AB nQ;cases (!(u.As==[]))<;>rfl
theorem dy{α:Type}{l:List α}{k:Nat}(d:α)(h:k<l.length):List.getD l k d=l[k]:=by
 rw[gd,cF h];rfl
theorem jf{α:Type}{l:List α}{k:Nat}(h:k<l.length):l.drop k=l[k]::l.drop (k+1):=List.drop_eq_getElem_cons h
theorem eK{k n:Nat}(h:k<n):decide ((k:Int)<(n:Int))=true:=db (by omega)
theorem iR{k n:Nat}(h:n<=k):decide ((k:Int)<(n:Int))=false:=cQ (by omega)
theorem oZ{k:Nat}(h:k<=1000000):Go.IntKind.wrap .i64 ((k:Int)+1)=((k+1:Nat):Int):=by rw[wrap_i64 (by omega) (by omega)];omega
theorem TP{t18:List aD}{t19 t20:Int}{t27:List af}{t28 t29:Int}{x:ai}{f:aD}{faces worlds funcs:List (List UInt8)}(us:List aO)(hU:us.length<=1000):∀(n k:Nat)(types:List (List UInt8)),us.length-k<n->k<=us.length->types.length+(us.length-k)<=1000->
 M.xG t18 t19 t20 t27 t28 t29 us ((us.length:Nat):Int) x f faces worlds funcs n (k:Int) types=some (t18,t19,t20,t27,t28,t29,x,f,faces,worlds,funcs,types++(us.drop k).map nQ)
 |0,k,types,h,_,_=>by omega
 |n+1,k,types,h,hk,hb=>by
  rw[M.xG];rcases cN k us.length with q|q
  ·have:=TP (t18:=t18) (t19:=t19) (t20:=t20) (t27:=t27) (t28:=t28) (t29:=t29) (x:=x) (f:=f) (faces:=faces) (worlds:=worlds) (funcs:=funcs) us hU n (k+1) (types++[nQ us[k]]) (by omega) (by omega) (by rw[aR,List.length_singleton];omega);simp only[eK q,bP,dy _ q,akc,av,aw,dH (show types.length<=1000 by omega),dB q,al,ad,oZ (show k<=1000000 by omega),this];rw[jf q,eN,fQ,List.singleton_append]
  ·simp only[iR q,ak];rw[List.drop_eq_nil_of_le q,List.map_nil,uf]
theorem TQ{t18:List aD}{t19 t20:Int}{x:ai}{f:aD}{faces worlds:List (List UInt8)}(xs:List af)(hX:xs.length<=1000)(hu:∀i∈xs,i.Uses.length<=16):∀(n k:Nat)(funcs types:List (List UInt8)),xs.length-k<n->k<=xs.length->types.length+17*(xs.length-k)<=1000->funcs.length+(xs.length-k)<=1000->
 M.sM n t18 t19 t20 xs ((xs.length:Nat):Int) (k:Int) x f faces worlds funcs types=some (t18,t19,t20,x,f,faces,worlds,funcs++je (xs.drop k),types++jd (xs.drop k))
 |0,k,_,_,h,_,_,_=>by omega
 |n+1,k,funcs,types,h,hk,hb,hc=>by
  rw[M.sM];rcases cN k xs.length with q|q
  ·have hx:=hu xs[k] (cw q);have ih:=fun fs ts=>TQ (t18:=t18) (t19:=t19) (t20:=t20) (x:=x) (f:=f) (faces:=faces) (worlds:=worlds) xs hX hu n (k+1) fs ts (by omega) (by omega)
   have eF:je (xs.drop k)=funcOf xs[k]++je (xs.drop (k+1)):=by unfold je;rw[jf q];rfl
   have eT:jd (xs.drop k)=typeOf xs[k]++jd (xs.drop (k+1)):=by unfold jd;rw[jf q];rfl
   rw[eF,eT];unfold funcOf typeOf;simp only[eK q,bP,dy _ q,ad,dB q,al,oZ (show k<=1000000 by omega)];cases h3:(xs[k].Kind==(3:Int))
   ·cases h4:(xs[k].Kind==(4:Int))
    ·have:=ih funcs (types++[xs[k].Name]) (by rw[aR,List.length_singleton];omega) (by omega);simp only[ak,ad,dH (show types.length<=1000 by omega),al,this,fA,fQ]
    ·have hm:=TP (t18:=t18) (t19:=t19) (t20:=t20) (t27:=xs) (t28:=((xs.length:Nat):Int)) (t29:=((k:Nat):Int)) (x:=x) (f:=f) (faces:=faces) (worlds:=worlds) (funcs:=funcs) xs[k].Uses (by omega) ah 0 types (by have:=bq;omega) (dL _) (by omega);rw[show((0:Nat):Int)=0 from rfl,gX]at hm;have:=ih funcs (types++xs[k].Uses.map nQ) (by rw[aR,fk];omega) (by omega);simp only[ak,ad,hm,oZ (show k<=1000000 by omega),this,fA,fQ]
   ·have:=ih (funcs++[xs[k].Name]) types (by omega) (by rw[aR,List.length_singleton];omega);simp only[ad,dH (show funcs.length<=1000 by omega),al,this,fA,fQ]
  ·simp only[iR q,ak];rw[List.drop_eq_nil_of_le q];simp[je,jd]
theorem TR{i:Int}{f:aD}{funcs:List (List UInt8)}(x:af)(hU:x.Uses.length<=1000):∀(n k:Nat)(types:List (List UInt8)),x.Uses.length-k<n->k<=x.Uses.length->types.length+(x.Uses.length-k)<=1000->
 M.xH i f funcs n (k:Int) x types=some (i,f,types++(x.Uses.drop k).map nQ,funcs)
 |0,k,types,h,_,_=>by omega
 |n+1,k,types,h,hk,hb=>by
  rw[M.xH];rcases cN k x.Uses.length with q|q
  ·have:=TR (i:=i) (f:=f) (funcs:=funcs) x hU n (k+1) (types++[nQ x.Uses[k]]) (by omega) (by omega) (by rw[aR,List.length_singleton];omega);simp only[eK q,bP,dy _ q,akd,av,aw,dH (show types.length<=1000 by omega),dB q,al,ad,oZ (show k<=1000000 by omega),af.aB,this];rw[jf q,eN,fQ,List.singleton_append]
  ·simp only[iR q,ak];rw[List.drop_eq_nil_of_le q,List.map_nil,uf]
theorem TS(f:aD)(hX:f.Items.length<=1000)(hu:∀i∈f.Items,i.Uses.length<=16/\1<=i.Kind/\i.Kind<=4):∀(n k:Nat)(funcs types:List (List UInt8)),f.Items.length-k<n->k<=f.Items.length->types.length+17*(f.Items.length-k)<=1000->funcs.length+(f.Items.length-k)<=1000->
 M.qR n (k:Int) f types funcs=some (types++jd (f.Items.drop k),funcs++je (f.Items.drop k))
 |0,k,_,_,h,_,_,_=>by omega
 |n+1,k,funcs,types,h,hk,hb,hc=>by
  rw[M.qR];rcases cN k f.Items.length with q|q
  ·have hx:=hu f.Items[k] (cw q);have ih:=fun fs ts=>TS f hX hu n (k+1) fs ts (by omega) (by omega)
   have eF:je (f.Items.drop k)=funcOf f.Items[k]++je (f.Items.drop (k+1)):=by unfold je;rw[jf q];rfl
   have eT:jd (f.Items.drop k)=typeOf f.Items[k]++jd (f.Items.drop (k+1)):=by unfold jd;rw[jf q];rfl
   rw[eF,eT];unfold funcOf typeOf;simp only[eK q,bP,dy _ q,ad,dB q,al,bo,oZ (show k<=1000000 by omega),af.aB];have hkd:f.Items[k].Kind=1\/f.Items[k].Kind=2\/f.Items[k].Kind=3\/f.Items[k].Kind=4:=by omega
   rcases hkd with e|e|e|e
   ·have:=ih funcs (types++[f.Items[k].Name]) (by rw[aR,List.length_singleton];omega) (by omega);rw[e];simp only[Int.reduceBEq,ak,ad,dH (show types.length<=1000 by omega),al,this,fA,fQ]
   ·have:=ih funcs (types++[f.Items[k].Name]) (by rw[aR,List.length_singleton];omega) (by omega);rw[e];simp only[Int.reduceBEq,ak,ad,dH (show types.length<=1000 by omega),al,this,fA,fQ]
   ·have:=ih (funcs++[f.Items[k].Name]) types (by omega) (by rw[aR,List.length_singleton];omega);rw[e];simp only[Int.reduceBEq,ak,ad,dH (show funcs.length<=1000 by omega),al,this,fA,fQ]
   ·have hm:=TR (i:=((k:Nat):Int)) (f:=f) (funcs:=funcs) f.Items[k] (by omega) ah 0 types (by have:=bq;omega) (dL _) (by omega);rw[show((0:Nat):Int)=0 from rfl,gX]at hm;have:=ih funcs (types++f.Items[k].Uses.map nQ) (by rw[aR,fk];omega) (by omega);rw[e];simp only[Int.reduceBEq,ak,ad,hm,oZ (show k<=1000000 by omega),this,fA,fQ]
  ·simp only[iR q,ak];rw[List.drop_eq_nil_of_le q];simp[je,jd]
end M
namespace M
open Go.V (inB bV ah bq)
def xI(f:aD):Prop:=f.Items.length<=16/\∀i∈f.Items,i.Uses.length<=16/\1<=i.Kind/\i.Kind<=4
def Fq(p:ai):Prop:=p.aF.length<=8/\p.Worlds.length<=8/\∀f∈p.aF,xI f
def vk(f:aD):Bool:=nodupB (jd f.Items)&&nodupB (je f.Items)
def qS(p:ai):Bool:=p.aF.all vk&&(nodupB (p.aF.map (·.Name))&&nodupB (p.Worlds.map (·.Name)))
theorem M3:∀(xs:List af),(∀i∈xs,i.Uses.length<=16)->(jd xs).length<=17*xs.length
 |[],_=>ct _
 |x::r,h=>by
  have h1:=h x (by simp);have h2:=M3 r fun i hi=>h i (by simp[hi])
  have e:jd (x::r)=typeOf x++jd r:=rfl;rw[e,aR,aU];have:(typeOf x).length<=16:=by
   unfold typeOf;cases (x.Kind==3)
   ·cases (x.Kind==4)
    ·simp
    ·simpa using h1
   ·simp
  omega
theorem M4:∀(xs:List af),(je xs).length<=xs.length
 |[]=>ct _
 |x::r=>by
  have h2:=M4 r;have e:je (x::r)=funcOf x++je r:=rfl;rw[e,aR,aU];have:(funcOf x).length<=1:=by
   unfold funcOf;cases (x.Kind==3)<;>simp
  omega
theorem TU{x:ai}{worlds:List (List UInt8)}(fs:List aD)(hX:fs.length<=8)(hf:∀f∈fs,xI f):∀(n k:Nat)(faces:List (List UInt8)),fs.length-k<n->k<=fs.length->faces.length+(fs.length-k)<=1000->
 M.xJ n fs ((fs.length:Nat):Int) (k:Int) x faces worlds=some (bif(fs.drop k).all vk then .inr (x,faces++(fs.drop k).map (·.Name),worlds)else .inl false)
 |0,k,faces,h,_,_=>by omega
 |n+1,k,faces,h,hk,hb=>by
  rw[M.xJ];rcases cN k fs.length with q|q
  ·obtain⟨hf1,hf2⟩:=hf fs[k] (cw q);have hu:=fun i hi=>(hf2 i hi).1
   have hm:=TQ (t18:=fs) (t19:=((fs.length:Nat):Int)) (t20:=((k:Nat):Int)) (x:=x) (f:=fs[k]) (faces:=faces) (worlds:=worlds) fs[k].Items (by omega) hu ah 0 [] [] (by have:=bq;omega) (dL _) (by simp;omega) (by simp;omega);rw[show((0:Nat):Int)=0 from rfl,gX,fA,fA]at hm;have l1:=M3 fs[k].Items hu;have l2:=M4 fs[k].Items;have d1:=Ft (jd fs[k].Items) (by omega);have d2:=Ft (je fs[k].Items) (by omega);have ih:=TU (x:=x) (worlds:=worlds) fs hX hf n (k+1) (faces++[fs[k].Name]) (by omega) (by omega) (by rw[aR,List.length_singleton];omega);rw[jf q,mo];simp only[eK q,bP,dy _ q,ad,hm,d1,d2,av,aw,bo,dB q,al,oZ (show k<=1000000 by omega),dH (show faces.length<=1000 by omega),ih];unfold vk;cases nodupB (je fs[k].Items)
   ·simp only[bw,bo,ad,Bool.and_false,cG,ak]
   ·cases nodupB (jd fs[k].Items)
    ·simp only[bw,bM,dT,ad,cG,ak]
    ·simp only[bM,kH,ak,al,bA,eN,fQ,List.singleton_append]
  ·simp only[iR q,ak];rw[List.drop_eq_nil_of_le q];simp
theorem TV{faces:List (List UInt8)}(ws:List aM)(hX:ws.length<=8):∀(n k:Nat)(worlds:List (List UInt8)),ws.length-k<n->k<=ws.length->worlds.length+(ws.length-k)<=1000->
 M.xK ws ((ws.length:Nat):Int) faces n (k:Int) worlds=some (faces,worlds++(ws.drop k).map (·.Name))
 |0,k,_,h,_,_=>by omega
 |n+1,k,worlds,h,hk,hb=>by
  rw[M.xK];rcases cN k ws.length with q|q
  ·have ih:=TV (faces:=faces) ws hX n (k+1) (worlds++[ws[k].Name]) (by omega) (by omega) (by rw[aR,List.length_singleton];omega);simp only[eK q,bP,dy _ q,ad,dB q,al,oZ (show k<=1000000 by omega),dH (show worlds.length<=1000 by omega),ih];rw[jf q,eN,fQ,List.singleton_append]
  ·simp only[iR q,ak];rw[List.drop_eq_nil_of_le q];simp
theorem ake(p:ai)(hp:Fq p):M.AD p=some (qS p):=by
 obtain⟨h1,h2,h3⟩:=hp;have e1:=TU (x:=p) (worlds:=[]) p.aF h1 h3 ah 0 [] (by have:=bq;omega) (dL _) (by simp;omega);have e2:=TV (faces:=p.aF.map (·.Name)) p.Worlds h2 ah 0 [] (by have:=bq;omega) (dL _) (by simp;omega);rw[show((0:Nat):Int)=0 from rfl,gX,fA]at e1 e2;have d1:=Ft (p.aF.map (·.Name)) (by rw[fk];omega);have d2:=Ft (p.Worlds.map (·.Name)) (by rw[fk];omega);unfold M.AD qS;rw[e1];cases p.aF.all vk
 ·rfl
 ·simp only[ad,e2,d1,d2,av,aw,bo,al,bA]
theorem akf(f:aD)(hf:xI f):M.AE f=some (jd f.Items,je f.Items):=by
 have hm:=TS f (by have:=hf.1;omega) hf.2 ah 0 [] [] (by have:=bq;have:=hf.1;omega) (dL _) (by simp;have:=hf.1;omega) (by simp;have:=hf.1;omega);rw[show((0:Nat):Int)=0 from rfl,gX,fA,fA]at hm;unfold M.AE;simp only[hm]
theorem TW(x:ai){worlds:List (List UInt8)}(hX:x.aF.length<=8)(hf:∀f∈x.aF,xI f):∀(n k:Nat)(faces:List (List UInt8)),x.aF.length-k<n->k<=x.aF.length->faces.length+(x.aF.length-k)<=1000->
 M.xM x worlds n (k:Int) faces=some (bif(x.aF.drop k).all vk then .inr (x,faces++(x.aF.drop k).map (·.Name),worlds)else .inl false)
 |0,k,faces,h,_,_=>by omega
 |n+1,k,faces,h,hk,hb=>by
  rw[M.xM];rcases cN k x.aF.length with q|q
  ·have hfk:=hf x.aF[k] (cw q);have hu:=fun i hi=>(hfk.2 i hi).1
   have l1:=M3 x.aF[k].Items hu;have l2:=M4 x.aF[k].Items;have l3:=hfk.1;have d1:=Fo (jd x.aF[k].Items) (by omega);have d2:=Fo (je x.aF[k].Items) (by omega);have ih:=TW x (worlds:=worlds) hX hf n (k+1) (faces++[x.aF[k].Name]) (by omega) (by omega) (by rw[aR,List.length_singleton];omega);rw[jf q,mo];simp only[eK q,bP,dy _ q,ad,akf _ hfk,d1,d2,av,aw,bo,dB q,al,oZ (show k<=1000000 by omega),dH (show faces.length<=1000 by omega),ih];unfold vk;cases nodupB (jd x.aF[k].Items)
   ·simp only[bw,bo,ad,Bool.and_false,cG,ak]
   ·cases nodupB (je x.aF[k].Items)
    ·simp only[bw,bM,dT,ad,Bool.and_false,cG,ak]
    ·simp only[bM,kH,ak,al,bA,eN,fQ,List.singleton_append]
  ·simp only[iR q,ak];rw[List.drop_eq_nil_of_le q];simp
theorem TX(x:ai){faces:List (List UInt8)}(hX:x.Worlds.length<=8):∀(n k:Nat)(worlds:List (List UInt8)),x.Worlds.length-k<n->k<=x.Worlds.length->worlds.length+(x.Worlds.length-k)<=1000->
 M.xN x faces n (k:Int) worlds=some (faces,worlds++(x.Worlds.drop k).map (·.Name))
 |0,k,_,h,_,_=>by omega
 |n+1,k,worlds,h,hk,hb=>by
  rw[M.xN];rcases cN k x.Worlds.length with q|q
  ·have ih:=TX x (faces:=faces) hX n (k+1) (worlds++[x.Worlds[k].Name]) (by omega) (by omega) (by rw[aR,List.length_singleton];omega);simp only[eK q,bP,dy _ q,ad,dB q,al,oZ (show k<=1000000 by omega),dH (show worlds.length<=1000 by omega),ih];rw[jf q,eN,fQ,List.singleton_append]
  ·simp only[iR q,ak];rw[List.drop_eq_nil_of_le q];simp
theorem akg(p:ai)(hp:Fq p):M.xF p=some (qS p):=by
 obtain⟨h1,h2,h3⟩:=hp;have e1:=TW p (worlds:=[]) h1 h3 ah 0 [] (by have:=bq;omega) (dL _) (by simp;omega);have e2:=TX p (faces:=p.aF.map (·.Name)) h2 ah 0 [] (by have:=bq;omega) (dL _) (by simp;omega);rw[show((0:Nat):Int)=0 from rfl,gX,fA]at e1 e2;have d1:=Fo (p.aF.map (·.Name)) (by rw[fk];omega);have d2:=Fo (p.Worlds.map (·.Name)) (by rw[fk];omega);unfold M.xF qS;rw[e1];cases p.aF.all vk
 ·rfl
 ·simp only[ad,e2,d1,d2,av,aw,bo,al,bA,Bool.not_not]
end M
namespace M
open Go.V (inB bV ah bq)
theorem vl{α:Type}{P:α->Prop}(l:List aj)(el:Nat->PR α)(he:∀k v k',el k=.ok v k'->P v):∀(m:Nat)(acc:List α)(k:Nat)(vs:List α)(k':Nat),(∀v∈acc,P v)->dV l el m acc k=.ok vs k'->vs.length<=acc.length+m+1/\∀v∈vs,P v
 |m,acc,k,vs,k',ha,h=>by
  rw[dV.eq_def]at h;dsimp only at h;have one:∀v k1,el k=.ok v k1->∀w∈acc++[v],P w:=fun v k1 e w hw=>by
   rcases dN.1 hw with q|q
   ·exact ha w q
   ·rw[jj.1 q];exact he _ _ _ e
  cases hk:el k with
  |no q=>rw[hk]at h;cases h
  |ok v k1=>
   rw[hk]at h;cases m with
   |zero=>
    cases h;exact⟨by rw[aR,List.length_singleton];omega,one v _ hk⟩
   |succ m=>
    simp only at h;cases hc:aH l [44] k1<;>rw[hc]at h
    ·cases h;exact⟨by rw[aR,List.length_singleton];omega,one v _ hk⟩
    ·have:=vl l el he m (acc++[v]) (k1+1) vs k' (one v k1 hk) h;rw[aR,List.length_singleton]at this;exact⟨by omega,this.2⟩
theorem AG{α:Type}{P:α->Prop}(l:List aj)(el:Nat->PR α)(he:∀k v k',el k=.ok v k'->P v):∀(m:Nat)(acc:List α)(k:Nat)(vs:List α)(k':Nat),(∀v∈acc,P v)->gC l el m acc k=.ok vs k'->vs.length<=acc.length+m/\∀v∈vs,P v
 |0,acc,k,vs,k',ha,h=>by
  rw[gC]at h;obtain⟨_,_,_,h⟩:=bind_ok h;cases h;exact⟨by omega,ha⟩
 |m+1,acc,k,vs,k',ha,h=>by
  rw[gC]at h;cases hc:aH l [125] k<;>rw[hc]at h
  ·obtain⟨v,k1,hk,h⟩:=bind_ok h;have:=AG l el he m (acc++[v]) k1 vs k' (fun w hw=>by
    rcases dN.1 hw with q|q
    ·exact ha w q
    ·rw[jj.1 q];exact he _ _ _ hk) h
   rw[aR,List.length_singleton]at this;exact⟨by omega,this.2⟩
  ·cases h;exact⟨by omega,ha⟩
theorem AH{P:aD->Prop}{Q:aM->Prop}(l:List aj)(hP:∀k v k',me l k=.ok v k'->P v)(hQ:∀k v k',qN l k=.ok v k'->Q v):∀(m:Nat)(fs:List aD)(ws:List aM)(k:Nat)(v:List aD×List aM)(k':Nat),
 fs.length<=8->ws.length<=8->(∀f∈fs,P f)->(∀w∈ws,Q w)->fx l m fs ws k=.ok v k'->v.1.length<=8/\v.2.length<=8/\(∀f∈v.1,P f)/\∀w∈v.2,Q w
 |0,fs,ws,k,v,k',h1,h2,h3,h4,h=>by
  rw[fx]at h;cases hK:((bT l k).Kind==4)<;>rw[hK]at h
  ·cases h
  ·cases h;exact⟨h1,h2,h3,h4⟩
 |m+1,fs,ws,k,v,k',h1,h2,h3,h4,h=>by
  rw[fx]at h;cases hK:((bT l k).Kind==4)<;>rw[hK]at h
  ·simp only[ak]at h;cases hF:(decide (((fs.length:Nat):Int)<8)&&aH l qQ k)<;>rw[hF]at h
   ·simp only[ak]at h;cases hW:(decide (((ws.length:Nat):Int)<8)&&aH l vh k)<;>rw[hW]at h
    ·cases h
    ·simp only[ad]at h;obtain⟨w,k1,hk,h⟩:=bind_ok h;have h8:=ll (Bool.and_eq_true_iff.1 hW).1;exact AH l hP hQ m fs (ws++[w]) k1 v k' h1 (by rw[aR,List.length_singleton];omega) h3 (fun x hx=>by
      rcases dN.1 hx with q|q
      ·exact h4 x q
      ·rw[jj.1 q];exact hQ _ _ _ hk) h
   ·simp only[ad]at h;obtain⟨f,k1,hk,h⟩:=bind_ok h;have h8:=ll (Bool.and_eq_true_iff.1 hF).1;exact AH l hP hQ m (fs++[f]) ws k1 v k' (by rw[aR,List.length_singleton];omega) h2 (fun x hx=>by
     rcases dN.1 hx with q|q
     ·exact h3 x q
     ·rw[jj.1 q];exact hP _ _ _ hk) h4 h
  ·cases h;exact⟨h1,h2,h3,h4⟩
theorem akh(l:List aj)(nm:List UInt8)(k:Nat)(v:af)(k':Nat)(h:nK l nm k=.ok v k'):v.Kind=3/\v.Uses=[]:=by
 have:∀as k,qM l nm as k=.ok v k'->v.Kind=3/\v.Uses=[]:=fun as k h=>by
  unfold qM at h;obtain⟨_,_,_,h⟩:=bind_ok h;obtain⟨_,_,_,h⟩:=bind_ok h;obtain⟨_,_,_,h⟩:=bind_ok h;cases h;exact⟨rfl,rfl⟩
 unfold nK at h;cases hc:aH l qL k<;>rw[hc]at h<;>exact this _ _ h
theorem aki(l:List aj)(k:Nat)(v:af)(k':Nat)(h:kt l k=.ok v k'):v.Uses.length<=16/\1<=v.Kind/\v.Kind<=4:=by
 unfold kt nL at h;obtain⟨x,k1,hx,h⟩:=bind_ok h;obtain⟨_,_,_,h⟩:=bind_ok h;cases h;obtain⟨nm,k2,_,hx⟩:=bind_ok hx;unfold kU at hx;cases jA:aH l [58] k2<;>rw[jA]at hx
 ·cases hR:(nm==mR)<;>rw[hR]at hx
  ·cases hY:(nm==oV)<;>rw[hY]at hx
   ·cases hU:(nm==oW)<;>rw[hU]at hx
    ·cases hx
    ·simp only[ad,ak]at hx;unfold xw at hx;obtain⟨_,_,_,hx⟩:=bind_ok hx;obtain⟨_,_,_,hx⟩:=bind_ok hx;obtain⟨_,_,_,hx⟩:=bind_ok hx;obtain⟨us,_,hu,hx⟩:=bind_ok hx;obtain⟨_,_,_,hx⟩:=bind_ok hx;cases hx;have:=(vl (P:=fun _=>True) l _ (fun _ _ _ _=>trivial) 15 [] _ us _ (fun _ _=>trivial) hu).1;exact⟨by simpa using this,by show(1:Int)<=4;decide,by show(4:Int)<=4;decide⟩
   ·simp only[ad,ak]at hx;obtain⟨_,_,_,hx⟩:=bind_ok hx;obtain⟨_,_,_,hx⟩:=bind_ok hx;obtain⟨_,_,_,hx⟩:=bind_ok hx;cases hx;exact⟨by simp,by show(1:Int)<=2;decide,by show(2:Int)<=4;decide⟩
  ·simp only[ad,ak]at hx;obtain⟨_,_,_,hx⟩:=bind_ok hx;cases hx;exact⟨by simp,by show(1:Int)<=1;decide,by show(1:Int)<=4;decide⟩
 ·obtain⟨e1,e2⟩:=akh l _ _ _ _ hx;rw[e1,e2];exact⟨by simp,by decide,by decide⟩
theorem akj(l:List aj)(k:Nat)(v:aD)(k':Nat)(h:me l k=.ok v k'):xI v:=by
 unfold me at h;obtain⟨_,_,_,h⟩:=bind_ok h;obtain⟨_,_,_,h⟩:=bind_ok h;obtain⟨xs,_,hx,h⟩:=bind_ok h;cases h;have:=AG (P:=fun v:af=>v.Uses.length<=16/\1<=v.Kind/\v.Kind<=4) l (kt l) (aki l) 16 [] _ xs _ (by simp) hx;exact⟨by simpa using this.1,this.2⟩
theorem akk(l:List aj)(k:Nat)(p:ai)(k':Nat)(h:jc l k=.ok p k'):Fq p:=by
 unfold jc at h;obtain⟨_,_,_,h⟩:=bind_ok h;obtain⟨_,_,_,h⟩:=bind_ok h;obtain⟨_,_,_,h⟩:=bind_ok h;obtain⟨_,_,_,h⟩:=bind_ok h;obtain⟨_,_,_,h⟩:=bind_ok h;obtain⟨q,k6,h6,h⟩:=bind_ok h;cases h;have:=AH (P:=xI) (Q:=fun _=>True) l (akj l) (fun _ _ _ _=>trivial) 16 [] [] _ q _ (by simp) (by simp) (by simp) (by simp) h6;exact⟨this.1,this.2.1,this.2.2.1⟩
theorem TY(s:List UInt8)(p:ai)(h:ix s=.inr p):Fq p:=by
 unfold ix at h;split at h
 ·split at h
  ·cases h
  ·rename_i hp;cases h;exact akk _ _ _ _ hp
 ·cases h
def noPack:ai:=ai.mk [] [] [] []
noncomputable def mS(s:List UInt8):ai×Int×Int:=match ix s with
 |.inl e=>(noPack,e.1,e.2)
 |.inr p=>bif qS p then(p,0,0)else(noPack,0,1)
theorem akl(s:List UInt8):M.sK s=some (mS s):=by
 rw[akb s qS fun p hp=>akg p (TY s p hp)];rfl
theorem akm(s:List UInt8):M.AI s=some (mS s):=by
 have h:=TM s;unfold M.AI mS;cases hw:ix s with
 |inl e=>
  rw[hw]at h;obtain⟨h0,n,v,fs,ws,h1⟩:=h;have e0:(e.2 !=0)=true:=by rw[yU];exact h0
  simp only[h1,e0,av,aw,ad,al];rfl
 |inr p=>
  rw[hw]at h;have h:M.oY s [] [] [] []=some (0,0,ai.Name p,ai.Version p,ai.aF p,ai.Worlds p):=h;have e0:((0:Int) !=0)=false:=rfl;have ep:ai.mk (ai.Name p) (ai.Version p) (ai.aF p) (ai.Worlds p)=p:=rfl;simp only[h,e0,ep,ake p (TY s p hw),av,aw,ak,ad,al];cases qS p<;>rfl
end M
