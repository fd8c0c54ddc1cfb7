/-
  EQUALITY of terms, on both sides.
-/
import Derived.Test.YtojfkjgemgjjkaaGreatDoorXXPb
import Derived.Test.YtojfkjgemgjjkaaGreatDoorXZQH
import Derived.Lib.Join
set_option linter.unusedVariables false
set_option linter.unusedSimpArgs false
namespace M
open Go.V (inB bS ae bf)
def fO:Nat->aa->aa->Bool
 |0,_,_=>false
 |n+1,a,b=>((a.Kind==b.Kind)&&(a.Name==b.Name))&&(dM (· ==·) a.bn b.bn&&dM (fO n) a.Kids b.Kids)
def lK:Nat->aa->Prop
 |0,_=>False
 |n+1,t=>∀x∈t.Kids,lK n x
theorem rQ{α:Type}{p:α->α->Bool}:∀(a b:List α),(∀x∈a,∀y,p x y=true->x=y)->dM p a b=true->a=b
 |[],[],_,_=>rfl
 |[],_::_,_,h=>by cases h
 |_::_,[],_,h=>by cases h
 |x::a,y::b,hp,h=>by
  rw[dM,bz]at h;rw[hp x (by simp) y h.1,rQ a b (fun z hz=>hp z (by simp[hz])) h.2]
theorem La:∀(n:Nat)(a b:aa),fO n a b=true->a=b
 |0,_,_,h=>by cases h
 |n+1,a,b,h=>by
  rw[fO,bz,bz,bz]at h;obtain⟨⟨h1,h2⟩,h3,h4⟩:=h;have e3:=rQ _ _ (fun x _ y q=>cK.1 q) h3;have e4:=rQ _ _ (fun x _ y q=>La n x y q) h4;have e1:=cK.1 h1;have e2:=cK.1 h2;cases a;cases b;cases e1;cases e2;cases e3;cases e4;rfl
theorem EX:∀(n:Nat)(a:aa),lK n a->fO n a a=true
 |0,_,h=>h.elim
 |n+1,a,h=>by
  rw[fO,cr,cr,rR a.bn (fun x _=>cr x),rR a.Kids (fun x hx=>EX n x (h x hx))];rfl
theorem aa.Bl{a x:aa}(h:x∈a.Kids):x.sz<a.sz:=by
 rw[aa.cV a];have:=RV aa.sz _ _ h;omega
theorem Lc:∀(n:Nat)(a:aa),a.sz<n->lK n a
 |0,_,h=>absurd h (w8 _)
 |n+1,a,h=>fun x hx=>Lc n x (by have:=aa.Bl hx;omega)
theorem aa.RX{a:aa}{N:Nat}(h:a.sz<=N):a.bn.length<=N:=by
 rw[aa.cV]at h;have:=d6 List.length a.bn;omega
theorem aa.EY{a:aa}{N:Nat}(h:a.sz<=N):a.Kids.length<=N:=by
 rw[aa.cV]at h;have:=d6 aa.sz a.Kids;omega
theorem agE(a b:List (List UInt8))(ha:a.length<=1048576):M.Bm a b=some (dM (· ==·) a b):=by
 unfold M.Bm;exact tV a b ha (fun f k hl h h'=>by
  rw[M.yx];simp only[getD_lt h,getD_lt h',bN,cZ,fY,h,h',da h (iO ha),eB,bM,ad];cases a[k]==b[k]<;>rfl) (fun f=>by rw[M.yx];simp)
theorem RY:∀(m:Nat)(a b:aa)(n:Nat),n<=100->n<m->a.sz<=1048576->M.vZ m a b (n:Int)=some (fO n a b)
 |0,a,b,n,h1,h2,h3=>absurd h2 (w8 _)
 |m+1,a,b,n,h1,h2,h3=>by
  show M.EZ (M.vZ m) a b _=_
  unfold M.EZ;rw[agE _ _ (aa.RX h3)];cases n with
  |zero=>rfl
  |succ n=>
   have hk:a.Kids.length<=1048576:=aa.EY h3;have d:(((n+1:Nat):Int)==0)=false:=by rw[cL];omega
   have hw:Go.IntKind.wrap .i64 (((n+1:Nat):Int)-1)=(n:Int):=by rw[wrap_i64 (by omega) (by omega)];omega
   have kids:M.Bn (M.vZ m) a.Kids b.Kids ((n+1:Nat):Int)=some (dM (fO n) a.Kids b.Kids):=by
    unfold M.Bn;exact tV a.Kids b.Kids hk (fun f k hl h h'=>by
     rw[M.yy];have hx:=aa.Bl (dt h);have:=RY m a.Kids[k] b.Kids[k] n (by omega) (by omega) (by omega);unfold M.E0;simp only[aa.bX,getD_lt h,getD_lt h',bN,cZ,fY,h,h',da h (iO hk),hw,this,eB,bM,ad,an,ak];cases fO n a.Kids[k] b.Kids[k]<;>rfl) (fun f=>by rw[M.yy];simp)
   simp only[d,kids,fO,bne,ak,an,na,bu,aj,ad];cases (a.Kind==b.Kind)<;>cases (a.Name==b.Name)<;>cases dM (· ==·) a.bn b.bn<;>rfl
end M
namespace M
open Go.V (inB bS ae bf)
theorem tX{α β:Type}(a:List α)(b:List β):(((a.length:Nat):Int) !=((b.length:Nat):Int))= !decide (a.length=b.length):=by
 by_cases h:a.length=b.length
 ·rw[h,cN rfl];simp
 ·have:(((a.length:Nat):Int) !=((b.length:Nat):Int))=true:=by rw[pE];omega
  rw[this,cY h];rfl
theorem RZ:∀(m:Nat)(a b:aa)(n:Nat),lK n a->n<=m->a.sz<=1048576->M.tY m a b=some (fO n a b)
 |0,a,b,n,h1,h2,h3=>by
  cases n with
  |zero=>exact h1.elim
  |succ n=>omega
 |m+1,a,b,n,h1,h2,h3=>by
  cases n with
  |zero=>exact h1.elim
  |succ n=>
   show M.E1 (M.tY m) a b=_
   have hk:a.Kids.length<=1048576:=aa.EY h3;have hl:a.bn.length<=1048576:=aa.RX h3;have labels:a.bn.length=b.bn.length->M.tZ ae 0 a b=some (if dM (· ==·) a.bn b.bn then .inr (a,b)else .inl false):=fun hle=>
    rS (p:=(· ==·)) (F:=fun f i=>M.tZ f i a b) (e:=(a,b)) a.bn b.bn hl hle (fun f k h h'=>by
     rw[M.tZ];simp only[aa.bX,getD_lt h,getD_lt h',bN,cZ,fY,h,h',da h (iO hl),eB,bM,ad];cases a.bn[k]==b.bn[k]<;>rfl) (fun f=>by rw[M.tZ];simp[aa.bX])
   have kids:a.Kids.length=b.Kids.length->M.ua (M.tY m) ae 0 a b=some (if dM (fO n) a.Kids b.Kids then .inr ()else .inl false):=fun hle=>
    rS (p:=fO n) (F:=fun f i=>M.ua (M.tY m) f i a b) (e:=()) a.Kids b.Kids hk hle (fun f k h h'=>by
     rw[M.ua];have hx:=aa.Bl (dt h);have:=RZ m a.Kids[k] b.Kids[k] n (h1 _ (dt h)) (by omega) (by omega);simp only[aa.bX,getD_lt h,getD_lt h',bN,cZ,fY,h,h',da h (iO hk),this,eB,bM,ad,an,ak];cases fO n a.Kids[k] b.Kids[k]<;>rfl) (fun f=>by rw[M.ua];simp)
   unfold M.E1;rw[fO,tX,tX];by_cases hle:a.bn.length=b.bn.length
   ·by_cases hke:a.Kids.length=b.Kids.length
    ·rw[cN hle,cN hke];simp only[bne,b9,lT,aa.bX,labels hle];cases (a.Kind==b.Kind)<;>cases (a.Name==b.Name)<;>cases hA:dM (· ==·) a.bn b.bn<;>simp[kids hke]<;>cases hB:dM (fO n) a.Kids b.Kids<;>simp
    ·rw[cY hke,qf _ _ _ hke];simp only[bo,ek,ad,Bool.and_false]
   ·rw[cY hle,qf _ _ _ hle];simp only[bo,ek,bu,ad,Bool.and_false,cJ]
end M
namespace M
open Go.V (inB bS ae bf)
def nR(te:aa->aa->Bool)(x y:aV):Bool:=(x.Name==y.Name)&&te x.Term y.Term
def qg(x y:aX):Bool:=(x.Name==y.Name)&&(x.As==y.As)
def nS(x y:aI):Bool:=(x.bD==y.bD)&&((x.Name==y.Name)&&(x.Version==y.Version))
def lL(te:aa->aa->Bool)(a b:ai):Bool:=((((((a.Kind==b.Kind)&&(a.Name==b.Name))&&te a.Term b.Term)&&(a.Async==b.Async))&&nS a.From b.From)&&dM qg a.Uses b.Uses)&&dM (nR te) a.Params b.Params
def nU(te:aa->aa->Bool)(a b:aG):Bool:=(a.Name==b.Name)&&dM (lL te) a.Items b.Items
def qh(a b:aO):Bool:=(a.Kind==b.Kind)&&nS a.Path b.Path
def nV(a b:aQ):Bool:=(a.Name==b.Name)&&dM qh a.Items b.Items
def lM(te:aa->aa->Bool)(a b:aw):Bool:=(((a.Name==b.Name)&&(a.Version==b.Version))&&dM (nU te) a.aD b.aD)&&dM nV a.Worlds b.Worlds
theorem agF(a b:List aX)(ha:a.length<=1048576):M.Bo a b=some (dM qg a b):=by
 unfold M.Bo;exact tV a b ha (fun f k hl h h'=>by
  rw[M.yz];unfold qg;simp only[getD_lt h,getD_lt h',bN,cZ,fY,h,h',da h (iO ha),eB,bM,ad];cases ((a[k].Name==b[k].Name)&&(a[k].As==b[k].As))<;>rfl) (fun f=>by rw[M.yz];simp)
theorem agG(a b:List aO)(ha:a.length<=1048576):M.Bq a b=some (dM qh a b):=by
 unfold M.Bq;exact tV a b ha (fun f k hl h h'=>by
  rw[M.yA];unfold qh nS;simp only[getD_lt h,getD_lt h',bN,cZ,fY,h,h',da h (iO ha),eB,bM,ad];cases ((a[k].Kind==b[k].Kind)&&((a[k].Path.bD==b[k].Path.bD)&&((a[k].Path.Name==b[k].Path.Name)&&(a[k].Path.Version==b[k].Path.Version))))<;>rfl) (fun f=>by rw[M.yA];simp)
theorem R7(a b:aa)(h:a.sz<=1048576):M.yB a b 5=some (fO 5 a b):=RY ae a b 5 (by omega) (by have:=bf;omega) h
theorem agH(x y:aV)(h:x.Term.sz<=1048576):M.Br x y=some (nR (fO 5) x y):=by
 unfold M.Br nR;simp only[aa.bX,R7 _ _ h,ak,an,bu,aj,ad]
theorem agI(a b:List aV)(ha:a.length<=1048576)(hs:∀x∈a,x.Term.sz<=1048576):M.Bt a b=some (dM (nR (fO 5)) a b):=by
 unfold M.Bt;exact tV a b ha (fun f k hl h h'=>by
  rw[M.yC];simp only[aV.bX,getD_lt h,getD_lt h',bN,cZ,fY,h,h',da h (iO ha),agH _ _ (hs _ (dt h)),eB,bM,ad,an,ak];cases nR (fO 5) a[k] b[k]<;>rfl) (fun f=>by rw[M.yC];simp)
theorem agJ(a b:ai)(h:a.sz<=1048576):M.Bv a b=some (lL (fO 5) a b):=by
 have hs:=ai.cV a;have l1:=d6 aV.sz a.Params;have l2:=d6 aX.sz a.Uses;unfold M.Bv lL nS;simp only[aa.bX,R7 a.Term b.Term (by omega),agF a.Uses b.Uses (by omega),agI a.Params b.Params (by omega) (fun x hx=>by
  have:=gA aV.sz a.Params x hx;have:=aV.cV x;omega),ak,an,bu,aj,bM,ad]
theorem agK(a b:List ai)(ha:a.length<=1048576)(hs:∀x∈a,x.sz<=1048576):M.By a b=some (dM (lL (fO 5)) a b):=by
 unfold M.By;exact tV a b ha (fun f k hl h h'=>by
  rw[M.yD];simp only[ai.bX,getD_lt h,getD_lt h',bN,cZ,fY,h,h',da h (iO ha),agJ _ _ (hs _ (dt h)),eB,bM,ad,an,ak];cases lL (fO 5) a[k] b[k]<;>rfl) (fun f=>by rw[M.yD];simp)
theorem agL(a b:aG)(h:a.sz<=1048576):M.Bz a b=some (nU (fO 5) a b):=by
 have hs:=aG.cV a;have l1:=d6 ai.sz a.Items;unfold M.Bz nU;simp only[agK a.Items b.Items (by omega) (fun x hx=>by have:=gA ai.sz a.Items x hx;omega),ak,an,bu,aj,ad]
theorem agM(a b:List aG)(ha:a.length<=1048576)(hs:∀x∈a,x.sz<=1048576):M.BB a b=some (dM (nU (fO 5)) a b):=by
 unfold M.BB;exact tV a b ha (fun f k hl h h'=>by
  rw[M.yE];simp only[getD_lt h,getD_lt h',bN,cZ,fY,h,h',da h (iO ha),agL _ _ (hs _ (dt h)),eB,bM,ad,an,ak];cases nU (fO 5) a[k] b[k]<;>rfl) (fun f=>by rw[M.yE];simp)
theorem agN(a b:aQ)(h:a.sz<=1048576):M.BC a b=some (nV a b):=by
 have hs:=aQ.cV a;have l1:=d6 aO.sz a.Items;unfold M.BC nV;simp only[agG a.Items b.Items (by omega),ak,an,bu,aj,ad]
theorem agO(a b:List aQ)(ha:a.length<=1048576)(hs:∀x∈a,x.sz<=1048576):M.BD a b=some (dM nV a b):=by
 unfold M.BD;exact tV a b ha (fun f k hl h h'=>by
  rw[M.yF];simp only[getD_lt h,getD_lt h',bN,cZ,fY,h,h',da h (iO ha),agN _ _ (hs _ (dt h)),eB,bM,ad,an,ak];cases nV a[k] b[k]<;>rfl) (fun f=>by rw[M.yF];simp)
theorem R9(a b:aw)(h:a.sz<=1048576):M.v7 a b=some (lM (fO 5) a b):=by
 have hs:=aw.cV a;have l1:=d6 aG.sz a.aD;have l2:=d6 aQ.sz a.Worlds;unfold M.v7 lM;simp only[agM a.aD b.aD (by omega) (fun x hx=>by have:=gA aG.sz a.aD x hx;omega),agO a.Worlds b.Worlds (by omega) (fun x hx=>by have:=gA aQ.sz a.Worlds x hx;omega),ak,an,bu,aj,ad]
end M
namespace M
open Go.V (inB bS ae bf)
def jK(a b:aa):Bool:=fO (a.sz+1) a b
theorem Ld(a b:aa):jK a b=true↔a=b:=⟨La _ _ _,fun h=>by subst h;exact EX _ _ (Lc _ _ (by omega))⟩
theorem Si(a b:aa)(h:a.sz<=1048576):M.BE a b=some (jK a b):=RZ ae a b (a.sz+1) (Lc _ _ (by omega)) (by have:=bf;omega) h
theorem agP(a b:ai)(h:a.sz<=1048576):M.BF a b=some (lL jK a b):=by
 have hs:=ai.cV a;have l1:=d6 aV.sz a.Params;have l2:=d6 aX.sz a.Uses;have hp:a.Params.length<=1048576:=by omega
 have hu:a.Uses.length<=1048576:=by omega
 have params:a.Params.length=b.Params.length->M.ub ae 0 a b=some (if dM (nR jK) a.Params b.Params then .inr (a,b)else .inl false):=fun hle=>
  rS (p:=nR jK) (F:=fun f i=>M.ub f i a b) (e:=(a,b)) a.Params b.Params hp hle (fun f k h h'=>by
   have z1:=gA aV.sz a.Params _ (dt h);have z2:=aV.cV a.Params[k];rw[M.ub];unfold nR;simp only[ai.bX,aa.bX,getD_lt h,getD_lt h',bN,cZ,fY,h,h',da h (iO hp),Si _ _ (show a.Params[k].Term.sz<=1048576 by omega),eB,bM,bu,ad,an,ak];cases (a.Params[k].Name==b.Params[k].Name)<;>cases jK a.Params[k].Term b.Params[k].Term<;>rfl) (fun f=>by rw[M.ub];simp[ai.bX])
 have uses:a.Uses.length=b.Uses.length->M.uc ae 0 a b=some (if dM qg a.Uses b.Uses then .inr ()else .inl false):=fun hle=>
  rS (p:=qg) (F:=fun f i=>M.uc f i a b) (e:=()) a.Uses b.Uses hu hle (fun f k h h'=>by
   rw[M.uc];unfold qg;simp only[ai.bX,getD_lt h,getD_lt h',bN,cZ,fY,h,h',da h (iO hu),eB,bM,ad];cases (a.Uses[k].Name==b.Uses[k].Name)<;>cases (a.Uses[k].As==b.Uses[k].As)<;>rfl) (fun f=>by rw[M.uc];simp)
 unfold M.BF lL;rw[tX,tX];have agQ:(((a.From.bD==b.From.bD)&&((a.From.Name==b.From.Name)&&((a.From.Version==b.From.Version)&&true))))=nS a.From b.From:=by unfold nS;rw[bM]
 simp only[aa.bX,ai.bX,Si a.Term b.Term (by omega),ak,an,agQ,bne,bu,aj];by_cases hle:a.Params.length=b.Params.length
 ·by_cases hue:a.Uses.length=b.Uses.length
  ·rw[cN hle,cN hue,params hle];cases hA:dM (nR jK) a.Params b.Params<;>cases hB:dM qg a.Uses b.Uses<;>simp[uses hue,hB,ai.bX]<;>cases (a.Kind==b.Kind)<;>cases (a.Name==b.Name)<;>cases jK a.Term b.Term<;>cases (a.Async==b.Async)<;>cases nS a.From b.From<;>rfl
  ·rw[cY hue,qf _ _ _ hue];simp only[bo,ek,ad,Bool.and_false,cJ]
 ·rw[cY hle,qf _ _ _ hle];simp only[bo,ek,bu,ad,Bool.and_false,cJ]
end M
namespace M
open Go.V (inB bS ae bf)
theorem agR(a b:aw)(h:a.sz<=1048576)(hle:a.aD.length=b.aD.length):M.ud ae 0 a b=some (if dM (nU jK) a.aD b.aD then .inr (a,b)else .inl false):=by
 have hs:=aw.cV a;have l1:=d6 aG.sz a.aD;have hf:a.aD.length<=1048576:=by omega
 refine rS (p:=nU jK) (F:=fun f i=>M.ud f i a b) (e:=(a,b)) a.aD b.aD hf hle (fun f k h1 h2=>?_) (fun f=>by rw[M.ud];simp);have z1:=gA aG.sz a.aD _ (dt h1);have z2:=aG.cV a.aD[k];have z3:=d6 ai.sz a.aD[k].Items;have hi:a.aD[k].Items.length<=1048576:=by omega
 have inner:a.aD[k].Items.length=b.aD[k].Items.length->M.ue (k:Int) a b ae 0=some (if dM (lL jK) a.aD[k].Items b.aD[k].Items then .inr ((k:Int),a,b)else .inl false):=fun gU=>
  rS (p:=lL jK) (F:=fun f j=>M.ue (k:Int) a b f j) (e:=((k:Int),a,b)) a.aD[k].Items b.aD[k].Items hi gU (fun f j g1 g2=>by
   have y1:=gA ai.sz a.aD[k].Items _ (dt g1);rw[M.ue];simp only[ai.bX,getD_lt h1,getD_lt h2,getD_lt g1,getD_lt g2,bN,cZ,fY,h1,h2,g1,g2,da g1 (iO hi),agP _ _ (show(a.aD[k].Items[j]).sz<=1048576 by omega),eB,bM,ad,an,ak];cases lL jK a.aD[k].Items[j] b.aD[k].Items[j]<;>rfl) (fun f=>by rw[M.ue];simp[getD_lt h1,cZ,h1])
 rw[M.ud];unfold nU;simp only[getD_lt h1,getD_lt h2,bN,cZ,fY,h1,h2,tX,eB,bj,bu,bM,ad,aj];by_cases gU:a.aD[k].Items.length=b.aD[k].Items.length
 ·rw[cN gU,inner gU];cases (a.aD[k].Name==b.aD[k].Name)<;>cases dM (lL jK) a.aD[k].Items b.aD[k].Items<;>simp[da h1 (iO hf)]
 ·rw[cY gU,qf _ _ _ gU];simp only[bo,ek,ad,Bool.and_false,al]
theorem agS(a b:aw)(h:a.sz<=1048576)(hle:a.Worlds.length=b.Worlds.length):M.uf ae 0 a b=some (if dM nV a.Worlds b.Worlds then .inr ()else .inl false):=by
 have hs:=aw.cV a;have l1:=d6 aQ.sz a.Worlds;have hf:a.Worlds.length<=1048576:=by omega
 refine rS (p:=nV) (F:=fun f i=>M.uf f i a b) (e:=()) a.Worlds b.Worlds hf hle (fun f k h1 h2=>?_) (fun f=>by rw[M.uf];simp);have z1:=gA aQ.sz a.Worlds _ (dt h1);have z2:=aQ.cV a.Worlds[k];have z3:=d6 aO.sz a.Worlds[k].Items;have hi:a.Worlds[k].Items.length<=1048576:=by omega
 have inner:a.Worlds[k].Items.length=b.Worlds[k].Items.length->M.ug (k:Int) a b ae 0=some (if dM qh a.Worlds[k].Items b.Worlds[k].Items then .inr ((k:Int),a,b)else .inl false):=fun gU=>
  rS (p:=qh) (F:=fun f j=>M.ug (k:Int) a b f j) (e:=((k:Int),a,b)) a.Worlds[k].Items b.Worlds[k].Items hi gU (fun f j g1 g2=>by
   rw[M.ug];unfold qh nS;simp only[getD_lt h1,getD_lt h2,getD_lt g1,getD_lt g2,bN,cZ,fY,h1,h2,g1,g2,da g1 (iO hi),eB,bM,ad];cases ((a.Worlds[k].Items[j].Kind==b.Worlds[k].Items[j].Kind)&&((a.Worlds[k].Items[j].Path.bD==b.Worlds[k].Items[j].Path.bD)&&((a.Worlds[k].Items[j].Path.Name==b.Worlds[k].Items[j].Path.Name)&&(a.Worlds[k].Items[j].Path.Version==b.Worlds[k].Items[j].Path.Version))))<;>rfl) (fun f=>by rw[M.ug];simp[getD_lt h1,cZ,h1])
 rw[M.uf];unfold nV;simp only[getD_lt h1,getD_lt h2,bN,cZ,fY,h1,h2,tX,eB,bj,bu,bM,ad,aj];by_cases gU:a.Worlds[k].Items.length=b.Worlds[k].Items.length
 ·rw[cN gU,inner gU];cases (a.Worlds[k].Name==b.Worlds[k].Name)<;>cases dM qh a.Worlds[k].Items b.Worlds[k].Items<;>simp[da h1 (iO hf)]
 ·rw[cY gU,qf _ _ _ gU];simp only[bo,ek,ad,Bool.and_false,al]
theorem agT(a b:aw)(h:a.sz<=1048576):M.BG a b=some (lM jK a b):=by
 unfold M.BG lM;rw[tX,tX];by_cases hf:a.aD.length=b.aD.length
 ·by_cases hw:a.Worlds.length=b.Worlds.length
  ·rw[cN hf,cN hw,agR a b h hf];cases (a.Name==b.Name)<;>cases (a.Version==b.Version)<;>cases hA:dM (nU jK) a.aD b.aD<;>cases hB:dM nV a.Worlds b.Worlds<;>simp[agS a b h hw,hB]
  ·rw[cY hw,qf _ _ _ hw];simp only[bo,ek,ad,Bool.and_false]
 ·rw[cY hf,qf _ _ _ hf];simp only[bo,ek,bu,ad,Bool.and_false,cJ]
end M
namespace M
open Go.V (inB bS ae bf)
theorem Sj(a b:aI)(h:nS a b=true):a=b:=by
 unfold nS at h;rw[bz,bz]at h;obtain⟨h1,h2,h3⟩:=h;cases a;cases b;cases cK.1 h1;cases cK.1 h2;cases cK.1 h3;rfl
theorem agU(a b:aX)(h:qg a b=true):a=b:=by
 unfold qg at h;rw[bz]at h;cases a;cases b;cases cK.1 h.1;cases cK.1 h.2;rfl
theorem agV{te:aa->aa->Bool}(ht:∀a b,te a b=true->a=b)(a b:aV)(h:nR te a b=true):a=b:=by
 unfold nR at h;rw[bz]at h;cases a;cases b;cases cK.1 h.1;cases ht _ _ h.2;rfl
theorem agW{te:aa->aa->Bool}(ht:∀a b,te a b=true->a=b)(a b:ai)(h:lL te a b=true):a=b:=by
 unfold lL at h;simp only[bz]at h;obtain⟨⟨⟨⟨⟨⟨h1,h2⟩,h3⟩,h4⟩,h5⟩,h6⟩,h7⟩:=h;have e1:=cK.1 h1;have e2:=cK.1 h2;have e3:=ht _ _ h3;have e4:=cK.1 h4;have e5:=Sj _ _ h5;have e6:=rQ _ _ (fun x _ y q=>agU x y q) h6;have e7:=rQ _ _ (fun x _ y q=>agV ht x y q) h7;cases a;cases b;cases e1;cases e2;cases e3;cases e4;cases e5;cases e6;cases e7;rfl
theorem agX{te:aa->aa->Bool}(ht:∀a b,te a b=true->a=b)(a b:aG)(h:nU te a b=true):a=b:=by
 unfold nU at h;rw[bz]at h;have e1:=cK.1 h.1;have e2:=rQ _ _ (fun x _ y q=>agW ht x y q) h.2;cases a;cases b;cases e1;cases e2;rfl
theorem agY(a b:aO)(h:qh a b=true):a=b:=by
 unfold qh at h;rw[bz]at h;have e1:=cK.1 h.1;have e2:=Sj _ _ h.2;cases a;cases b;cases e1;cases e2;rfl
theorem agZ(a b:aQ)(h:nV a b=true):a=b:=by
 unfold nV at h;rw[bz]at h;have e1:=cK.1 h.1;have e2:=rQ _ _ (fun x _ y q=>agY x y q) h.2;cases a;cases b;cases e1;cases e2;rfl
theorem Sl{te:aa->aa->Bool}(ht:∀a b,te a b=true->a=b)(a b:aw)(h:lM te a b=true):a=b:=by
 unfold lM at h;simp only[bz]at h;obtain⟨⟨⟨h1,h2⟩,h3⟩,h4⟩:=h;have e1:=cK.1 h1;have e2:=cK.1 h2;have e3:=rQ _ _ (fun x _ y q=>agX ht x y q) h3;have e4:=rQ _ _ (fun x _ y q=>agZ x y q) h4;cases a;cases b;cases e1;cases e2;cases e3;cases e4;rfl
theorem Sm(a:aI):nS a a=true:=by unfold nS;simp
theorem ag0{te:aa->aa->Bool}(a:ai)(h1:te a.Term a.Term=true)(h2:∀p∈a.Params,te p.Term p.Term=true):lL te a a=true:=by
 unfold lL;rw[h1,Sm,rR a.Uses (fun x _=>by unfold qg;simp),rR a.Params (fun x hx=>by unfold nR;rw[h2 x hx];simp)];simp
theorem Sr{te:aa->aa->Bool}(a:aw)(h:∀f∈a.aD,∀x∈f.Items,te x.Term x.Term=true/\∀p∈x.Params,te p.Term p.Term=true):lM te a a=true:=by
 unfold lM;rw[rR a.aD (fun f hf=>by unfold nU;rw[rR f.Items (fun x hx=>ag0 x (h f hf x hx).1 (h f hf x hx).2)];simp),rR a.Worlds (fun w _=>by unfold nV;rw[rR w.Items (fun x _=>by unfold qh;rw[Sm];simp)];simp)];simp
theorem Le(a b:aw):lM jK a b=true↔a=b:=⟨Sl (fun x y h=>(Ld x y).1 h) a b,fun h=>by
 subst h;exact Sr a fun f _ x _=>⟨(Ld _ _).2 rfl,fun p _=>(Ld _ _).2 rfl⟩⟩
def BH(a:aw):Prop:=∀f∈a.aD,∀x∈f.Items,lK 5 x.Term/\∀p∈x.Params,lK 5 p.Term
theorem Ss(a b:aw)(hb:BH b):lM (fO 5) a b=true↔a=b:=⟨Sl (fun x y h=>La 5 x y h) a b,fun h=>by
 subst h;exact Sr a fun f hf x hx=>⟨EX 5 _ (hb f hf x hx).1,fun p hp=>EX 5 _ ((hb f hf x hx).2 p hp)⟩⟩
end M
namespace M
open Go.V (inB bS ae bf)
theorem Lh(d:Nat):lK (d+1) dG:=fun x hx=>by cases hx
theorem Lj(d:Nat)(K:Int)(nm:List UInt8)(ls:List (List UInt8)):lK (d+1) (aa.mk K nm ls []):=fun x hx=>by cases hx
theorem ag1{l:List af}{K:Int}{g:Nat->PR aa}{P:aa->Prop}(hu:P dG)(hg:∀k t k',g k=.ok t k'->P t){k k':Nat}{v:List UInt8×List aa}(h:gj l K g k=.ok v k'):∀t∈v.2,P t:=by
 unfold gj at h;obtain⟨w,k1,_,h⟩:=bind_ok h;cases h16:(K==(16:Int))<;>rw[h16]at h
 ·cases h17:(K==(17:Int))<;>rw[h17]at h
  ·cases h;intro t ht;cases ht
  ·simp only[al,ad]at h;cases hc:aA l [40] k1<;>rw[hc]at h
   ·cases h;intro t ht;rw[eI.1 ht];exact hu
   ·obtain⟨t0,_,h0,h⟩:=bind_ok h;obtain⟨_,_,_,h⟩:=bind_ok h;cases h;intro t ht;rw[eI.1 ht];exact hg _ _ _ h0
 ·obtain⟨_,_,_,h⟩:=bind_ok h;obtain⟨t0,_,h0,h⟩:=bind_ok h;cases h;intro t ht;rw[eI.1 ht];exact hg _ _ _ h0
theorem ag2{l:List af}{g:Nat->PR aa}{P:aa->Prop}(hu:P dG)(hg:∀k t k',g k=.ok t k'->P t){k k':Nat}{v:List aa}(h:l8 l g k=.ok v k'):∀t∈v,P t:=by
 unfold l8 at h;cases h60:aA l [60] k<;>rw[h60]at h
 ·cases h;intro t ht;simp only[eY,sH,sL]at ht;rcases ht with q|q<;>(rw[q];exact hu)
 ·simp only[ad]at h;obtain⟨a,k1,ha,h⟩:=bind_ok h;obtain⟨b,k2,hb,h⟩:=bind_ok h;obtain⟨_,_,_,h⟩:=bind_ok h;cases h;have pa:P a:=by
   cases h95:aA l [95] (k+1)<;>rw[h95]at ha
   ·exact hg _ _ _ ha
   ·cases ha;exact hu
  have pb:P b:=by
   cases ju:aA l [44] k1<;>rw[ju]at hb
   ·cases hb;exact hu
   ·exact hg _ _ _ hb
  intro t ht;simp only[eY,sH,sL]at ht;rcases ht with q|q<;>(rw[q];assumption)
theorem E2(l:List af):∀(d k:Nat)(t:aa)(k':Nat),dO l d k=.ok t k'->lK (d+1) t
 |0,k,t,k',h=>by cases h
 |d+1,k,t,k',h=>by
  rw[dO]at h;obtain⟨w,k1,_,h⟩:=bind_ok h;have ih:=E2 l d;generalize dK w=K at h;cases c0:(K==0)<;>rw[c0]at h
  ·simp only[al]at h;cases c1:((K==12)||((K==13)||((K==22)||(K==23))))<;>rw[c1]at h
   ·simp only[al]at h;cases c2:(K==15)<;>rw[c2]at h
    ·simp only[al]at h;cases c3:((K==20)||(K==21))<;>rw[c3]at h
     ·simp only[al]at h;cases c4:(K==14)<;>rw[c4]at h
      ·simp only[al]at h;cases c5:((K==16)||((K==17)||((K==18)||(K==19))))<;>rw[c5]at h
       ·cases h;exact Lj _ _ _ _
       ·simp only[ad]at h;obtain⟨_,_,_,h⟩:=bind_ok h;obtain⟨ps,_,hp,h⟩:=bind_ok h;obtain⟨_,_,_,h⟩:=bind_ok h;cases h;have:=(vY (P:=fun v:List UInt8×List aa=>∀t∈v.2,lK (d+1) t) l _ (fun k v k' hv=>ag1 (Lh d) ih hv) 15 [] _ ps _ (fun v hv=>by cases hv) hp).2;intro x hx;obtain⟨q,hq,hx⟩:=List.mem_flatten.1 hx;obtain⟨v,hv,rfl⟩:=xa.1 hq;exact this v hv x hx
      ·simp only[ad]at h;obtain⟨ts,_,hp,h⟩:=bind_ok h;cases h;exact ag2 (Lh d) ih hp
     ·simp only[ad]at h;obtain⟨_,_,_,h⟩:=bind_ok h;obtain⟨_,_,_,h⟩:=bind_ok h;obtain⟨_,_,_,h⟩:=bind_ok h;cases h;exact Lj _ _ _ _
    ·simp only[ad]at h;obtain⟨_,_,_,h⟩:=bind_ok h;obtain⟨ts,_,hp,h⟩:=bind_ok h;obtain⟨_,_,_,h⟩:=bind_ok h;cases h;exact(vY (P:=fun v=>lK (d+1) v) l _ ih 5 [] _ ts _ (fun v hv=>by cases hv) hp).2
   ·simp only[ad]at h;obtain⟨_,_,_,h⟩:=bind_ok h;obtain⟨t0,_,h0,h⟩:=bind_ok h;obtain⟨_,_,_,h⟩:=bind_ok h;cases h;intro x hx;rw[eI.1 hx];exact ih _ _ _ h0
  ·cases h;exact Lj _ _ _ _
end M
namespace M
open Go.V (inB bS ae bf)
def v8(x:ai):Prop:=lK 5 x.Term/\∀p∈x.Params,lK 5 p.Term
theorem ag3{l:List af}{k k':Nat}{v:aV}(h:jG l k=.ok v k'):lK 5 v.Term:=by
 unfold jG at h;obtain⟨_,_,_,h⟩:=bind_ok h;obtain⟨_,_,_,h⟩:=bind_ok h;obtain⟨t,_,ht,h⟩:=bind_ok h;cases h;exact E2 l 4 _ _ _ ht
theorem ag4(l:List af)(nm:List UInt8)(k:Nat)(v:ai)(k':Nat)(h:ml l nm k=.ok v k'):v8 v:=by
 have:∀as k,nJ l nm as k=.ok v k'->v8 v:=fun as k h=>by
  unfold nJ at h;obtain⟨_,_,_,h⟩:=bind_ok h;obtain⟨ps,k1,hp,h⟩:=bind_ok h;obtain⟨t,k2,ht,h⟩:=bind_ok h;cases h;refine⟨?_,?_⟩
  ·unfold tO at ht;cases hc:aA l [45,62] k1<;>rw[hc]at ht
   ·cases ht;exact Lh 4
   ·exact E2 l 4 _ _ _ ht
  ·unfold rL at hp;obtain⟨_,k3,_,hp⟩:=bind_ok hp;cases hc:aA l [41] k3<;>rw[hc]at hp
   ·simp only[al]at hp;obtain⟨qs,_,hq,hp⟩:=bind_ok hp;obtain⟨_,_,_,hp⟩:=bind_ok hp;cases hp;exact(vY (P:=fun v:aV=>lK 5 v.Term) l _ (fun _ _ _ hv=>ag3 hv) 5 [] _ _ _ (fun v hv=>by cases hv) hq).2
   ·cases hp;intro p hp;cases hp
 unfold ml at h;cases hc:aA l qa k<;>rw[hc]at h<;>exact this _ _ h
theorem ag5(l:List af)(k:Nat)(v:ai)(k':Nat)(h:jH l k=.ok v k'):v8 v:=by
 have hn:∀(K:Int)(n:List UInt8)(p:aI)(us:List aX),v8 (ai.mk K n mj [] false p us):=fun K n p us=>⟨(fun x hx=>by cases hx),(fun p hp=>by cases hp)⟩
 unfold jH nK at h;obtain⟨x,k1,hx,h⟩:=bind_ok h;obtain⟨_,_,_,h⟩:=bind_ok h;cases h;obtain⟨nm,k2,_,hx⟩:=bind_ok hx;unfold kf at hx;cases kg:aA l [58] k2<;>rw[kg]at hx
 ·cases hR:(nm==nI)<;>rw[hR]at hx
  ·cases hY:(nm==qb)<;>rw[hY]at hx
   ·cases hU:(nm==qc)<;>rw[hU]at hx
    ·cases hx
    ·simp only[ad,al]at hx;unfold rM at hx;obtain⟨_,_,_,hx⟩:=bind_ok hx;obtain⟨_,_,_,hx⟩:=bind_ok hx;obtain⟨_,_,_,hx⟩:=bind_ok hx;obtain⟨us,_,hu,hx⟩:=bind_ok hx;obtain⟨_,_,_,hx⟩:=bind_ok hx;cases hx;exact hn _ _ _ _
   ·simp only[ad,al]at hx;obtain⟨_,_,_,hx⟩:=bind_ok hx;obtain⟨_,_,_,hx⟩:=bind_ok hx;obtain⟨t,_,ht,hx⟩:=bind_ok hx;cases hx;exact⟨E2 l 4 _ _ _ ht,(fun p hp=>by cases hp)⟩
  ·simp only[ad,al]at hx;obtain⟨_,_,_,hx⟩:=bind_ok hx;cases hx;exact hn _ _ _ _
 ·exact ag4 l _ _ _ _ hx
theorem ag6(l:List af)(k:Nat)(p:aw)(k':Nat)(h:gk l k=.ok p k'):BH p:=by
 unfold gk at h;obtain⟨_,_,_,h⟩:=bind_ok h;obtain⟨_,_,_,h⟩:=bind_ok h;obtain⟨_,_,_,h⟩:=bind_ok h;obtain⟨_,_,_,h⟩:=bind_ok h;obtain⟨_,_,_,h⟩:=bind_ok h;obtain⟨q,k6,h6,h⟩:=bind_ok h;cases h;have hf:∀k v k',kX l k=.ok v k'->∀x∈v.Items,v8 x:=fun k v k' h=>by
  unfold kX at h;obtain⟨_,_,_,h⟩:=bind_ok h;obtain⟨_,_,_,h⟩:=bind_ok h;obtain⟨xs,_,hx,h⟩:=bind_ok h;cases h;exact(Bi (P:=v8) l (jH l) (ag5 l) 16 [] _ xs _ (fun v hv=>by cases hv) hx).2
 exact(Bj (P:=fun f=>∀x∈f.Items,v8 x) (Q:=fun _=>True) l hf (fun _ _ _ _=>trivial) 16 [] [] _ q _ (by simp) (by simp) (by simp) (by simp) h6).2.2.1
theorem Su(s:List UInt8):BH (je s).1:=by
 unfold je fN;have h0:BH noPack:=fun f hf=>by cases hf
 split
 ·exact h0
 ·rename_i p hp;split at hp
  ·split at hp
   ·cases hp
   ·rename_i hq;cases hp;cases mm p
    ·exact h0
    ·exact ag6 _ _ _ _ hq
  ·cases hp
end M
namespace M
open Go.V (inB bS ae bf)
noncomputable def g9(x:aw)(t:List UInt8):Bool:=((je t).2.2==0)&&lM jK x (je t).1
theorem ag7(x:aw)(t:List UInt8):(((je t).2.2==(0:Int))&&lM (fO 5) x (je t).1)=g9 x t:=by
 unfold g9;have e:lM (fO 5) x (je t).1=lM jK x (je t).1:=by
  rw[m9,Ss x _ (Su t),Le]
 rw[e]
theorem Ll(x:aw)(t:List UInt8)(h:g9 x t=true):fN t=.inr x:=by
 unfold g9 at h;rw[bz,Le]at h;obtain⟨h1,h2⟩:=h;have h1:=cK.1 h1;unfold je at h1 h2;cases hw:fN t with
 |inl e=>
  rw[hw]at h1;have:=RH t;rw[hw]at this;exact absurd h1 this.1
 |inr p=>
  rw[hw]at h1 h2;cases hc:mm p
  ·simp only[hc,al]at h1;exact absurd h1 (by decide)
  ·simp only[hc,ad]at h2;rw[h2]
theorem Sv(x:aw)(t:List UInt8)(hx:x.sz<=1048576)(ht:M.uh x=some t):M.yG x=some (t,g9 x t):=by
 unfold M.yG;rw[<-ag7];simp only[ht,EW,R9 x _ hx,ak,an,bu,aj,ad]
theorem Sz(x:aw)(t:List UInt8)(hx:x.sz<=1048576)(ht:M.uh x=some t):M.nW x=some (g9 x t):=by
 unfold M.nW;rw[Sv x t hx ht];rfl
theorem ag8(x:aw)(hs:M.ui x=some false):M.rT x=some false:=by
 unfold M.rT;simp only[hs,ak,an,bo,ad,aj]
theorem SA(x:aw)(t:List UInt8)(hx:x.sz<=1048576)(hs:M.ui x=some true)(ht:M.qi x=some t):M.rT x=some (g9 x t):=by
 unfold M.rT g9;simp only[hs,ht,agD,agT x _ hx,ak,an,b9,al,bu,aj,ad]
end M
namespace M
open Go.V (inB bS ae bf)
theorem SB(x:aw)(h:¬∃t,fN t=.inr x)(t:List UInt8):g9 x t=false:=by
 cases hb:g9 x t with
 |false=>rfl
 |true=>exact absurd ⟨t,Ll x t hb⟩ h
theorem ag9(x:aw)(ti:List UInt8)(hx:x.sz<=1048576)(hi:M.uh x=some ti)(sh:Bool)(hs:M.ui x=some sh)
 (h0:sh=true->∃ts,M.qi x=some ts) (h1:(∃t,fN t=.inr x)->sh=true/\M.qi x=some ti):
 M.nW x=some (g9 x ti)/\M.rT x=some (g9 x ti)/\(g9 x ti=true->M.qi x=some ti):=by
 refine⟨Sz x ti hx hi,?_,fun h=>(h1 ⟨ti,Ll x ti h⟩).2⟩;by_cases hw:∃t,fN t=.inr x
 ·obtain⟨e1,e2⟩:=h1 hw;rw[e1]at hs;exact SA x ti hx hs e2
 ·rw[SB x hw ti];cases sh with
  |false=>exact ag8 x hs
  |true=>
   obtain⟨ts,e⟩:=h0 rfl;rw[SA x ts hx hs e,SB x hw ts]
end M
namespace M
open Go.V (inB bS ae bf)
theorem bh{a b:List UInt8}(h:a.length+b.length<=4611686018427387904):Go.V.ar a b=true:=cN h
def cz(p:aI):List UInt8:=bif p.bD==[]then p.Name else bif p.Version==[]then(p.bD++[47])++p.Name else(((p.bD++[47])++p.Name)++[64])++p.Version
def eH(p:aI):List UInt8:=
 let q:=bif !(p.bD==[])then(p.bD++[47])++p.Name else p.Name
 bif !(p.Version==[])then q++([64]++p.Version)else q
theorem SC(p:aI)(h:p.sz<=1048576):M.uj p=some (cz p):=by
 have hs:=aI.cV p;unfold M.uj cz;cases (p.bD==[])
 ·have c1:Go.V.ar p.bD [47]=true:=bh (by simp;omega);have c2:Go.V.ar (p.bD++[47]) p.Name=true:=bh (by simp;omega);have c3:Go.V.ar ((p.bD++[47])++p.Name) [64]=true:=bh (by simp;omega);have c4:Go.V.ar (((p.bD++[47])++p.Name)++[64]) p.Version=true:=bh (by simp;omega);simp only[c1,c2,c3,c4,al,aj,ad];cases (p.Version==[])<;>rfl
 ·rfl
theorem SD(p:aI)(h:p.sz<=1048576):M.uk p=some (eH p):=by
 have hs:=aI.cV p;unfold M.uk eH;have c1:Go.V.ar p.bD [47]=true:=bh (by simp;omega);have c2:Go.V.ar (p.bD++[47]) p.Name=true:=bh (by simp;omega);have c3:Go.V.ar [64] p.Version=true:=bh (by simp;omega);have c4:Go.V.ar (bif !(p.bD==[])then(p.bD++[47])++p.Name else p.Name) ([64]++p.Version)=true:=bh (by cases (p.bD==[])<;>simp<;>omega);simp only[c1,c2,c3,c4,aj,bu,ad]
theorem SE(p:aI)(h:p.bD=[]->p.Version=[]):eH p=cz p:=by
 unfold eH cz;cases hp:(p.bD==[])
 ·cases (p.Version==[])
  ·simp
  ·rfl
 ·rw[h (cK.1 hp)];rfl
end M
namespace M
open Go.V (inB bS ae bf)
theorem aha{α:Type}{l:List α}{x:α}(h:l.length<=4000000):decide (l.length+[x].length<=1073741824)=true:=by
 rw[ct,List.length_singleton];omega
theorem wrapM{k:Nat}(h:k<=4000000):Go.IntKind.wrap .i64 ((k:Int)+1)=((k+1:Nat):Int):=by rw[wrap_i64 (by omega) (by omega)];omega
theorem SG{rec:aa->Int->Option (List UInt8)}{lv:Int}{word:List UInt8}{t:aa}(tt:aa->List UInt8)(xs:List aa)(hX:xs.length<=1048576)(hr:∀x∈xs,rec x (Go.IntKind.wrap .i64 (lv-1))=some (tt x)):∀(n k:Nat)(acc:List (List UInt8)),xs.length-k<n->k<=xs.length->acc.length+(xs.length-k)<=2000000->
 M.um rec lv word xs ((xs.length:Nat):Int) n (k:Int) t acc=some (word,t,acc++(xs.drop k).map tt)
 |0,k,_,h,_,_=>by omega
 |n+1,k,acc,h,hk,hb=>by
  rw[M.um];rcases cQ k xs.length with q|q
  ·have ih:=SG (word:=word) (t:=t) tt xs hX hr n (k+1) (acc++[tt xs[k]]) (by omega) (by omega) (by rw[aE,List.length_singleton];omega);simp only[fS q,bN,dT _ q,aa.bX,hr _ (dt q),ak,an,ad,dS q,aj,wrapM (show k<=4000000 by omega),aha (show acc.length<=4000000 by omega),ih];rw[kx q,eQ,fX,List.singleton_append]
  ·simp only[lJ q,al,aa.bX];rw[List.drop_eq_nil_of_le q];simp
end M
namespace M
open Go.V (inB bS ar ae bf)
def jn(l:List (List UInt8)):List UInt8:=Go.Lib.join l [44,32]
theorem Lm:jn []=[]:=rfl
theorem E3(x:List UInt8)(r:List (List UInt8)):jn (x::r)=x++Go.Lib.joinTail [44,32] r:=Go.Lib.join_cons x r [44,32]
theorem SH:Go.Lib.joinTail [44,32] []=[]:=rfl
theorem SI(x:List UInt8)(r:List (List UInt8)):Go.Lib.joinTail [44,32] (x::r)=44::32::(x++Go.Lib.joinTail [44,32] r):=by simp[Go.Lib.joinTail]
theorem ahb(a b:List (List UInt8)):Go.Lib.joinTail [44,32] (a++b)=Go.Lib.joinTail [44,32] a++Go.Lib.joinTail [44,32] b:=by simp[Go.Lib.joinTail]
theorem ahc(l:List (List UInt8))(x:List UInt8):jn (l++[x])=(if 0<l.length then jn l++[44,32]else[])++x:=by
 cases l with
 |nil=>simp[E3,SH]
 |cons y r=>rw[jz,E3,E3,ahb];simp[SI,SH]
theorem jL:∀(l:List (List UInt8)),(jn l).length<=bH List.length l+l.length
 |[]=>by simp[Lm]
 |x::r=>by
  rw[E3,aE];have:∀r:List (List UInt8),(Go.Lib.joinTail [44,32] r).length=bH List.length r+r.length:=fun r=>by
   induction r with
   |nil=>rfl
   |cons y t ih=>rw[SI];simp only[aC,aE,ih,bH];omega
  rw[this];simp only[bH,aC];omega
theorem E4(l:List (List UInt8))(h:bH List.length l<=536870912):M.strings_Join l [44,32]=some (jn l):=by
 have h1:=jL l;have h2:=d6 List.length l;unfold M.strings_Join;have e1:decide (l.length<=1073741824)=true:=by rw[ct];omega
 have e2:decide ((Go.Lib.join l [44,32]).length<=1073741824)=true:=by rw[ct];unfold jn at h1;omega
 rw[e1,e2];rfl
theorem kZ{a b:Nat}(h:a+b<=1073741824):decide (a+b<=1073741824)=true:=by rw[ct];exact h
theorem E5{a b:Bool}:(bif a then a else b)=(a||b):=by cases a<;>rfl
def f8(K:Int):List UInt8:=bif decide (1<=K)&&decide (K<=23)then List.getD ([]::words) K.toNat []else[]
theorem E6(K:Int):(f8 K).length<=7:=by
 unfold f8;have h:∀w∈([]::words),w.length<=7:=by
  have:((([]:List UInt8)::words).all fun w=>decide (w.length<=7))=true:=by decide
  intro w hw;simpa using fG.1 this w hw
 cases decide (1<=K)&&decide (K<=23)
 ·simp
 ·rw[ad];rcases cQ K.toNat (List.length ([]::words))with hk|hk
  ·rw[getD_lt hk];exact h _ (dt hk)
  ·rw[gK,lp hk];simp
def BI(K:Int):Bool:=(K==12)||((K==13)||((K==22)||((K==23)||(K==15))))
def BJ(K:Int):Bool:=(K==16)||((K==17)||((K==18)||(K==19)))
def labT(K:Int):List (List UInt8)->List aa->List (List UInt8)->List (List UInt8)
 |[],_,_=>[]
 |l::r,c::cs,x::xs=>(bif K==16 then l++([58,32]++x)else bif(K==17)&&(c.Kind !=1)then l++(([40]++x)++[41])else l)::labT K r cs xs
 |l::r,_,_=>l::labT K r [] []
def uo(t:aa)(ks:List (List UInt8)):List UInt8:=
 bif((ks.length:Nat):Int) !=2 then[]
 else bif((List.getD t.Kids 0 aa.zero).Kind==1)&&((List.getD t.Kids 1 aa.zero).Kind==1)then[]
 else bif(List.getD t.Kids 1 aa.zero).Kind==1 then([60]++List.getD ks 0 [])++[62]
 else bif(List.getD t.Kids 0 aa.zero).Kind==1 then([60,95,44,32]++List.getD ks 1 [])++[62]
 else((([60]++List.getD ks 0 [])++[44,32])++List.getD ks 1 [])++[62]
def bodyT(t:aa)(ks:List (List UInt8)):List UInt8:=
 bif t.Kind==30 then t.Name
 else bif(t.Kind==20)||(t.Kind==21)then((f8 t.Kind++[60])++t.Name)++[62]
 else bif BI t.Kind then((f8 t.Kind++[60])++jn ks)++[62]
 else bif t.Kind==14 then f8 t.Kind++uo t ks
 else bif BJ t.Kind then((f8 t.Kind++[32,123,32])++jn (labT t.Kind t.bn t.Kids ks))++[32,125]
 else f8 t.Kind
def cF:Nat->aa->List UInt8
 |0,_=>[]
 |n+1,t=>bodyT t (t.Kids.map (cF n))
theorem uu(K:Int):∀(ls:List (List UInt8))(cs:List aa)(xs:List (List UInt8)),bH List.length (labT K ls cs xs)<=bH List.length ls+2*ls.length+bH List.length xs
 |[],_,_=>by simp[labT,bH]
 |l::r,[],xs=>by
  have:=uu K r [] [];have e:bH List.length ([]:List (List UInt8))=0:=rfl;cases xs<;>simp only[labT,bH,aC]at*<;>omega
 |l::r,c::cs,[]=>by
  have:=uu K r [] [];simp only[labT,bH,aC]at*;omega
 |l::r,c::cs,x::xs=>by
  have:=uu K r cs xs;simp only[labT,bH,aC];cases (K==16)
  ·cases ((K==17)&&(c.Kind !=1))<;>simp only[ad,al,aE,aC,aJ]<;>omega
  ·simp only[ad,aE,aC,aJ];omega
theorem mU(K:Int):∀(ls:List (List UInt8))(cs:List aa)(xs:List (List UInt8)),(labT K ls cs xs).length=ls.length
 |[],_,_=>by simp[labT]
 |l::r,[],xs=>by cases xs<;>simp[labT,mU K r [] []]
 |l::r,c::cs,[]=>by simp[labT,mU K r [] []]
 |l::r,c::cs,x::xs=>by simp[labT,mU K r cs xs]
theorem E7(K:Int)(f:aa->List UInt8):∀(ls:List (List UInt8))(cs:List aa)(k:Nat),k<ls.length->(labT K ls cs (cs.map f)).getD k []=if h:k<cs.length then(bif K==16 then ls.getD k []++([58,32]++f cs[k])else bif(K==17)&&(cs[k].Kind !=1)then ls.getD k []++(([40]++f cs[k])++[41])else ls.getD k [])else ls.getD k []
 |[],_,k,h=>by simp at h
 |l::r,[],k,h=>by
  cases k with
  |zero=>simp[labT]
  |succ k=>
   have:=E7 K f r [] k (by simpa using h);simpa [labT]using this
 |l::r,x::cs,k,h=>by
  cases k with
  |zero=>simp[labT]
  |succ k=>
   have:=E7 K f r cs k (by simpa using h);simp only[eQ,labT,List.getD_cons_succ,this,aC,Nat.add_lt_add_iff_right,List.getElem_cons_succ]
theorem Ln(t:aa)(ks:List (List UInt8)):(uo t ks).length<=bH List.length ks+5:=by
 unfold uo;cases hc:(((ks.length:Nat):Int) !=2)
 ·have h2:ks.length=2:=by have:=bne_eq_false_iff_eq.1 hc;omega
  obtain⟨a,b,rfl⟩:∃a b,ks=[a,b]:=by
   match ks,h2 with
   |[a,b],_=>exact⟨a,b,rfl⟩
  simp only[al,bH];cases (((List.getD t.Kids 0 aa.zero).Kind==1)&&((List.getD t.Kids 1 aa.zero).Kind==1))
  ·cases ((List.getD t.Kids 1 aa.zero).Kind==1)
   ·cases ((List.getD t.Kids 0 aa.zero).Kind==1)<;>simp<;>omega
   ·simp;omega
  ·simp
 ·simp
theorem uv:∀(n:Nat)(t:aa),(cF n t).length<=16*t.sz+14
 |0,t=>by simp[cF]
 |n+1,t=>by
  have hs:=aa.cV t;have hk:=E6 t.Kind;have hx:bH List.length (t.Kids.map (cF n))+(t.Kids.map (cF n)).length<=16*bH aa.sz t.Kids:=by
   have key:∀l:List aa,bH List.length (l.map (cF n))+(l.map (cF n)).length<=16*bH aa.sz l:=fun l=>by
    induction l with
    |nil=>simp[bH]
    |cons y r ih=>
     have h1:=uv n y;simp only[eQ,bH,aC]at ih⊢;omega
   exact key _
  have hj:=jL (t.Kids.map (cF n));have hl:=uu t.Kind t.bn t.Kids (t.Kids.map (cF n));have hll:=mU t.Kind t.bn t.Kids (t.Kids.map (cF n));have hle:=d6 List.length t.bn;have hj2:=jL (labT t.Kind t.bn t.Kids (t.Kids.map (cF n)));have hr:=Ln t (t.Kids.map (cF n));rw[cF];unfold bodyT;cases (t.Kind==30)
  ·cases ((t.Kind==20)||(t.Kind==21))
   ·cases (BI t.Kind)
    ·cases (t.Kind==14)
     ·cases (BJ t.Kind)
      ·simp only[al];omega
      ·simp only[al,ad,aE,aC,aJ];omega
     ·simp only[al,ad,aE];omega
    ·simp only[al,ad,aE,aC,aJ];omega
   ·simp only[al,ad,aE,aC,aJ];omega
  ·simp only[ad];omega
theorem SJ(n:Nat)(l:List aa):bH List.length (l.map (cF n))<=16*bH aa.sz l:=by
 induction l with
 |nil=>simp[bH]
 |cons y r ih=>
  have h1:=uv n y;simp only[eQ,bH];omega
theorem Lo{α β Y:Type}{F:Nat->Int->List β->Option Y}{h:List β->Option Y}(g:α->β)(l:List α)(hn:l.length<=2097152)(BK:List β)
 (step:∀f k out,∀hk:k<l.length,out.length=BK.length+k->F (f+1) (k:Int) out=F f ((k+1:Nat):Int) (out++[g l[k]]))
 (stop:∀f out,F (f+1) (l.length:Int) out=h out):F ae 0 BK=h (BK++l.map g):=by
 have key:∀f k out,k<=l.length->l.length-k<f->out.length=BK.length+k->F f (k:Int) out=h (out++(l.drop k).map g):=by
  intro f
  induction f with
  |zero=>intro k out h1 h2;omega
  |succ f ih=>
   intro k out h1 h2 ho;rcases cQ k l.length with hk|hk
   ·rw[step f k out hk ho,ih (k+1) _ (by omega) (by omega) (by simp[ho];omega),xR hk];simp only[eQ,fX,List.singleton_append]
   ·have:k=l.length:=by omega
    subst this;rw[stop,wZ];simp
 have:=key ae 0 BK (cM _) (by have:=bf;omega) rfl;simpa using this
theorem Lp{α:Type}(f:α->Nat):∀(l:List α)(k:Nat),bH f (l.take k)<=bH f l
 |[],k=>by simp[bH]
 |x::r,0=>by simp[bH]
 |x::r,k+1=>by have:=Lp f r k;simp only[List.take_succ_cons,bH];omega
theorem E8{Y:Type}{F:Nat->List UInt8->Int->Option Y}{h:List UInt8->Option Y}(L:List (List UInt8))(hn:L.length<=2097152)(s0:List UInt8)
 (step:∀f k s,∀hk:k<L.length,s.length<=s0.length+2*bH List.length L->F (f+1) s (k:Int)=F f ((bif decide ((0:Int)<(k:Int))then s++[44,32]else s)++L[k]) ((k+1:Nat):Int))
 (stop:∀f s,F (f+1) s (L.length:Int)=h s):F ae s0 0=h (s0++jn L):=by
 have key:∀f k,k<=L.length->L.length-k<f->F f (s0++jn (L.take k)) (k:Int)=h (s0++jn L):=by
  intro f
  induction f with
  |zero=>intro k h1 h2;omega
  |succ f ih=>
   intro k h1 h2;rcases cQ k L.length with hk|hk
   ·have hj:=jL (L.take k);have ht:=Lp List.length L k;have hl:=d6 List.length L;have hm:(L.take k).length<=L.length:=by rw[sF];omega
    rw[step f k _ hk (by rw[aE];omega)];have e:(bif decide ((0:Int)<(k:Int))then s0++jn (L.take k)++[44,32]else s0++jn (L.take k))++L[k]=s0++jn (L.take (k+1)):=by
     rw[H3,cH hk,Option.toList_some,ahc,sF,Nat.min_eq_left (by omega)];by_cases hz:0<k
     ·rw[aT hz,cN (by omega),ad];simp only[fX]
     ·have:k=0:=by omega
      subst this;simp[Lm]
    rw[e];exact ih (k+1) (by omega) (by omega)
   ·have:k=L.length:=by omega
    subst this;rw[stop,H4]
 have:=key ae 0 (cM _) (by have:=bf;omega);simpa [Lm]using this
end M
namespace M
open Go.V (inB bS ar ae bf)
theorem ahd(t:aa)(ks:List (List UInt8))(hl:ks.length=t.Kids.length)(hb:bH List.length ks<=536870912):M.yH t ks=some (uo t ks):=by
 unfold M.yH uo;cases hc:(((ks.length:Nat):Int) !=2)
 ·have h2:ks.length=2:=by have:=bne_eq_false_iff_eq.1 hc;omega
  obtain⟨a,b,rfl⟩:∃a b,ks=[a,b]:=by
   match ks,h2 with
   |[a,b],_=>exact⟨a,b,rfl⟩
  simp only[bH]at hb;have i0:inB (0:Int) t.Kids.length=true:=by rw[<-hl];rfl
  have i1:inB (1:Int) t.Kids.length=true:=by rw[<-hl];rfl
  have j0:inB (0:Int) [a,b].length=true:=rfl;have j1:inB (1:Int) [a,b].length=true:=rfl;have c1:ar [60] (List.getD [a,b] 0 [])=true:=bh (by simp;omega);have c2:ar ([60]++List.getD [a,b] 0 []) [62]=true:=bh (by simp;omega);have c3:ar [60,95,44,32] (List.getD [a,b] 1 [])=true:=bh (by simp;omega);have c4:ar ([60,95,44,32]++List.getD [a,b] 1 []) [62]=true:=bh (by simp;omega);have c5:ar ([60]++List.getD [a,b] 0 []) [44,32]=true:=bh (by simp;omega);have c6:ar (([60]++List.getD [a,b] 0 [])++[44,32]) (List.getD [a,b] 1 [])=true:=bh (by simp;omega);have c7:ar ((([60]++List.getD [a,b] 0 [])++[44,32])++List.getD [a,b] 1 []) [62]=true:=bh (by simp;omega);have n0:Int.toNat (0:Int)=0:=rfl;have n1:Int.toNat (1:Int)=1:=rfl;simp only[al,i0,i1,j0,j1,c1,c2,c3,c4,c5,c6,c7,n0,n1,aj,ad];cases (List.getD t.Kids 0 aa.zero).Kind==1<;>cases (List.getD t.Kids 1 aa.zero).Kind==1<;>rfl
 ·rfl
theorem ahe(f:aa->List UInt8)(t:aa)(hL:t.bn.length<=1048576)(hb:bH List.length t.bn+bH List.length (t.Kids.map f)<=268435456):M.yI t (t.Kids.map f)=some (labT t.Kind t.bn t.Kids (t.Kids.map f)):=by
 unfold M.yI;have e:=Lo (F:=fun n i o=>M.rU (t.Kids.map f) t.bn ((t.bn.length:Nat):Int) n i t o) (h:=fun o=>some o) id (labT t.Kind t.bn t.Kids (t.Kids.map f)) (by rw[mU];omega) [] (fun n k out hk ho=>by
  have hk':=hk;rw[mU]at hk;have hg:=E7 t.Kind f t.bn t.Kids k hk;rw[getD_lt hk']at hg
  show M.rU (t.Kids.map f) t.bn ((t.bn.length:Nat):Int) (n+1) (k:Int) t out=_
  rw[M.rU];have hc:∀y:List UInt8,decide (out.length+[y].length<=1073741824)=true:=fun y=>kZ (by simp at ho⊢;omega)
  have hml:=gA List.length t.bn t.bn[k] (dt hk);simp only[aa.bX,fS hk,ad,bN,dS hk,hc,bj,bM,da hk (by omega:t.bn.length<2^62),id,dT _ hk];by_cases hkk:k<t.Kids.length
  ·rw[dif_pos hkk]at hg;have SK:k<(t.Kids.map f).length:=by rw[eJ];exact hkk
   have hmx:=gA List.length (t.Kids.map f) (f t.Kids[k]) (List.mem_map_of_mem (dt hkk));have e1:List.getD (t.Kids.map f) k []=f t.Kids[k]:=by rw[getD_lt SK,zC]
   have e2:decide ((((t.Kids.map f).length:Nat):Int)<=(k:Int))=false:=cY (by omega);have c1:ar [58,32] (f t.Kids[k])=true:=bh (by simp;omega);have c2:ar t.bn[k] ([58,32]++f t.Kids[k])=true:=bh (by simp;omega);have c3:ar [40] (f t.Kids[k])=true:=bh (by simp;omega);have c4:ar ([40]++f t.Kids[k]) [41]=true:=bh (by simp;omega);have c5:ar t.bn[k] (([40]++f t.Kids[k])++[41])=true:=bh (by simp;omega);rw[dT _ hk]at hg;simp only[e1,e2,dS hkk,dS SK,c1,c2,c3,c4,c5,dT _ hkk,al,bo,ek,bu,aj,lT,bj,Bool.or_not_self,Bool.not_or_self];cases h16:(t.Kind==16)<;>cases h17:((t.Kind==17)&&(t.Kids[k].Kind !=1))<;>rw[h16,h17]at hg<;>rw[hg]<;>rfl
  ·rw[dif_neg hkk,dT _ hk]at hg;have e2:decide ((((t.Kids.map f).length:Nat):Int)<=(k:Int))=true:=cN (by rw[eJ];omega);simp only[e2,ad,ek,b9,lT,aj,hg]) (fun n out=>by
  show M.rU (t.Kids.map f) t.bn ((t.bn.length:Nat):Int) (n+1) _ t out=_
  rw[mU,M.rU];simp)
 simp only[eP,List.map_id]at e;rw[aa.bX,e]
theorem SL{K:Int}(h:(decide (1<=K)&&decide (K<=23))=true):f8 K=List.getD ([]::words) K.toNat []:=by
 unfold f8;rw[h,ad]
theorem ahf{K:Int}(h:(decide (1<=K)&&decide (K<=23))=false):f8 K=[]:=by
 unfold f8;rw[h,al]
theorem ahg{K:Int}(h:(decide (1<=K)&&decide (K<=23))=true):inB K (List.length ([]::words))=true:=by
 simp only[bz,ct]at h;obtain⟨n,rfl⟩:=kj (show 0<=K by omega);rw[cZ,ct,show List.length (([]:List UInt8)::words)=24 from rfl];omega
theorem SN:∀(m n:Nat)(t:aa),n<m->n<=100->t.sz<=1048576->M.uw m t (n:Int)=some (cF n t)
 |0,n,t,h,_,_=>by omega
 |m+1,0,t,h,_,_=>rfl
 |m+1,n+1,t,h,hn,hs=>by
  show M.E9 (M.uw m) t _=_
  have hz:=aa.cV t;have hw:Go.IntKind.wrap .i64 (((n+1:Nat):Int)-1)=(n:Int):=by rw[wrap_i64 (by omega) (by omega)];omega
  have hrec:∀x∈t.Kids,M.uw m x (Go.IntKind.wrap .i64 (((n+1:Nat):Int)-1))=some (cF n x):=fun x hx=>by
   rw[hw];exact SN m n x (by omega) (by omega) (by have:=aa.Bl hx;omega)
  have hk:=aa.EY hs;have e0:∀word,M.um (M.uw m) ((n+1:Nat):Int) word t.Kids ((t.Kids.length:Nat):Int) ae 0 t []=some (word,t,t.Kids.map (cF n)):=fun word=>by
   have:=SG (word:=word) (t:=t) (cF n) t.Kids hk hrec ae 0 [] (by have:=bf;omega) (by omega) (by simp;omega);simpa using this
  have hkl:=SJ n t.Kids;have hkw:=E6 t.Kind;have hj:=jL (t.Kids.map (cF n));have hl:=uu t.Kind t.bn t.Kids (t.Kids.map (cF n));have hll:=mU t.Kind t.bn t.Kids (t.Kids.map (cF n));have hle:=d6 List.length t.bn;have hj2:=jL (labT t.Kind t.bn t.Kids (t.Kids.map (cF n)));have hr:=Ln t (t.Kids.map (cF n));have hsk:=d6 aa.sz t.Kids;have hmk:(t.Kids.map (cF n)).length=t.Kids.length:=eJ _;have d:(((n+1:Nat):Int)==0)=false:=by rw[cL];omega
  have r1:=ahd t (t.Kids.map (cF n)) hmk (by omega);have r2:=ahe (cF n) t (by omega) (by omega);have r3:=E4 (t.Kids.map (cF n)) (by omega);have r4:=E4 (labT t.Kind t.bn t.Kids (t.Kids.map (cF n))) (by omega);rw[cF];unfold M.E9 bodyT BI BJ;have c1:ar (f8 t.Kind) [60]=true:=bh (by simp only[aE,aC,aJ];omega);have c2:ar (f8 t.Kind++[60]) t.Name=true:=bh (by simp only[aE,aC,aJ];omega);have c3:ar ((f8 t.Kind++[60])++t.Name) [62]=true:=bh (by simp only[aE,aC,aJ];omega);have c4:ar (f8 t.Kind++[60]) (jn (t.Kids.map (cF n)))=true:=bh (by simp only[aE,aC,aJ];omega);have c5:ar ((f8 t.Kind++[60])++jn (t.Kids.map (cF n))) [62]=true:=bh (by simp only[aE,aC,aJ];omega);have c6:ar (f8 t.Kind) (uo t (t.Kids.map (cF n)))=true:=bh (by omega);have c7:ar (f8 t.Kind) [32,123,32]=true:=bh (by simp only[aE,aC,aJ];omega);have c8:ar (f8 t.Kind++[32,123,32]) (jn (labT t.Kind t.bn t.Kids (t.Kids.map (cF n))))=true:=bh (by simp only[aE,aC,aJ];omega);have c9:ar ((f8 t.Kind++[32,123,32])++jn (labT t.Kind t.bn t.Kids (t.Kids.map (cF n)))) [32,125]=true:=bh (by simp only[aE,aC,aJ];omega);cases hK:decide (1<=t.Kind)&&decide (t.Kind<=23)
  ·rw[ahf hK]at c1 c2 c3 c4 c5 c6 c7 c8 c9⊢;simp only[d,hK,al,aa.bX,e0];simp only[E5,r1,r2,r3,r4,c1,c2,c3,c4,c5,c6,c7,c8,c9,ak,an,aj,ad];cases (t.Kind==30)<;>cases ((t.Kind==20)||(t.Kind==21))<;>cases ((t.Kind==12)||((t.Kind==13)||((t.Kind==22)||((t.Kind==23)||(t.Kind==15)))))<;>cases (t.Kind==14)<;>cases ((t.Kind==16)||((t.Kind==17)||((t.Kind==18)||(t.Kind==19))))<;>rfl
  ·simp only[d,hK,al,ad,aa.bX,e0,ED,ak,an,ahg hK,aj,bu,bj,bM];simp only[<-SL hK,E5,r1,r2,r3,r4,c1,c2,c3,c4,c5,c6,c7,c8,c9,ak,an,aj,ad];cases (t.Kind==30)<;>cases ((t.Kind==20)||(t.Kind==21))<;>cases ((t.Kind==12)||((t.Kind==13)||((t.Kind==22)||((t.Kind==23)||(t.Kind==15)))))<;>cases (t.Kind==14)<;>cases ((t.Kind==16)||((t.Kind==17)||((t.Kind==18)||(t.Kind==19))))<;>rfl
theorem SO(t:aa)(hs:t.sz<=1048576):M.ux t 5=some (cF 5 t):=SN ae 5 t (by have:=bf;omega) (by omega) hs
end M
namespace M
open Go.V (inB bS ar ae bf)
def BL(K:Int):Bool:=(K==12)||((K==13)||((K==22)||(K==23)))
def dw(K:Int):Bool:=(K==14)||(K==17)
def mn(K:Int)(n:Int):Int:=bif BL K then 1 else bif K==14 then 2 else bif K==15 then 1 else bif(K==16)||(K==17)then n else 0
def k9(K:Int)(n:Int):Int:=bif BL K then 1 else bif K==14 then 2 else bif K==15 then 6 else bif(K==16)||(K==17)then n else 0
def pe(K:Int):Bool:= !((!(decide (1<=K)&&decide (K<=23)))&&(K !=30))
def lN(g:aa->Int)(u:Bool):List aa->Int->Int
 |[],s=>s
 |x::r,s=>bif u&&(x.Kind==1)then lN g u r (s+1)else bif decide (g x<0)||decide (12000<s)then -1 else lN g u r (s+g x)
def bY:Nat->aa->Int
 |0,_=> -1
 |d+1,t=>bif(decide ((16:Int)<((t.bn.length:Nat):Int))||decide ((16:Int)<((t.Kids.length:Nat):Int)))||decide ((12:Int)<((t.Name.length:Nat):Int))then -1
  else bif(!pe t.Kind)|| !(decide (mn t.Kind ((t.bn.length:Nat):Int)<=((t.Kids.length:Nat):Int))&&decide (((t.Kids.length:Nat):Int)<=k9 t.Kind ((t.bn.length:Nat):Int)))then -1
  else lN (bY d) (dw t.Kind) t.Kids 1
theorem Lq(g:aa->Int)(u:Bool)(B:Int)(hB:0<=B):∀(l:List aa)(s:Int),(∀x∈l,g x<=B)->l.length<=16->s+l.length<=12016+B->lN g u l s<=12016+B
 |[],s,_,_,h=>by rw[lN];simpa using h
 |x::r,s,hg,hl,h=>by
  simp only[aC]at hl h;rw[lN];cases (u&&(x.Kind==1))
  ·rw[al];cases hc:(decide (g x<0)||decide (12000<s))
   ·rw[al];rw[lR,fE,fE]at hc;have:=hg x (by simp);exact Lq g u B hB r _ (fun y hy=>hg y (by simp[hy])) (by omega) (by omega)
   ·rw[ad];omega
  ·rw[ad];exact Lq g u B hB r _ (fun y hy=>hg y (by simp[hy])) (by omega) (by omega)
theorem SQ:∀(d:Nat)(t:aa),bY d t<=12016*(d:Int)
 |0,t=>by show(-1:Int)<=_;omega
 |d+1,t=>by
  rw[bY];cases hc:((decide ((16:Int)<((t.bn.length:Nat):Int))||decide ((16:Int)<((t.Kids.length:Nat):Int)))||decide ((12:Int)<((t.Name.length:Nat):Int)))
  ·rw[al];simp only[lR,fE]at hc;have h1:=Lq (bY d) (dw t.Kind) (12016*(d:Int)) (by omega) t.Kids 1 (fun x _=>SQ d x) (by omega) (by omega);have key:∀q:Bool,(bif q then -1 else lN (bY d) (dw t.Kind) t.Kids 1)<=12016*((d+1:Nat):Int):=fun q=>by
    cases q<;>simp only[ad,al]<;>omega
   exact key _
  ·rw[ad];omega
theorem Lr{rec:aa->Int->Option Int}{deep:Int}{g:aa->Int}{t:aa}{B:Int}(hk:t.Kids.length<=16)(hr:∀x∈t.Kids,rec x (Go.IntKind.wrap .i64 (deep-1))=some (g x))(hB:∀x∈t.Kids,g x<=B)(h0:0<=B)(h1:B<=1000000):
 ∀(f k:Nat)(s:Int),t.Kids.length-k<f->k<=t.Kids.length->0<=s->s+((t.Kids.length-k:Nat):Int)<=12016+B->∃y,M.wa rec deep f s (k:Int) t=some y/\Sum.elim id id y=lN g (dw t.Kind) (t.Kids.drop k) s
 |0,k,s,h,_,_,_=>by omega
 |f+1,k,s,h,hkl,hs,hsb=>by
  rw[M.wa];rcases cQ k t.Kids.length with q|q
  ·have hm:=dt q;rw[kx q,lN];simp only[fS q,bN,dT _ q,aa.bX,hr _ hm,ak,an,ad,dS q,aj,bu,da q (by omega:t.Kids.length<2^62)]
   show ∃y,(bif dw t.Kind&&_ then _ else _)=some y/\_
   cases hu:(dw t.Kind&&(t.Kids[k].Kind==1))
   ·simp only[al];cases hc:(decide (g t.Kids[k]<0)||decide (12000<s))
    ·simp only[al];rw[lR,fE,fE]at hc;have:=hB _ hm;rw[wrap_i64 (show -9223372036854775808<=s+g t.Kids[k] by omega) (by omega)];exact Lr hk hr hB h0 h1 f (k+1) _ (by omega) (by omega) (by omega) (by omega)
    ·simp only[ad];exact⟨_,rfl,rfl⟩
   ·simp only[ad];rw[wrap_i64 (show -9223372036854775808<=s+1 by omega) (by omega)];exact Lr hk hr hB h0 h1 f (k+1) _ (by omega) (by omega) (by omega) (by omega)
  ·simp only[lJ q,al];rw[List.drop_eq_nil_of_le q,lN];exact⟨_,rfl,rfl⟩
theorem ahh{α:Type}(q:Bool)(a b:α):(bif q then some a else some b)=some (bif q then a else b):=by cases q<;>rfl
theorem SR:∀(m d:Nat)(t:aa),d<m->d<=10->M.wb m t (d:Int)=some (bY d t)
 |0,d,t,h,_=>by omega
 |m+1,0,t,h,_=>rfl
 |m+1,d+1,t,h,hd=>by
  show M.Fa (M.wb m) t _=_
  have e0:(((d+1:Nat):Int)==0)=false:=by rw[cL];omega
  have hw:Go.IntKind.wrap .i64 (((d+1:Nat):Int)-1)=(d:Int):=by rw[wrap_i64 (by omega) (by omega)];omega
  unfold M.Fa;rw[bY];simp only[e0,na,E5,aa.bX];cases hc:((decide ((16:Int)<((t.bn.length:Nat):Int))||decide ((16:Int)<((t.Kids.length:Nat):Int)))||decide ((12:Int)<((t.Name.length:Nat):Int)))
  ·simp only[al];simp only[lR,fE]at hc;have e1:(!pe t.Kind)=((!(decide (1<=t.Kind)&&decide (t.Kind<=23)))&&(t.Kind !=30)):=by unfold pe;rw[Bool.not_not]
   rw[e1];unfold mn k9 BL;obtain⟨y,hy,hv⟩:=Lr (rec:=M.wb m) (deep:=((d+1:Nat):Int)) (g:=bY d) (t:=t) (B:=12016*(d:Int)) (by omega) (fun x hx=>by rw[hw];exact SR m d x (by omega) (by omega)) (fun x _=>SQ d x) (by omega) (by omega) ae 0 1 (by have:=bf;omega) (by omega) (by omega) (by omega);rw[show((0:Nat):Int)=0 from rfl]at hy;rw[jj]at hv;simp only[hy,<-hv];cases y<;>exact ahh _ _ _
  ·rfl
theorem SS(t:aa):M.BM t 4=some (bY 4 t):=SR ae 4 t (by have:=bf;omega) (by omega)
structure ahi (d:Nat) (t:aa):Prop where
 kin:(1<=t.Kind/\t.Kind<=23)\/t.Kind=30
 res:t.Kind=14->t.Kids.length=2
 lab:(t.Kind=16\/t.Kind=17)->t.Kids.length=t.bn.length
 non:(t.Kind=18\/t.Kind=19)->t.Kids.length=0
 kid:∀x∈t.Kids,(dw t.Kind&&(x.Kind==1))=true\/0<=bY d x
theorem Ls(g:aa->Int)(u:Bool):∀(l:List aa)(s:Int),0<=lN g u l s->∀x∈l,(u&&(x.Kind==1))=true\/0<=g x
 |[],s,_,x,hx=>by cases hx
 |y::r,s,h,x,hx=>by
  rw[lN]at h;cases hu:(u&&(y.Kind==1))<;>rw[hu]at h
  ·rw[al]at h;cases hc:(decide (g y<0)||decide (12000<s))<;>rw[hc]at h
   ·rw[al]at h;rw[lR,fE,fE]at hc;rcases eY.1 hx with q|q
    ·rw[q];right;omega
    ·exact Ls g u r _ h x q
   ·rw[ad]at h;omega
  ·rw[ad]at h;rcases eY.1 hx with q|q
   ·rw[q];left;exact hu
   ·exact Ls g u r _ h x q
theorem ahj{d:Nat}{t:aa}(h:0<=bY (d+1) t):ahi d t:=by
 rw[bY]at h;cases hc:((decide ((16:Int)<((t.bn.length:Nat):Int))||decide ((16:Int)<((t.Kids.length:Nat):Int)))||decide ((12:Int)<((t.Name.length:Nat):Int)))<;>rw[hc]at h
 ·rw[al]at h;cases hq:((!pe t.Kind)|| !(decide (mn t.Kind ((t.bn.length:Nat):Int)<=((t.Kids.length:Nat):Int))&&decide (((t.Kids.length:Nat):Int)<=k9 t.Kind ((t.bn.length:Nat):Int))))<;>rw[hq]at h
  ·rw[al]at h;simp only[lR,Bool.not_eq_false',bz,ct]at hq;obtain⟨h1,h2,h3⟩:=hq;refine⟨?_,?_,?_,?_,Ls _ _ _ _ h⟩
   ·unfold pe at h1;simp only[ga,Bool.and_eq_false_iff,Bool.not_eq_false',bz,ct,bne_eq_false_iff_eq]at h1;exact h1
   ·intro e;rw[e]at h2 h3;have a:mn 14 ((t.bn.length:Nat):Int)=2:=rfl;have b:k9 14 ((t.bn.length:Nat):Int)=2:=rfl;rw[a]at h2;rw[b]at h3;omega
   ·intro e;rcases e with e|e<;>rw[e]at h2 h3
    ·have a:mn 16 ((t.bn.length:Nat):Int)=((t.bn.length:Nat):Int):=rfl;have b:k9 16 ((t.bn.length:Nat):Int)=((t.bn.length:Nat):Int):=rfl;rw[a]at h2;rw[b]at h3;omega
    ·have a:mn 17 ((t.bn.length:Nat):Int)=((t.bn.length:Nat):Int):=rfl;have b:k9 17 ((t.bn.length:Nat):Int)=((t.bn.length:Nat):Int):=rfl;rw[a]at h2;rw[b]at h3;omega
   ·intro e;rcases e with e|e<;>rw[e]at h3
    ·have b:k9 18 ((t.bn.length:Nat):Int)=0:=rfl;rw[b]at h3;omega
    ·have b:k9 19 ((t.bn.length:Nat):Int)=0:=rfl;rw[b]at h3;omega
  ·rw[ad]at h;omega
 ·rw[ad]at h;omega
end M
namespace M
open Go.V (inB bS ar ae bf)
theorem ahk:Option.getD M.jY default++Option.getD M.jZ default=words:=by decide
theorem ahl:Option.isSome M.jY=true:=by decide
theorem ahm:Option.isSome M.jZ=true:=by decide
theorem kwS{K:Int}(h1:1<=K)(h2:K<=23):List.getD words (Int.toNat (Go.IntKind.wrap .i64 (K-1))) []=f8 K/\inB (Go.IntKind.wrap .i64 (K-1)) words.length=true:=by
 rw[wrap_i64 (by omega) (by omega)];obtain⟨n,hn⟩:=kj (show 0<=K-1 by omega);have hK:K=((n+1:Nat):Int):=by omega
 subst hK;rw[hn,SL (by rw[bz,ct,ct];exact⟨h1,h2⟩),bN,bN,cZ,ct,show words.length=23 from rfl];exact⟨rfl,by omega⟩
theorem Fb(k:Nat)(s:List UInt8):(bif decide ((0:Int)<(k:Int))then s++[(44:UInt8),32]else s).length<=s.length+2:=by
 cases decide ((0:Int)<(k:Int))<;>simp
theorem Fe(k:Nat){s:List UInt8}(h:s.length<=2000000000):ar s [(44:UInt8),32]=true:=bh (by simp only[aC,aJ];omega)
theorem aho{rec:aa->Option (List UInt8)}(f:aa->List UInt8)(l:List aa)(hl:l.length<=1048576)(hb:bH List.length (l.map f)<=268435456)(hr:∀x∈l,rec x=some (f x)):M.BN rec l=some (jn (l.map f)):=by
 unfold M.BN;have e:=E8 (F:=fun n s i=>M.rV rec l n s i) (h:=some) (l.map f) (by rw[eJ];omega) [] (fun n k s hk hs=>by
  rw[eJ]at hk
  show M.rV rec l (n+1) s (k:Int)=_
  rw[M.rV];have hm:=dt hk;have hx:=gA List.length (l.map f) (f l[k]) (List.mem_map_of_mem hm);have hc:=Fb k s;simp only[aJ]at hs;have c1:ar (bif decide ((0:Int)<(k:Int))then s++[44,32]else s) (f l[k])=true:=bh (by omega);simp only[fS hk,bN,dT _ hk,aa.bX,hr _ hm,ak,an,ad,dS hk,Fe k (show s.length<=2000000000 by omega),c1,aj,bu,da hk (by omega:l.length<2^62),zC]) (fun n s=>by
  show M.rV rec l (n+1) s _=_
  rw[eJ,M.rV];simp)
 simp only[eP]at e;rw[e]
theorem ahp{rec:aa->Option (List UInt8)}(f:aa->List UInt8)(t:aa)(hL:t.bn.length<=1048576)(hb:bH List.length t.bn+bH List.length (t.Kids.map f)<=134217728)(hlab:(t.Kind=16\/t.Kind=17)->t.Kids.length=t.bn.length)(SU:(t.Kind=18\/t.Kind=19)->t.Kids.length=0)
 (hK:t.Kind=16\/t.Kind=17\/t.Kind=18\/t.Kind=19) (hr:∀x∈t.Kids,(dw t.Kind&&(x.Kind==1))=true\/rec x=some (f x)):M.BO rec t=some (([32,123,32]++jn (labT t.Kind t.bn t.Kids (t.Kids.map f)))++[32,125]):=by
 have hs1:=uu t.Kind t.bn t.Kids (t.Kids.map f);have hs2:=mU t.Kind t.bn t.Kids (t.Kids.map f);have hle:=d6 List.length t.bn;have hj:=jL (labT t.Kind t.bn t.Kids (t.Kids.map f));unfold M.BO;have e:=E8 (F:=fun n s i=>M.rW rec n s i t) (h:=some) (labT t.Kind t.bn t.Kids (t.Kids.map f)) (by omega) [] (fun n k s hk hs=>by
  have hk':=hk;rw[mU]at hk;have hg:=E7 t.Kind f t.bn t.Kids k hk;rw[getD_lt hk',dT _ hk]at hg
  show M.rW rec (n+1) s (k:Int) t=_
  rw[M.rW];have hml:=gA List.length t.bn t.bn[k] (dt hk);have hc:=Fb k s;simp only[aJ]at hs;have c1:ar (bif decide ((0:Int)<(k:Int))then s++[44,32]else s) t.bn[k]=true:=bh (by omega);simp only[fS hk,bN,dT _ hk,aa.bX,ad,dS hk,Fe k (show s.length<=2000000000 by omega),c1,aj,bu,da hk (by omega:t.bn.length<2^62),hg];generalize hq:(bif decide ((0:Int)<(k:Int))then s++[44,32]else s)=q at*;rcases hK with h|h|h|h
  ·have hkk:k<t.Kids.length:=by rw[hlab (.inl h)];exact hk
   have hm:=dt hkk;have hx:=gA List.length (t.Kids.map f) (f t.Kids[k]) (List.mem_map_of_mem hm);have er:rec t.Kids[k]=some (f t.Kids[k]):=(hr _ hm).resolve_left (by rw[h,show dw 16=false from rfl,cJ];decide);have c2:ar [58,32] (f t.Kids[k])=true:=bh (by simp only[aC,aJ];omega);have c3:ar (q++t.bn[k]) ([58,32]++f t.Kids[k])=true:=bh (by simp only[aE,aC,aJ];omega);rw[dif_pos hkk];simp only[h,dT _ hkk,er,ak,an,dS hkk,c2,c3,aj,cr,ek,bu,ad];simp only[fX]
  ·have hkk:k<t.Kids.length:=by rw[hlab (.inr h)];exact hk
   have hm:=dt hkk;have n16:((17:Int)==16)=false:=rfl;rw[dif_pos hkk];cases h1:(t.Kids[k].Kind==1)
   ·have hx:=gA List.length (t.Kids.map f) (f t.Kids[k]) (List.mem_map_of_mem hm);have er:rec t.Kids[k]=some (f t.Kids[k]):=(hr _ hm).resolve_left (by rw[h1,Bool.and_false];decide);have c2:ar [40] (f t.Kids[k])=true:=bh (by simp only[aC,aJ];omega);have c3:ar ([40]++f t.Kids[k]) [41]=true:=bh (by simp only[aE,aC,aJ];omega);have c4:ar (q++t.bn[k]) (([40]++f t.Kids[k])++[41])=true:=bh (by simp only[aE,aC,aJ];omega);simp only[h,n16,yJ,h1,dT _ hkk,er,ak,an,dS hkk,c2,c3,c4,aj,cr,ek,bu,bo,b9,lT,bM,bj,ad,al];simp only[fX]
   ·simp only[h,n16,yJ,h1,dT _ hkk,dS hkk,aj,cr,ek,bu,bo,b9,lT,bM,bj,Bool.and_false,ad,al]
  ·have hkk:¬k<t.Kids.length:=by rw[SU (.inl h)];omega
   have n16:((18:Int)==16)=false:=rfl;have n17:((18:Int)==17)=false:=rfl;have ft:(false==true)=false:=rfl;rw[dif_neg hkk];simp only[h,n16,n17,ft,cJ,bo,ek,lT,aj,ad,al]
  ·have hkk:¬k<t.Kids.length:=by rw[SU (.inr h)];omega
   have n16:((19:Int)==16)=false:=rfl;have n17:((19:Int)==17)=false:=rfl;have ft:(false==true)=false:=rfl;rw[dif_neg hkk];simp only[h,n16,n17,ft,cJ,bo,ek,lT,aj,ad,al]) (fun n s=>by
  show M.rW rec (n+1) s _ t=_
  rw[mU,M.rW];simp)
 simp only[eP]at e;rw[aa.bX,e];have c1:ar [32,123,32] (jn (labT t.Kind t.bn t.Kids (t.Kids.map f)))=true:=bh (by simp only[aC,aJ];omega);have c2:ar ([32,123,32]++jn (labT t.Kind t.bn t.Kids (t.Kids.map f))) [32,125]=true:=bh (by simp only[aE,aC,aJ];omega);simp only[c1,c2,aj,ad]
theorem ahq:f8 14=[114,101,115,117,108,116]:=by decide
theorem ahr{rec:aa->Option (List UInt8)}(f:aa->List UInt8)(t:aa)(x y:aa)(hxy:t.Kids=[x,y])(hb:(f x).length+(f y).length<=134217728)(hx:(x.Kind==1)=true\/rec x=some (f x))(hy:(y.Kind==1)=true\/rec y=some (f y)):M.BP rec x y=some (f8 14++uo t (t.Kids.map f)):=by
 unfold M.BP uo;rw[hxy,ahq];simp only[eQ,List.map_nil,aC,aJ,List.getD_cons_zero,List.getD_cons_succ,aa.bX,yJ];have e2:((((0+1+1:Nat)):Int)==2)=true:=rfl;rw[e2];simp only[b9,al];cases h1:(x.Kind==1)<;>cases h2:(y.Kind==1)
 ·have ex:=hx.resolve_left (by rw[h1];decide);have ey:=hy.resolve_left (by rw[h2];decide);have c1:ar [44,32] (f y)=true:=bh (by simp only[aC,aJ];omega);have c2:ar (f x) ([44,32]++f y)=true:=bh (by simp only[aE,aC,aJ];omega);have c3:ar [114,101,115,117,108,116,60] (f x++([44,32]++f y))=true:=bh (by simp only[aE,aC,aJ];omega);have c4:ar ([114,101,115,117,108,116,60]++(f x++([44,32]++f y))) [62]=true:=bh (by simp only[aE,aC,aJ];omega);simp only[ex,ey,bo,b9,aj,ad,al,ak,an,bu,ek,c1,c2,c3,c4];simp
 ·have ex:=hx.resolve_left (by rw[h1];decide);have c3:ar [114,101,115,117,108,116,60] (f x)=true:=bh (by simp only[aE,aC,aJ];omega);have c4:ar ([114,101,115,117,108,116,60]++f x) [62]=true:=bh (by simp only[aE,aC,aJ];omega);simp only[ex,bo,b9,aj,Bool.and_false,bM,ad,al,ak,an,bu,ek,lT,c3,c4];simp
 ·have ey:=hy.resolve_left (by rw[h2];decide);have c1:ar [44,32] (f y)=true:=bh (by simp only[aC,aJ];omega);have c2:ar [95] ([44,32]++f y)=true:=bh (by simp only[aE,aC,aJ];omega);have c3:ar [114,101,115,117,108,116,60] ([95]++([44,32]++f y))=true:=bh (by simp only[aE,aC,aJ];omega);have c4:ar ([114,101,115,117,108,116,60]++([95]++([44,32]++f y))) [62]=true:=bh (by simp only[aE,aC,aJ];omega);simp only[ey,bo,b9,aj,Bool.and_false,bM,cJ,ad,al,ak,an,bu,ek,lT,c1,c2,c3,c4];simp
 ·simp
theorem SV:∀(m n:Nat)(t:aa),n<m->t.sz<=1048576->0<=bY n t->M.nX m t=some (cF (n+1) t)
 |0,n,t,h,_,_=>by omega
 |m+1,0,t,h,_,h0=>absurd h0 (by show ¬(0:Int)<= -1;omega)
 |m+1,n+1,t,h,hs,h0=>by
  show M.Ff (M.nX m) t=_
  have hS:=ahj h0;have hz:=aa.cV t;have hrec:∀x∈t.Kids,0<=bY n x->M.nX m x=some (cF (n+1) x):=fun x hx h=>SV m n x (by omega) (by have:=aa.Bl hx;omega) h
  have hrk:∀x∈t.Kids,(dw t.Kind&&(x.Kind==1))=true\/M.nX m x=some (cF (n+1) x):=fun x hx=>(hS.kid x hx).imp id (hrec x hx)
  have hk:=aa.EY hs;have hkl:=SJ (n+1) t.Kids;have hkw:=E6 t.Kind;have hj:=jL (t.Kids.map (cF (n+1)));have hle:=d6 List.length t.bn;have hsk:=d6 aa.sz t.Kids;have hmk:(t.Kids.map (cF (n+1))).length=t.Kids.length:=eJ _;have hl:=uu t.Kind t.bn t.Kids (t.Kids.map (cF (n+1)));have hll:=mU t.Kind t.bn t.Kids (t.Kids.map (cF (n+1)));have hj2:=jL (labT t.Kind t.bn t.Kids (t.Kids.map (cF (n+1))));rw[cF];unfold M.Ff bodyT BI BJ;cases h30:(t.Kind==30)
  ·have hK:1<=t.Kind/\t.Kind<=23:=hS.kin.resolve_right (fun e=>by rw[e]at h30;exact absurd h30 (by decide));obtain⟨w1,w2⟩:=kwS hK.1 hK.2;simp only[al,E5,ahk,ahl,ahm,w1,w2,aj,bu,bj,aa.bX];have c1:ar (f8 t.Kind) [60]=true:=bh (by simp only[aE,aC,aJ];omega);have c2:ar (f8 t.Kind++[60]) t.Name=true:=bh (by simp only[aE,aC,aJ];omega);have c3:ar ((f8 t.Kind++[60])++t.Name) [62]=true:=bh (by simp only[aE,aC,aJ];omega);have c4:ar (f8 t.Kind++[60]) (jn (t.Kids.map (cF (n+1))))=true:=bh (by simp only[aE,aC,aJ];omega);have c5:ar ((f8 t.Kind++[60])++jn (t.Kids.map (cF (n+1)))) [62]=true:=bh (by simp only[aE,aC,aJ];omega);cases hW:((t.Kind==12)||((t.Kind==13)||((t.Kind==22)||((t.Kind==23)||(t.Kind==15)))))
   ·simp only[al];cases pY:(t.Kind==14)
    ·simp only[al];cases h20:((t.Kind==20)||(t.Kind==21))
     ·simp only[al];cases hL:((t.Kind==16)||((t.Kind==17)||((t.Kind==18)||(t.Kind==19))))
      ·simp only[al,ad]
      ·have hL':t.Kind=16\/t.Kind=17\/t.Kind=18\/t.Kind=19:=by simpa only[ia,cK]using hL
       have r:=ahp (rec:=M.nX m) (cF (n+1)) t (by omega) (by omega) hS.lab hS.non hL' hrk;have c6:ar (f8 t.Kind) (([32,123,32]++jn (labT t.Kind t.bn t.Kids (t.Kids.map (cF (n+1)))))++[32,125])=true:=bh (by simp only[aE,aC,aJ];omega);simp only[r,c6,ad,ak,an,aj];simp only[fX]
     ·simp only[c1,c2,c3,ad,aj]
    ·have e14:t.Kind=14:=cK.1 pY;have h2:=hS.res e14;obtain⟨x,y,hxy⟩:∃x y,t.Kids=[x,y]:=by
      match hh:t.Kids,h2 with
      |[x,y],_=>exact⟨x,y,rfl⟩
     have h20:((t.Kind==20)||(t.Kind==21))=false:=by rw[e14];rfl
     have u:∀z∈t.Kids,(z.Kind==1)=true\/M.nX m z=some (cF (n+1) z):=fun z hz=>(hrk z hz).imp (fun q=>(Bool.and_eq_true_iff.1 q).2) id
     have hkl':=hkl;rw[hxy]at hkl';simp only[eQ,List.map_nil,bH]at hkl';have hsz:=hz;rw[hxy]at hsz;simp only[bH]at hsz;have r:=ahr (rec:=M.nX m) (cF (n+1)) t x y hxy (by omega) (u x (by rw[hxy];simp)) (u y (by rw[hxy];simp));have i0:inB (0:Int) t.Kids.length=true:=by rw[hxy];rfl
     have i1:inB (1:Int) t.Kids.length=true:=by rw[hxy];rfl
     have g0:List.getD t.Kids (Int.toNat 0) aa.zero=x:=by rw[hxy];rfl
     have g1:List.getD t.Kids (Int.toNat 1) aa.zero=y:=by rw[hxy];rfl
     simp only[g0,g1,i0,i1,r,h20,e14,ad,al,ak,an,aj];rfl
   ·have hW':t.Kind=12\/t.Kind=13\/t.Kind=22\/t.Kind=23\/t.Kind=15:=by simpa only[ia,cK]using hW
    have h20:((t.Kind==20)||(t.Kind==21))=false:=by rcases hW' with e|e|e|e|e<;>rw[e]<;>rfl
    have hun:dw t.Kind=false:=by rcases hW' with e|e|e|e|e<;>rw[e]<;>rfl
    have r:=aho (rec:=M.nX m) (cF (n+1)) t.Kids hk (by omega) (fun x hx=>(hrk x hx).resolve_left (by rw[hun,cJ];decide));simp only[h20,r,c1,c4,c5,ad,al,ak,an,aj]
  ·simp only[ad]
theorem Lt(t:aa)(hs:t.sz<=1048576)(h:0<=bY 4 t):M.yK t=some (cF 5 t):=SV ae 4 t (by have:=bf;omega) hs h
end M
namespace M
open Go.V (inB bS ar ae bf)
def iP(u:aX):List UInt8:=bif !(u.As==[])then u.Name++([32,97,115,32]++u.As)else u.Name
def im(p:aV):List UInt8:=(p.Name++[58,32])++cF 5 p.Term
def nY(x:ai):List UInt8:=bif x.Async then(x.Name++[58,32])++[97,115,121,110,99,32]else x.Name++[58,32]
def uy(x:ai):List UInt8:=nY x++(([102,117,110,99,40]++jn (x.Params.map im))++[41])
def ki(pt:aI->List UInt8)(x:ai):List UInt8:=
 bif x.Kind==1 then[114,101,115,111,117,114,99,101,32]++x.Name
 else bif x.Kind==2 then(([116,121,112,101,32]++x.Name)++[32,61,32])++cF 5 x.Term
 else bif x.Kind==4 then((([117,115,101,32]++pt x.From)++[46,123])++jn (x.Uses.map iP))++[125]
 else bif x.Term.Kind !=1 then uy x++([32,45,62,32]++cF 5 x.Term)else uy x
theorem ahs(u:aX):(iP u).length<=u.sz+4:=by
 have:=aX.cV u;unfold iP;cases (u.As==[])<;>simp<;>omega
theorem BQ:∀l:List aX,bH List.length (l.map iP)<=20*bH aX.sz l
 |[]=>by simp[bH]
 |u::r=>by have:=ahs u;have:=BQ r;simp only[eQ,bH];omega
theorem aht(p:aV):(im p).length<=16*p.sz+16:=by
 have:=aV.cV p;have:=uv 5 p.Term;unfold im;simp only[aE,aC,aJ];omega
theorem BR:∀l:List aV,bH List.length (l.map im)<=20*bH aV.sz l
 |[]=>by simp[bH]
 |u::r=>by have:=aht u;have:=BR r;simp only[eQ,bH];omega
theorem Lu(x:ai):(nY x).length<=x.Name.length+8:=by
 unfold nY;cases x.Async<;>simp
theorem nZ(p:aI):(cz p).length<=p.sz+2:=by
 have:=aI.cV p;unfold cz;cases (p.bD==[])<;>cases (p.Version==[])<;>simp<;>omega
theorem qj(p:aI):(eH p).length<=p.sz+2:=by
 have:=aI.cV p;unfold eH;cases (p.bD==[])<;>cases (p.Version==[])<;>simp<;>omega
theorem Lx(pt:aI->List UInt8)(hp:∀p,(pt p).length<=p.sz+2)(x:ai):(ki pt x).length<=40*x.sz+40:=by
 have hz:=ai.cV x;have h1:=uv 5 x.Term;have h2:=BQ x.Uses;have h3:=BR x.Params;have h4:=Lu x;have h5:=hp x.From;have j1:=jL (x.Uses.map iP);have j2:=jL (x.Params.map im);have l1:=d6 List.length (x.Uses.map iP);have l2:=d6 List.length (x.Params.map im);unfold ki uy;cases (x.Kind==1)<;>cases (x.Kind==2)<;>cases (x.Kind==4)<;>cases (x.Term.Kind !=1)<;>simp only[ad,al,aE,aC,aJ]<;>omega
theorem ahu(x:ai)(h:x.sz<=1048576):M.qk x.Uses ((x.Uses.length:Nat):Int) ae 0 x []=some (x,x.Uses.map iP):=by
 have hz:=ai.cV x;have hl:=d6 aX.sz x.Uses;have e:=Lo (F:=fun n i o=>M.qk x.Uses ((x.Uses.length:Nat):Int) n i x o) (h:=fun o=>some (x,o)) iP x.Uses (by omega) [] (fun n k out hk ho=>by
  show M.qk x.Uses ((x.Uses.length:Nat):Int) (n+1) (k:Int) x out=_
  rw[M.qk];have hm:=gA aX.sz x.Uses x.Uses[k] (dt hk);have hu:=aX.cV x.Uses[k];have hc:∀y:List UInt8,decide (out.length+[y].length<=1073741824)=true:=fun y=>kZ (by simp at ho⊢;omega)
  have c1:ar [32,97,115,32] x.Uses[k].As=true:=bh (by simp only[aC,aJ];omega);have c2:ar x.Uses[k].Name ([32,97,115,32]++x.Uses[k].As)=true:=bh (by simp only[aE,aC,aJ];omega);simp only[fS hk,bN,dT _ hk,ad,dS hk,hc,c1,c2,aj,bu,ai.bX,da hk (by omega:x.Uses.length<2^62)];rfl) (fun n out=>by
  show M.qk x.Uses ((x.Uses.length:Nat):Int) (n+1) _ x out=_
  rw[M.qk];simp only[Int.lt_irrefl,nb,al,ai.bX])
 simpa using e
theorem ahv(text:List UInt8)(x:ai)(h:x.sz<=1048576):M.ql text x.Params ((x.Params.length:Nat):Int) ae 0 x []=some (text,x,x.Params.map im):=by
 have hz:=ai.cV x;have hl:=d6 aV.sz x.Params;have e:=Lo (F:=fun n i o=>M.ql text x.Params ((x.Params.length:Nat):Int) n i x o) (h:=fun o=>some (text,x,o)) im x.Params (by omega) [] (fun n k out hk ho=>by
  show M.ql text x.Params ((x.Params.length:Nat):Int) (n+1) (k:Int) x out=_
  rw[M.ql];have hm:=gA aV.sz x.Params x.Params[k] (dt hk);have hu:=aV.cV x.Params[k];have ht:=uv 5 x.Params[k].Term;have hc:∀y:List UInt8,decide (out.length+[y].length<=1073741824)=true:=fun y=>kZ (by simp at ho⊢;omega)
  have c1:ar x.Params[k].Name [58,32]=true:=bh (by simp only[aC,aJ];omega);have c2:ar (x.Params[k].Name++[58,32]) (cF 5 x.Params[k].Term)=true:=bh (by simp only[aE,aC,aJ];omega);have et:M.ux x.Params[k].Term 5=some (cF 5 x.Params[k].Term):=SO _ (by omega);simp only[fS hk,bN,dT _ hk,ad,aa.bX,et,ak,an,dS hk,hc,c1,c2,aj,ai.bX,da hk (by omega:x.Params.length<2^62)];rfl) (fun n out=>by
  show M.ql text x.Params ((x.Params.length:Nat):Int) (n+1) _ x out=_
  rw[M.ql];simp only[Int.lt_irrefl,nb,al,ai.bX])
 simpa using e
theorem ahw(x:ai)(h:x.sz<=1048576):M.BS x=some (ki cz x):=by
 have hz:=ai.cV x;have h1:=uv 5 x.Term;have h2:=BQ x.Uses;have h3:=BR x.Params;have h4:=Lu x;have h5:=nZ x.From;have j1:=jL (x.Uses.map iP);have j2:=jL (x.Params.map im);have l1:=d6 List.length (x.Uses.map iP);have l2:=d6 List.length (x.Params.map im);have et:M.ux x.Term 5=some (cF 5 x.Term):=SO _ (by omega);have ep:M.uj x.From=some (cz x.From):=SC _ (by omega);have ej1:=E4 (x.Uses.map iP) (by omega);have ej2:=E4 (x.Params.map im) (by omega);have ex:ai.re x=x:=ai.bX x;unfold M.BS ki;cases hK1:(x.Kind==1)
 ·cases hK2:(x.Kind==2)
  ·cases hK4:(x.Kind==4)
   ·have c1:ar x.Name [58,32]=true:=bh (by simp only[aE,aC,aJ];omega);have c2:ar (x.Name++[58,32]) [97,115,121,110,99,32]=true:=bh (by simp only[aE,aC,aJ];omega);have c3:ar [102,117,110,99,40] (jn (x.Params.map im))=true:=bh (by simp only[aE,aC,aJ];omega);have c4:ar ([102,117,110,99,40]++jn (x.Params.map im)) [41]=true:=bh (by simp only[aE,aC,aJ];omega);have c5:ar (nY x) (([102,117,110,99,40]++jn (x.Params.map im))++[41])=true:=bh (by simp only[aE,aC,aJ];omega);have c6:ar [32,45,62,32] (cF 5 x.Term)=true:=bh (by simp only[aE,aC,aJ];omega);have c7:ar (uy x) ([32,45,62,32]++cF 5 x.Term)=true:=bh (by unfold uy;simp only[aE,aC,aJ];omega);simp only[al,ex,ahv _ x h,aa.bX,et,ej2,ak,an];rw[show(bif x.Async then(x.Name++[58,32])++[97,115,121,110,99,32]else x.Name++[58,32])=nY x from rfl];rw[show nY x++(([102,117,110,99,40]++jn (x.Params.map im))++[41])=uy x from rfl];simp only[c1,c2,c3,c4,c5,c6,c7,aj,bu,ad]
   ·have c1:ar [117,115,101,32] (cz x.From)=true:=bh (by simp only[aE,aC,aJ];omega);have c2:ar ([117,115,101,32]++cz x.From) [46,123]=true:=bh (by simp only[aE,aC,aJ];omega);have c3:ar (([117,115,101,32]++cz x.From)++[46,123]) (jn (x.Uses.map iP))=true:=bh (by simp only[aE,aC,aJ];omega);have c4:ar ((([117,115,101,32]++cz x.From)++[46,123])++jn (x.Uses.map iP)) [125]=true:=bh (by simp only[aE,aC,aJ];omega);simp only[al,ad,ex,ahu x h,ep,ej1,ak,an,c1,c2,c3,c4,aj]
  ·have c1:ar [116,121,112,101,32] x.Name=true:=bh (by simp only[aE,aC,aJ];omega);have c2:ar ([116,121,112,101,32]++x.Name) [32,61,32]=true:=bh (by simp only[aE,aC,aJ];omega);have c3:ar (([116,121,112,101,32]++x.Name)++[32,61,32]) (cF 5 x.Term)=true:=bh (by simp only[aE,aC,aJ];omega);simp only[al,ad,aa.bX,et,ak,an,c1,c2,c3,aj]
 ·have c1:ar [114,101,115,111,117,114,99,101,32] x.Name=true:=bh (by simp only[aE,aC,aJ];omega);simp only[ad,c1,aj]
def mV(x:ai):Bool:= !((decide ((6:Int)<((x.Params.length:Nat):Int))||decide ((16:Int)<((x.Uses.length:Nat):Int)))||(decide (bY 4 x.Term<0)&&((x.Kind==2)||(x.Kind==3))))&&((x.Params.all fun p=> !decide (bY 4 p.Term<0))&&(decide (1<=x.Kind)&&decide (x.Kind<=4)))
theorem SX(x:ai)(hl:x.Params.length<=6):∀(f k:Nat),x.Params.length-k<f->k<=x.Params.length->M.yL f (k:Int) x=some (bif((x.Params.drop k).all fun p=> !decide (bY 4 p.Term<0))then .inr x else .inl false)
 |0,k,h,_=>by omega
 |f+1,k,h,hk=>by
  rw[M.yL];have ex:ai.re x=x:=ai.bX x;rcases cQ k x.Params.length with q|q
  ·have ih:=SX x hl f (k+1) (by omega) (by omega);rw[kx q,nf];simp only[fS q,bN,dT _ q,aa.bX,SS,ak,an,ad,dS q,aj,da q (by omega:x.Params.length<2^62),ex,ih];cases decide (bY 4 x.Params[k].Term<0)<;>rfl
  ·simp only[lJ q,al,ex];rw[List.drop_eq_nil_of_le q];rfl
theorem ahz(x:ai):M.BU x=some (mV x):=by
 unfold M.BU mV;have ex:ai.re x=x:=ai.bX x;simp only[aa.bX,SS,ak,an,bu,aj,ad];cases hc:((decide ((6:Int)<((x.Params.length:Nat):Int))||decide ((16:Int)<((x.Uses.length:Nat):Int)))||(decide (bY 4 x.Term<0)&&((x.Kind==2)||(x.Kind==3))))
 ·have hl:x.Params.length<=6:=by
   simp only[lR,fE]at hc;omega
  have e:=SX x hl ae 0 (by have:=bf;omega) (by omega);rw[show((0:Nat):Int)=0 from rfl,jj]at e;simp only[al,ex,e,bo,bj];cases (x.Params.all fun p=> !decide (bY 4 p.Term<0))<;>rfl
 ·rfl
theorem ahA(x:ai)(s0:List UInt8)(h:x.sz<=1048576)(h0:s0.length<=100000000):M.qm ae s0 0 x=some (s0++jn (x.Uses.map iP)):=by
 have hz:=ai.cV x;have hl:=d6 aX.sz x.Uses;have h2:=BQ x.Uses;exact E8 (F:=fun n s i=>M.qm n s i x) (h:=some) (x.Uses.map iP) (by rw[eJ];omega) s0 (fun n k s hk hs=>by
  rw[eJ]at hk
  show M.qm (n+1) s (k:Int) x=_
  rw[M.qm];have hm:=gA aX.sz x.Uses x.Uses[k] (dt hk);have hu:=aX.cV x.Uses[k];have hc:=Fb k s;have ex:ai.re x=x:=ai.bX x;have c0:=Fe k (s:=s) (by omega);have c1:ar (bif decide ((0:Int)<(k:Int))then s++[44,32]else s) x.Uses[k].Name=true:=bh (by omega);have c2:ar [32,97,115,32] x.Uses[k].As=true:=bh (by simp only[aC,aJ];omega);have c3:ar ((bif decide ((0:Int)<(k:Int))then s++[44,32]else s)++x.Uses[k].Name) ([32,97,115,32]++x.Uses[k].As)=true:=bh (by simp only[aE,aC,aJ];omega);simp only[fS hk,bN,dT _ hk,ad,dS hk,c0,c1,c2,c3,aj,bu,da hk (by omega:x.Uses.length<2^62),ex,zC];unfold iP;cases (x.Uses[k].As==[])<;>simp only[bo,b9,ad,al,fX]) (fun n s=>by
  show M.qm (n+1) s _ x=_
  rw[eJ,M.qm];simp only[Int.lt_irrefl,nb,al])
theorem ahB(x:ai)(s0:List UInt8)(h:x.sz<=1048576)(h0:s0.length<=100000000)(hp:∀p∈x.Params,0<=bY 4 p.Term):M.qn ae s0 0 x=some (s0++jn (x.Params.map im),x):=by
 have hz:=ai.cV x;have hl:=d6 aV.sz x.Params;have h2:=BR x.Params;exact E8 (F:=fun n s i=>M.qn n s i x) (h:=fun s=>some (s,x)) (x.Params.map im) (by rw[eJ];omega) s0 (fun n k s hk hs=>by
  rw[eJ]at hk
  show M.qn (n+1) s (k:Int) x=_
  rw[M.qn];have hm:=gA aV.sz x.Params x.Params[k] (dt hk);have hu:=aV.cV x.Params[k];have ht:=uv 5 x.Params[k].Term;have hc:=Fb k s;have ex:ai.re x=x:=ai.bX x;have et:=Lt x.Params[k].Term (by omega) (hp _ (dt hk));have c0:=Fe k (s:=s) (by omega);have c1:ar x.Params[k].Name [58,32]=true:=bh (by simp only[aC,aJ];omega);have c2:ar (x.Params[k].Name++[58,32]) (cF 5 x.Params[k].Term)=true:=bh (by simp only[aE,aC,aJ];omega);have c3:ar (bif decide ((0:Int)<(k:Int))then s++[44,32]else s) ((x.Params[k].Name++[58,32])++cF 5 x.Params[k].Term)=true:=bh (by simp only[aE,aC,aJ];omega);simp only[fS hk,bN,dT _ hk,ad,aa.bX,et,ak,an,dS hk,c0,c1,c2,c3,aj,bu,da hk (by omega:x.Params.length<2^62),ex,zC];rfl) (fun n s=>by
  show M.qn (n+1) s _ x=_
  rw[eJ,M.qn];simp only[Int.lt_irrefl,nb,al,ai.bX])
theorem ahC(x:ai)(h:x.sz<=1048576)(hS:mV x=true):M.BV x=some (ki eH x):=by
 have hz:=ai.cV x;have h1:=uv 5 x.Term;have h2:=BQ x.Uses;have h3:=BR x.Params;have h4:=Lu x;have h5:=qj x.From;have j1:=jL (x.Uses.map iP);have j2:=jL (x.Params.map im);have l1:=d6 List.length (x.Uses.map iP);have l2:=d6 List.length (x.Params.map im);have ep:M.uk x.From=some (eH x.From):=SD _ (by omega);unfold mV at hS;simp only[bz,ga,lR,Bool.and_eq_false_iff,fE,ct,fG,ga,fE]at hS;obtain⟨⟨⟨hs1,hs2⟩,hs3⟩,hs4,hs5,hs6⟩:=hS;have hp:∀p∈x.Params,0<=bY 4 p.Term:=fun p hp=>by have:=hs4 p hp;omega
 have ex:ai.re x=x:=ai.bX x;unfold M.BV ki;cases hK1:(x.Kind==1)
 ·cases hK2:(x.Kind==2)
  ·cases hK4:(x.Kind==4)
   ·have hK3:(x.Kind==3)=true:=by
     rw[cL]at hK1 hK2 hK4;rw[cK];omega
    have ht:0<=bY 4 x.Term:=by
     rcases hs3 with q|⟨_,q⟩
     ·omega
     ·rw[hK3]at q;cases q
    have et:=Lt x.Term (by omega) ht;have c1:ar x.Name [58,32]=true:=bh (by simp only[aE,aC,aJ];omega);have c2:ar (x.Name++[58,32]) [97,115,121,110,99,32]=true:=bh (by simp only[aE,aC,aJ];omega);have c3:ar (nY x) [102,117,110,99,40]=true:=bh (by simp only[aE,aC,aJ];omega);have c4:ar ((nY x++[102,117,110,99,40])++jn (x.Params.map im)) [41]=true:=bh (by simp only[aE,aC,aJ];omega);have c6:ar [32,45,62,32] (cF 5 x.Term)=true:=bh (by simp only[aE,aC,aJ];omega);have c7:ar (((nY x++[102,117,110,99,40])++jn (x.Params.map im))++[41]) ([32,45,62,32]++cF 5 x.Term)=true:=bh (by simp only[aE,aC,aJ];omega);simp only[al,ex];rw[show(bif x.Async then(x.Name++[58,32])++[97,115,121,110,99,32]else x.Name++[58,32])=nY x from rfl];rw[ahB x _ h (by simp only[aE,aC,aJ];omega) hp];simp only[aa.bX,et,ak,an,c1,c2,c3,c4,c6,c7,aj,bu,ad];unfold uy;cases (x.Term.Kind !=1)<;>simp only[ad,al,fX]
   ·have c1:ar [117,115,101,32] (eH x.From)=true:=bh (by simp only[aE,aC,aJ];omega);have c2:ar ([117,115,101,32]++eH x.From) [46,123]=true:=bh (by simp only[aE,aC,aJ];omega);have c4:ar ((([117,115,101,32]++eH x.From)++[46,123])++jn (x.Uses.map iP)) [125]=true:=bh (by simp only[aE,aC,aJ];omega);have e:=ahA x (([117,115,101,32]++eH x.From)++[46,123]) h (by simp only[aE,aC,aJ];omega);simp only[al,ad,ex,ep,ak,an,e,c1,c2,c4,aj]
  ·have ht:0<=bY 4 x.Term:=by
    rcases hs3 with q|⟨q,_⟩
    ·omega
    ·rw[hK2]at q;cases q
   have et:=Lt x.Term (by omega) ht;have c1:ar [116,121,112,101,32] x.Name=true:=bh (by simp only[aE,aC,aJ];omega);have c2:ar ([116,121,112,101,32]++x.Name) [32,61,32]=true:=bh (by simp only[aE,aC,aJ];omega);have c3:ar (([116,121,112,101,32]++x.Name)++[32,61,32]) (cF 5 x.Term)=true:=bh (by simp only[aE,aC,aJ];omega);simp only[al,ad,aa.bX,et,ak,an,c1,c2,c3,aj]
 ·have c1:ar [114,101,115,111,117,114,99,101,32] x.Name=true:=bh (by simp only[aE,aC,aJ];omega);simp only[ad,c1,aj]
def pf(p:aI):Prop:=p.bD=[]->p.Version=[]
theorem ahD(x:ai)(h:pf x.From):ki eH x=ki cz x:=by
 unfold ki;rw[SE x.From h]
end M
namespace M
open Go.V (inB bS ar ae bf)
theorem lO{α:Type}(g:α->List UInt8):∀l:List α,((l.map g).flatten).length<=bH (fun x=>(g x).length) l
 |[]=>by simp[bH]
 |x::r=>by have:=lO g r;simp only[eQ,List.flatten_cons,aE,bH];omega
theorem uz{α Y:Type}{F:Nat->Int->List UInt8->Option Y}{h:List UInt8->Option Y}(g:α->List UInt8)(l:List α)(hn:l.length<=2097152)(s0:List UInt8)
 (step:∀f k s,∀hk:k<l.length,s.length<=s0.length+bH (fun x=>(g x).length) l->F (f+1) (k:Int) s=F f ((k+1:Nat):Int) (s++g l[k]))
 (stop:∀f s,F (f+1) (l.length:Int) s=h s):F ae 0 s0=h (s0++(l.map g).flatten):=by
 have key:∀f k,k<=l.length->l.length-k<f->F f (k:Int) (s0++((l.take k).map g).flatten)=h (s0++(l.map g).flatten):=by
  intro f
  induction f with
  |zero=>intro k h1 h2;omega
  |succ f ih=>
   intro k h1 h2;rcases cQ k l.length with hk|hk
   ·have hj:=lO g (l.take k);have ht:=Lp (fun x=>(g x).length) l k;rw[step f k _ hk (by rw[aE];omega)];have e:(s0++((l.take k).map g).flatten)++g l[k]=s0++((l.take (k+1)).map g).flatten:=by
     rw[H3,cH hk,Option.toList_some,uW,List.flatten_append,fX];simp
    rw[e];exact ih (k+1) (by omega) (by omega)
   ·have:k=l.length:=by omega
    subst this;rw[stop,H4]
 have:=key ae 0 (cM _) (by have:=bf;omega);simpa using this
theorem wd(s o:List UInt8)(h:o.length+s.length<=1073741824):M.pg s o=some (((s.length:Nat):Int),o++s):=by
 unfold M.pg;rw[List.map_id'];simp only[kZ h,aj,ad]
def jv(pt:aI->List UInt8)(x:ai):List UInt8:=([32,32]++ki pt x)++[59,10]
def iq(pt:aI->List UInt8)(f:aG):List UInt8:=((([10,105,110,116,101,114,102,97,99,101,32]++f.Name)++[32,123,10])++(f.Items.map (jv pt)).flatten)++[125,10]
def jw:List (List UInt8):=[[105,109,112,111,114,116],[101,120,112,111,114,116],[105,110,99,108,117,100,101]]
def lg(K:Int):List UInt8:=bif decide (1<=K)&&decide (K<=3)then List.getD ([]::jw) K.toNat []else[]
def jx(pt:aI->List UInt8)(x:aO):List UInt8:=((([32,32]++lg x.Kind)++[32])++pt x.Path)++[59,10]
def worldT(pt:aI->List UInt8)(w:aQ):List UInt8:=((([10,119,111,114,108,100,32]++w.Name)++[32,123,10])++(w.Items.map (jx pt)).flatten)++[125,10]
def firstT(x:aw):List UInt8:=((([112,97,99,107,97,103,101,32]++x.Name)++[64])++x.Version)++[59,10]
def fj(pt:aI->List UInt8)(x:aw):List UInt8:=(firstT x++(x.aD.map (iq pt)).flatten)++(x.Worlds.map (worldT pt)).flatten
theorem Fg(K:Int):(lg K).length<=7:=by
 unfold lg;have h:∀w∈([]::jw),w.length<=7:=by
  have:((([]:List UInt8)::jw).all fun w=>decide (w.length<=7))=true:=by decide
  intro w hw;simpa using fG.1 this w hw
 cases decide (1<=K)&&decide (K<=3)
 ·simp
 ·rw[ad];rcases cQ K.toNat (List.length ([]::jw))with hk|hk
  ·rw[getD_lt hk];exact h _ (dt hk)
  ·rw[gK,lp hk];simp
theorem ahE{pt:aI->List UInt8}(hp:∀p,(pt p).length<=p.sz+2)(x:ai):(jv pt x).length<=40*x.sz+44:=by
 have:=Lx pt hp x;unfold jv;simp only[aE,aC,aJ];omega
theorem yM{pt:aI->List UInt8}(hp:∀p,(pt p).length<=p.sz+2):∀l:List ai,bH (fun x=>(jv pt x).length) l<=48*bH ai.sz l
 |[]=>by simp[bH]
 |x::r=>by have:=ahE hp x;have:=yM hp r;simp only[bH];omega
theorem ahF{pt:aI->List UInt8}(hp:∀p,(pt p).length<=p.sz+2)(f:aG):(iq pt f).length<=48*f.sz+16:=by
 have h1:=aG.cV f;have h2:=lO (jv pt) f.Items;have h3:=yM hp f.Items;unfold iq;simp only[aE,aC,aJ];omega
theorem BW{pt:aI->List UInt8}(hp:∀p,(pt p).length<=p.sz+2):∀l:List aG,bH (fun x=>(iq pt x).length) l<=48*bH aG.sz l
 |[]=>by simp[bH]
 |x::r=>by have:=ahF hp x;have:=BW hp r;simp only[bH];omega
theorem SY{pt:aI->List UInt8}(hp:∀p,(pt p).length<=p.sz+2)(x:aO):(jx pt x).length<=x.sz+14:=by
 have h1:=aO.cV x;have h2:=Fg x.Kind;have h3:=hp x.Path;unfold jx;simp only[aE,aC,aJ];omega
theorem yN{pt:aI->List UInt8}(hp:∀p,(pt p).length<=p.sz+2):∀l:List aO,bH (fun x=>(jx pt x).length) l<=48*bH aO.sz l
 |[]=>by simp[bH]
 |x::r=>by have:=SY hp x;have:=yN hp r;simp only[bH];omega
theorem ahG{pt:aI->List UInt8}(hp:∀p,(pt p).length<=p.sz+2)(f:aQ):(worldT pt f).length<=48*f.sz+16:=by
 have h1:=aQ.cV f;have h2:=lO (jx pt) f.Items;have h3:=yN hp f.Items;unfold worldT;simp only[aE,aC,aJ];omega
theorem Fh{pt:aI->List UInt8}(hp:∀p,(pt p).length<=p.sz+2):∀l:List aQ,bH (fun x=>(worldT pt x).length) l<=48*bH aQ.sz l
 |[]=>by simp[bH]
 |x::r=>by have:=ahG hp x;have:=Fh hp r;simp only[bH];omega
theorem ahH(a:List aG)(b c:Int)(x:aw)(l:List ai)(h:bH ai.sz l<=1048576)(o:List UInt8)(ho:o.length<=300000000):M.qo a b c l ((l.length:Nat):Int) x ae 0 o=some (a,b,c,x,o++(l.map (jv cz)).flatten):=by
 have hl:=d6 ai.sz l;have hs:=yM nZ l;exact uz (F:=fun n i s=>M.qo a b c l ((l.length:Nat):Int) x n i s) (h:=fun s=>some (a,b,c,x,s)) (jv cz) l (by omega) o (fun n k s hk hs'=>by
  show M.qo a b c l ((l.length:Nat):Int) x (n+1) (k:Int) s=_
  rw[M.qo];have hm:=gA ai.sz l l[k] (dt hk);have hi:=Lx cz nZ l[k];have ex:∀y:ai,ai.re y=y:=ai.bX;have et:=ahw l[k] (by omega);have c1:ar [32,32] (ki cz l[k])=true:=bh (by simp only[aC,aJ];omega);have c2:ar ([32,32]++ki cz l[k]) [59,10]=true:=bh (by simp only[aE,aC,aJ];omega);have ew:=wd (([32,32]++ki cz l[k])++[59,10]) s (by simp only[aE,aC,aJ];omega);simp only[fS hk,bN,dT _ hk,ad,ex,et,ak,an,dS hk,c1,c2,ew,aj,da hk (by omega:l.length<2^62)];rfl) (fun n s=>by
  show M.qo a b c l ((l.length:Nat):Int) x (n+1) _ s=_
  rw[M.qo];simp only[Int.lt_irrefl,nb,al])
theorem ahI(x:aw)(l:List aG)(h:bH aG.sz l<=1048576)(o:List UInt8)(ho:o.length<=100000000):M.qp ae l ((l.length:Nat):Int) 0 x o=some (x,o++(l.map (iq cz)).flatten):=by
 have hl:=d6 aG.sz l;have hs:=BW nZ l;exact uz (F:=fun n i s=>M.qp n l ((l.length:Nat):Int) i x s) (h:=fun s=>some (x,s)) (iq cz) l (by omega) o (fun n k s hk hs'=>by
  show M.qp (n+1) l ((l.length:Nat):Int) (k:Int) x s=_
  rw[M.qp];have hm:=gA aG.sz l l[k] (dt hk);have hz:=aG.cV l[k];have hi:=lO (jv cz) l[k].Items;have hi2:=yM nZ l[k].Items;have c1:ar [10,105,110,116,101,114,102,97,99,101,32] l[k].Name=true:=bh (by simp only[aC,aJ];omega);have c2:ar ([10,105,110,116,101,114,102,97,99,101,32]++l[k].Name) [32,123,10]=true:=bh (by simp only[aE,aC,aJ];omega);have w1:=wd (([10,105,110,116,101,114,102,97,99,101,32]++l[k].Name)++[32,123,10]) s (by simp only[aE,aC,aJ];omega);have ei:=ahH l ((l.length:Nat):Int) (k:Int) x l[k].Items (by omega) (s++(([10,105,110,116,101,114,102,97,99,101,32]++l[k].Name)++[32,123,10])) (by simp only[aE,aC,aJ];omega);have w2:=wd [125,10] ((s++(([10,105,110,116,101,114,102,97,99,101,32]++l[k].Name)++[32,123,10]))++(l[k].Items.map (jv cz)).flatten) (by simp only[aE,aC,aJ];omega);simp only[fS hk,bN,dT _ hk,ad,ak,an,dS hk,c1,c2,w1,w2,ei,aj,da hk (by omega:l.length<2^62)];unfold iq;simp only[fX]) (fun n s=>by
  show M.qp (n+1) l ((l.length:Nat):Int) _ x s=_
  rw[M.qp];simp only[Int.lt_irrefl,nb,al])
theorem ahJ(a:List aQ)(b c:Int)(l:List aO)(h:bH aO.sz l<=1048576)(o:List UInt8)(ho:o.length<=300000000):M.qq a b c l ((l.length:Nat):Int) ([]::jw) ae 0 o=some (a,b,c,[]::jw,o++(l.map (jx cz)).flatten):=by
 have hl:=d6 aO.sz l;have hs:=yN nZ l;exact uz (F:=fun n i s=>M.qq a b c l ((l.length:Nat):Int) ([]::jw) n i s) (h:=fun s=>some (a,b,c,[]::jw,s)) (jx cz) l (by omega) o (fun n k s hk hs'=>by
  show M.qq a b c l ((l.length:Nat):Int) ([]::jw) (n+1) (k:Int) s=_
  rw[M.qq];have hm:=gA aO.sz l l[k] (dt hk);have hz:=aO.cV l[k];have hi:=SY nZ l[k];have hpl:=nZ l[k].Path;have hww:=Fg l[k].Kind;have et:=SC l[k].Path (by omega);have c0:ar [32,32] (lg l[k].Kind)=true:=bh (by simp only[aC,aJ];omega);have c1:ar ([32,32]++lg l[k].Kind) [32]=true:=bh (by simp only[aE,aC,aJ];omega);have c2:ar (([32,32]++lg l[k].Kind)++[32]) (cz l[k].Path)=true:=bh (by simp only[aE,aC,aJ];omega);have c3:ar ((([32,32]++lg l[k].Kind)++[32])++cz l[k].Path) [59,10]=true:=bh (by simp only[aE,aC,aJ];omega);have ew:=wd (((([32,32]++lg l[k].Kind)++[32])++cz l[k].Path)++[59,10]) s (by simp only[aE,aC,aJ];omega);have hw:(bif decide (1<=l[k].Kind)&&decide (l[k].Kind<=3)then List.getD ([]::jw) (Int.toNat l[k].Kind) []else[])=lg l[k].Kind:=rfl;have hib:((inB l[k].Kind (List.length ([]::jw))&&true)|| !(decide (1<=l[k].Kind)&&decide (l[k].Kind<=3)))=true:=by
   cases hq:(decide (1<=l[k].Kind)&&decide (l[k].Kind<=3))
   ·simp
   ·simp only[bz,ct]at hq;obtain⟨j,hj⟩:=kj (show 0<=l[k].Kind by omega);rw[hj,cZ,show List.length (([]:List UInt8)::jw)=4 from rfl,cN (show j<4 by omega)];rfl
  simp only[fS hk,bN,dT _ hk,ad,et,ak,an,dS hk,hw,aj,bu];simp only[c0,c1,c2,c3,ew,hib,ak,an,aj,ad,da hk (by omega:l.length<2^62)];rfl) (fun n s=>by
  show M.qq a b c l ((l.length:Nat):Int) ([]::jw) (n+1) _ s=_
  rw[M.qq];simp only[Int.lt_irrefl,nb,al])
theorem ahL(l:List aQ)(h:bH aQ.sz l<=1048576)(o:List UInt8)(ho:o.length<=200000000):M.qt ae l ((l.length:Nat):Int) 0 ([]::jw) o=some (o++(l.map (worldT cz)).flatten):=by
 have hl:=d6 aQ.sz l;have hs:=Fh nZ l;exact uz (F:=fun n i s=>M.qt n l ((l.length:Nat):Int) i ([]::jw) s) (h:=fun s=>some s) (worldT cz) l (by omega) o (fun n k s hk hs'=>by
  show M.qt (n+1) l ((l.length:Nat):Int) (k:Int) ([]::jw) s=_
  rw[M.qt];have hm:=gA aQ.sz l l[k] (dt hk);have hz:=aQ.cV l[k];have hi:=lO (jx cz) l[k].Items;have hi2:=yN nZ l[k].Items;have c1:ar [10,119,111,114,108,100,32] l[k].Name=true:=bh (by simp only[aC,aJ];omega);have c2:ar ([10,119,111,114,108,100,32]++l[k].Name) [32,123,10]=true:=bh (by simp only[aE,aC,aJ];omega);have w1:=wd (([10,119,111,114,108,100,32]++l[k].Name)++[32,123,10]) s (by simp only[aE,aC,aJ];omega);have ei:=ahJ l ((l.length:Nat):Int) (k:Int) l[k].Items (by omega) (s++(([10,119,111,114,108,100,32]++l[k].Name)++[32,123,10])) (by simp only[aE,aC,aJ];omega);have w2:=wd [125,10] ((s++(([10,119,111,114,108,100,32]++l[k].Name)++[32,123,10]))++(l[k].Items.map (jx cz)).flatten) (by simp only[aE,aC,aJ];omega);simp only[fS hk,bN,dT _ hk,ad,ak,an,dS hk,c1,c2,w1,w2,ei,aj,da hk (by omega:l.length<2^62)];unfold worldT;simp only[fX]) (fun n s=>by
  show M.qt (n+1) l ((l.length:Nat):Int) _ ([]::jw) s=_
  rw[M.qt];simp only[Int.lt_irrefl,nb,al])
theorem SZ(x:aw)(h:x.sz<=1048576):M.uh x=some (fj cz x):=by
 have hz:=aw.cV x;have f1:=lO (iq cz) x.aD;have f2:=BW nZ x.aD;have f3:=lO (worldT cz) x.Worlds;have f4:=Fh nZ x.Worlds;have c1:ar [112,97,99,107,97,103,101,32] x.Name=true:=bh (by simp only[aE,aC,aJ];omega);have c2:ar ([112,97,99,107,97,103,101,32]++x.Name) [64]=true:=bh (by simp only[aE,aC,aJ];omega);have c3:ar (([112,97,99,107,97,103,101,32]++x.Name)++[64]) x.Version=true:=bh (by simp only[aE,aC,aJ];omega);have c4:ar ((([112,97,99,107,97,103,101,32]++x.Name)++[64])++x.Version) [59,10]=true:=bh (by simp only[aE,aC,aJ];omega);have e0:((([112,97,99,107,97,103,101,32]++x.Name)++[64])++x.Version)++[59,10]=firstT x:=rfl;have fl:(firstT x).length<=1048700:=by unfold firstT;simp only[aE,aC,aJ];omega
 have w:=wd (firstT x) [] (by simp only[aJ];omega);have e1:=ahI x x.aD (by omega) (firstT x) (by omega);have e2:=ahL x.Worlds (by omega) (firstT x++(x.aD.map (iq cz)).flatten) (by simp only[aE];omega);have e3:M.tn (fj cz x)=some (fj cz x):=by
  unfold M.tn;have:(fj cz x).length<=1073741824:=by unfold fj;simp only[aE];omega
  rw[cN this];rfl
 unfold M.uh;simp only[e0,w,eP,ak,an,e1];rw[show([[],[(105:UInt8),(109:UInt8),(112:UInt8),(111:UInt8),(114:UInt8),(116:UInt8)],[(101:UInt8),(120:UInt8),(112:UInt8),(111:UInt8),(114:UInt8),(116:UInt8)],[(105:UInt8),(110:UInt8),(99:UInt8),(108:UInt8),(117:UInt8),(100:UInt8),(101:UInt8)]]:List (List UInt8))=[]::jw from rfl,e2];simp only[];rw[show(firstT x++(x.aD.map (iq cz)).flatten)++(x.Worlds.map (worldT cz)).flatten=fj cz x from rfl,e3];simp only[c1,c2,c3,c4,ak,an,aj,ad]
end M
namespace M
open Go.V (inB bS ar ae bf)
def mo(f:aG):Bool:= !decide ((16:Int)<((f.Items.length:Nat):Int))&&f.Items.all mV
def rX(x:aO):Bool:=decide (1<=x.Kind)&&decide (x.Kind<=3)
def mq(w:aQ):Bool:= !decide ((16:Int)<((w.Items.length:Nat):Int))&&w.Items.all rX
def uA(x:aw):Bool:= !(decide ((8:Int)<((x.aD.length:Nat):Int))||decide ((8:Int)<((x.Worlds.length:Nat):Int)))&&(x.aD.all mo&&x.Worlds.all mq)
theorem S3(x:aw)(i:Nat)(hi:i<x.aD.length)(hl:x.aD[i].Items.length<=16):∀(f k:Nat),x.aD[i].Items.length-k<f->k<=x.aD[i].Items.length->M.yO (i:Int) x f (k:Int)=some (bif(x.aD[i].Items.drop k).all mV then .inr ((i:Int),x)else .inl false)
 |0,k,h,_=>by omega
 |f+1,k,h,hk=>by
  rw[M.yO];have ex:∀y:ai,ai.re y=y:=ai.bX;simp only[bN,dT _ hi,dS hi];rcases cQ k x.aD[i].Items.length with q|q
  ·have ih:=S3 x i hi hl f (k+1) (by omega) (by omega);rw[kx q,nf];simp only[fS q,bN,dT _ q,ex,ahz,ak,an,ad,dS q,aj,da q (by omega:x.aD[i].Items.length<2^62),ih];cases mV x.aD[i].Items[k]<;>rfl
  ·simp only[lJ q,al,aj,ad];rw[List.drop_eq_nil_of_le q];rfl
theorem S4(x:aw)(hl:x.aD.length<=8):∀(f k:Nat),x.aD.length-k<f->k<=x.aD.length->M.yP f (k:Int) x=some (bif(x.aD.drop k).all mo then .inr x else .inl false)
 |0,k,h,_=>by omega
 |f+1,k,h,hk=>by
  rw[M.yP];rcases cQ k x.aD.length with q|q
  ·have ih:=S4 x hl f (k+1) (by omega) (by omega);rw[kx q,nf];simp only[fS q,bN,dT _ q,ad,dS q,aj];cases hc:decide ((16:Int)<((x.aD[k].Items.length:Nat):Int))
   ·have h16:x.aD[k].Items.length<=16:=by have:=of_decide_eq_false hc;omega
    have e:=S3 x k q h16 ae 0 (by have:=bf;omega) (by omega);rw[show((0:Nat):Int)=0 from rfl,jj]at e;have es:mo x.aD[k]=x.aD[k].Items.all mV:=by unfold mo;rw[hc];rfl
    simp only[al,e,es];cases x.aD[k].Items.all mV
    ·rfl
    ·simp only[ad,bj,da q (by omega:x.aD.length<2^62),ih]
   ·have es:mo x.aD[k]=false:=by unfold mo;rw[hc];rfl
    simp only[ad,es];rfl
  ·simp only[lJ q,al];rw[List.drop_eq_nil_of_le q];rfl
theorem S5(x:aw)(i:Nat)(hi:i<x.Worlds.length)(hl:x.Worlds[i].Items.length<=16):∀(f k:Nat),x.Worlds[i].Items.length-k<f->k<=x.Worlds[i].Items.length->M.yQ (i:Int) x f (k:Int)=some (bif(x.Worlds[i].Items.drop k).all rX then .inr ((i:Int),x)else .inl false)
 |0,k,h,_=>by omega
 |f+1,k,h,hk=>by
  rw[M.yQ];simp only[bN,dT _ hi,dS hi];rcases cQ k x.Worlds[i].Items.length with q|q
  ·have ih:=S5 x i hi hl f (k+1) (by omega) (by omega);rw[kx q,nf];have ew:(decide (1<=x.Worlds[i].Items[k].Kind)&&decide (x.Worlds[i].Items[k].Kind<=3))=rX x.Worlds[i].Items[k]:=rfl;simp only[fS q,bN,dT _ q,ew,ad,dS q,aj,da q (by omega:x.Worlds[i].Items.length<2^62),ih];cases rX x.Worlds[i].Items[k]<;>rfl
  ·simp only[lJ q,al,aj,ad];rw[List.drop_eq_nil_of_le q];rfl
theorem S7(x:aw)(hl:x.Worlds.length<=8):∀(f k:Nat),x.Worlds.length-k<f->k<=x.Worlds.length->M.yR f (k:Int) x=some (bif(x.Worlds.drop k).all mq then .inr ()else .inl false)
 |0,k,h,_=>by omega
 |f+1,k,h,hk=>by
  rw[M.yR];rcases cQ k x.Worlds.length with q|q
  ·have ih:=S7 x hl f (k+1) (by omega) (by omega);rw[kx q,nf];simp only[fS q,bN,dT _ q,ad,dS q,aj];cases hc:decide ((16:Int)<((x.Worlds[k].Items.length:Nat):Int))
   ·have h16:x.Worlds[k].Items.length<=16:=by have:=of_decide_eq_false hc;omega
    have e:=S5 x k q h16 ae 0 (by have:=bf;omega) (by omega);rw[show((0:Nat):Int)=0 from rfl,jj]at e;have es:mq x.Worlds[k]=x.Worlds[k].Items.all rX:=by unfold mq;rw[hc];rfl
    simp only[al,e,es];cases x.Worlds[k].Items.all rX
    ·rfl
    ·simp only[ad,bj,da q (by omega:x.Worlds.length<2^62),ih]
   ·have es:mq x.Worlds[k]=false:=by unfold mq;rw[hc];rfl
    simp only[ad,es];rfl
  ·simp only[lJ q,al];rw[List.drop_eq_nil_of_le q];rfl
theorem ahM(x:aw):M.ui x=some (uA x):=by
 unfold M.ui uA;cases hc:(decide ((8:Int)<((x.aD.length:Nat):Int))||decide ((8:Int)<((x.Worlds.length:Nat):Int)))
 ·simp only[lR,fE]at hc;have e1:=S4 x (by omega) ae 0 (by have:=bf;omega) (by omega);have e2:=S7 x (by omega) ae 0 (by have:=bf;omega) (by omega);rw[show((0:Nat):Int)=0 from rfl,jj]at e1 e2;simp only[al,e1,bo,bj];cases x.aD.all mo
  ·rfl
  ·simp only[ad,e2,bj];cases x.Worlds.all mq<;>rfl
 ·rfl
theorem ahN(x:aw)(i:Nat)(hi:i<x.aD.length)(h:bH ai.sz x.aD[i].Items<=1048576)(hS:x.aD[i].Items.all mV=true)(o:List UInt8)(ho:o.length<=300000000):M.qu (i:Int) x ae o 0=some (o++(x.aD[i].Items.map (jv eH)).flatten,(i:Int),x):=by
 have hl:=d6 ai.sz x.aD[i].Items;have hs:=yM qj x.aD[i].Items;exact uz (F:=fun n k s=>M.qu (i:Int) x n s k) (h:=fun s=>some (s,(i:Int),x)) (jv eH) x.aD[i].Items (by omega) o (fun n k s hk hs'=>by
  show M.qu (i:Int) x (n+1) s (k:Int)=_
  rw[M.qu];have hm:=gA ai.sz x.aD[i].Items x.aD[i].Items[k] (dt hk);have hi2:=Lx eH qj x.aD[i].Items[k];have ex:∀y:ai,ai.re y=y:=ai.bX;have et:=ahC x.aD[i].Items[k] (by omega) (fG.1 hS _ (dt hk));have c1:ar [32,32] (ki eH x.aD[i].Items[k])=true:=bh (by simp only[aC,aJ];omega);have c2:ar ([32,32]++ki eH x.aD[i].Items[k]) [59,10]=true:=bh (by simp only[aE,aC,aJ];omega);have c3:ar s (([32,32]++ki eH x.aD[i].Items[k])++[59,10])=true:=bh (by simp only[aE,aC,aJ];omega);simp only[bN,dT _ hi,dS hi];simp only[fS hk,bN,dT _ hk,ad,ex,et,ak,an,dS hk,c1,c2,c3,aj,da hk (by omega:x.aD[i].Items.length<2^62)];rfl) (fun n s=>by
  show M.qu (i:Int) x (n+1) s _=_
  rw[M.qu];simp only[bN,dT _ hi,dS hi,Int.lt_irrefl,nb,al,aj,ad])
theorem ahO(x:aw)(h:bH aG.sz x.aD<=1048576)(hS:x.aD.all mo=true)(o:List UInt8)(ho:o.length<=100000000):M.qw ae o 0 x=some (o++(x.aD.map (iq eH)).flatten,x):=by
 have hl:=d6 aG.sz x.aD;have hs:=BW qj x.aD;exact uz (F:=fun n k s=>M.qw n s k x) (h:=fun s=>some (s,x)) (iq eH) x.aD (by omega) o (fun n k s hk hs'=>by
  show M.qw (n+1) s (k:Int) x=_
  rw[M.qw];have hm:=gA aG.sz x.aD x.aD[k] (dt hk);have hz:=aG.cV x.aD[k];have hi:=lO (jv eH) x.aD[k].Items;have hi2:=yM qj x.aD[k].Items;have hF:=fG.1 hS _ (dt hk);unfold mo at hF;have c1:ar [10,105,110,116,101,114,102,97,99,101,32] x.aD[k].Name=true:=bh (by simp only[aC,aJ];omega);have c2:ar ([10,105,110,116,101,114,102,97,99,101,32]++x.aD[k].Name) [32,123,10]=true:=bh (by simp only[aE,aC,aJ];omega);have c3:ar s (([10,105,110,116,101,114,102,97,99,101,32]++x.aD[k].Name)++[32,123,10])=true:=bh (by simp only[aE,aC,aJ];omega);have ei:=ahN x k hk (by omega) (Bool.and_eq_true_iff.1 hF).2 (s++(([10,105,110,116,101,114,102,97,99,101,32]++x.aD[k].Name)++[32,123,10])) (by simp only[aE,aC,aJ];omega);have c4:ar ((s++(([10,105,110,116,101,114,102,97,99,101,32]++x.aD[k].Name)++[32,123,10]))++(x.aD[k].Items.map (jv eH)).flatten) [125,10]=true:=bh (by simp only[aE,aC,aJ];omega);simp only[fS hk,bN,dT _ hk,ad,dS hk,c1,c2,c3,c4,ei,aj,da hk (by omega:x.aD.length<2^62)];unfold iq;simp only[fX]) (fun n s=>by
  show M.qw (n+1) s _ x=_
  rw[M.qw];simp only[Int.lt_irrefl,nb,al])
theorem wwS{K:Int}(h:(decide (1<=K)&&decide (K<=3))=true):List.getD (Option.getD M.kh default) (Int.toNat (Go.IntKind.wrap .i64 (K-1))) []=lg K/\inB (Go.IntKind.wrap .i64 (K-1)) (Option.getD M.kh default).length=true:=by
 have hc:=h;simp only[bz,ct]at h;rw[wrap_i64 (by omega) (by omega),show Option.getD M.kh default=jw from rfl];obtain⟨n,hn⟩:=kj (show 0<=K-1 by omega);have hK:K=((n+1:Nat):Int):=by omega
 subst hK;unfold lg;rw[hc,ad,hn,bN,bN,cZ,ct,show jw.length=3 from rfl];exact⟨rfl,by omega⟩
theorem ahQ(x:aw)(i:Nat)(hi:i<x.Worlds.length)(h:bH aO.sz x.Worlds[i].Items<=1048576)(hS:x.Worlds[i].Items.all rX=true)(o:List UInt8)(ho:o.length<=300000000):M.qx (i:Int) x ae o 0=some (o++(x.Worlds[i].Items.map (jx eH)).flatten,(i:Int),x):=by
 have hl:=d6 aO.sz x.Worlds[i].Items;have hs:=yN qj x.Worlds[i].Items;exact uz (F:=fun n k s=>M.qx (i:Int) x n s k) (h:=fun s=>some (s,(i:Int),x)) (jx eH) x.Worlds[i].Items (by omega) o (fun n k s hk hs'=>by
  show M.qx (i:Int) x (n+1) s (k:Int)=_
  rw[M.qx];have hm:=gA aO.sz x.Worlds[i].Items x.Worlds[i].Items[k] (dt hk);have hz:=aO.cV x.Worlds[i].Items[k];have hpl:=qj x.Worlds[i].Items[k].Path;have hww:=Fg x.Worlds[i].Items[k].Kind;have et:=SD x.Worlds[i].Items[k].Path (by omega);obtain⟨w1,w2⟩:=wwS (fG.1 hS _ (dt hk):(decide (1<=x.Worlds[i].Items[k].Kind)&&decide (x.Worlds[i].Items[k].Kind<=3))=true);have w3:Option.isSome M.kh=true:=rfl;have c0:ar [32,32] (lg x.Worlds[i].Items[k].Kind)=true:=bh (by simp only[aC,aJ];omega);have c1:ar ([32,32]++lg x.Worlds[i].Items[k].Kind) [32]=true:=bh (by simp only[aE,aC,aJ];omega);have c2:ar (([32,32]++lg x.Worlds[i].Items[k].Kind)++[32]) (eH x.Worlds[i].Items[k].Path)=true:=bh (by simp only[aE,aC,aJ];omega);have c3:ar ((([32,32]++lg x.Worlds[i].Items[k].Kind)++[32])++eH x.Worlds[i].Items[k].Path) [59,10]=true:=bh (by simp only[aE,aC,aJ];omega);have c4:ar s (((([32,32]++lg x.Worlds[i].Items[k].Kind)++[32])++eH x.Worlds[i].Items[k].Path)++[59,10])=true:=bh (by simp only[aE,aC,aJ];omega);simp only[bN,dT _ hi,dS hi];simp only[fS hk,bN,dT _ hk,ad,et,ak,an,dS hk,w1,w2,w3,c0,c1,c2,c3,c4,aj,da hk (by omega:x.Worlds[i].Items.length<2^62)];rfl) (fun n s=>by
  show M.qx (i:Int) x (n+1) s _=_
  rw[M.qx];simp only[bN,dT _ hi,dS hi,Int.lt_irrefl,nb,al,aj,ad])
theorem ahR(x:aw)(h:bH aQ.sz x.Worlds<=1048576)(hS:x.Worlds.all mq=true)(o:List UInt8)(ho:o.length<=200000000):M.qy ae o 0 x=some (o++(x.Worlds.map (worldT eH)).flatten):=by
 have hl:=d6 aQ.sz x.Worlds;have hs:=Fh qj x.Worlds;exact uz (F:=fun n k s=>M.qy n s k x) (h:=fun s=>some s) (worldT eH) x.Worlds (by omega) o (fun n k s hk hs'=>by
  show M.qy (n+1) s (k:Int) x=_
  rw[M.qy];have hm:=gA aQ.sz x.Worlds x.Worlds[k] (dt hk);have hz:=aQ.cV x.Worlds[k];have hi:=lO (jx eH) x.Worlds[k].Items;have hi2:=yN qj x.Worlds[k].Items;have hF:=fG.1 hS _ (dt hk);unfold mq at hF;have c1:ar [10,119,111,114,108,100,32] x.Worlds[k].Name=true:=bh (by simp only[aC,aJ];omega);have c2:ar ([10,119,111,114,108,100,32]++x.Worlds[k].Name) [32,123,10]=true:=bh (by simp only[aE,aC,aJ];omega);have c3:ar s (([10,119,111,114,108,100,32]++x.Worlds[k].Name)++[32,123,10])=true:=bh (by simp only[aE,aC,aJ];omega);have ei:=ahQ x k hk (by omega) (Bool.and_eq_true_iff.1 hF).2 (s++(([10,119,111,114,108,100,32]++x.Worlds[k].Name)++[32,123,10])) (by simp only[aE,aC,aJ];omega);have c4:ar ((s++(([10,119,111,114,108,100,32]++x.Worlds[k].Name)++[32,123,10]))++(x.Worlds[k].Items.map (jx eH)).flatten) [125,10]=true:=bh (by simp only[aE,aC,aJ];omega);simp only[fS hk,bN,dT _ hk,ad,dS hk,c1,c2,c3,c4,ei,aj,da hk (by omega:x.Worlds.length<2^62)];unfold worldT;simp only[fX]) (fun n s=>by
  show M.qy (n+1) s _ x=_
  rw[M.qy];simp only[Int.lt_irrefl,nb,al])
theorem S8(x:aw)(h:x.sz<=1048576)(hS:uA x=true):M.qi x=some (fj eH x):=by
 have hz:=aw.cV x;unfold uA at hS;rw[bz,bz]at hS;have f1:=lO (iq eH) x.aD;have f2:=BW qj x.aD;have c1:ar [112,97,99,107,97,103,101,32] x.Name=true:=bh (by simp only[aE,aC,aJ];omega);have c2:ar ([112,97,99,107,97,103,101,32]++x.Name) [64]=true:=bh (by simp only[aE,aC,aJ];omega);have c3:ar (([112,97,99,107,97,103,101,32]++x.Name)++[64]) x.Version=true:=bh (by simp only[aE,aC,aJ];omega);have c4:ar ((([112,97,99,107,97,103,101,32]++x.Name)++[64])++x.Version) [59,10]=true:=bh (by simp only[aE,aC,aJ];omega);have e0:((([112,97,99,107,97,103,101,32]++x.Name)++[64])++x.Version)++[59,10]=firstT x:=rfl;have fl:(firstT x).length<=1048700:=by unfold firstT;simp only[aE,aC,aJ];omega
 have e1:=ahO x (by omega) hS.2.1 (firstT x) (by omega);have e2:=ahR x (by omega) hS.2.2 (firstT x++(x.aD.map (iq eH)).flatten) (by simp only[aE];omega);unfold M.qi;simp only[e0,e1,e2,c1,c2,c3,c4,aj,ad];rfl
def Ly(x:aw):Prop:=(∀f∈x.aD,∀i∈f.Items,pf i.From)/\∀w∈x.Worlds,∀i∈w.Items,pf i.Path
theorem ahS(x:aw)(h:Ly x):fj eH x=fj cz x:=by
 unfold fj;have e1:x.aD.map (iq eH)=x.aD.map (iq cz):=by
  apply List.map_congr_left;intro f hf;unfold iq;rw[List.map_congr_left (g:=jv cz) fun i hi=>by unfold jv;rw[ahD i (h.1 f hf i hi)]]
 have e2:x.Worlds.map (worldT eH)=x.Worlds.map (worldT cz):=by
  apply List.map_congr_left;intro f hf;unfold worldT;rw[List.map_congr_left (g:=jx cz) fun i hi=>by unfold jx;rw[SE i.Path (h.2 f hf i hi)]]
 rw[e1,e2]
end M
namespace M
open Go.V (inB bS ar ae bf)
def dB(u:Bool)(g:aa->Int)(x:aa):Int:=bif u&&(x.Kind==1)then 1 else g x
def fe{α:Type}(w:α->Int):List α->Int
 |[]=>0
 |x::r=>w x+fe w r
theorem LA{α:Type}(w:α->Int):∀a b:List α,fe w (a++b)=fe w a+fe w b
 |[],b=>by simp[fe]
 |x::a,b=>by rw[jz,fe,fe,LA w a b];omega
theorem Fj{α:Type}(w:α->Int):∀l:List α,(∀x∈l,0<=w x)->0<=fe w l
 |[],_=>by simp[fe]
 |x::r,h=>by have:=h x (by simp);have:=Fj w r fun y hy=>h y (by simp[hy]);rw[fe];omega
theorem S9(g:aa->Int)(u:Bool):∀(l:List aa)(s:Int),(∀x∈l,0<=dB u g x)->s+fe (dB u g) l<=12000->lN g u l s=s+fe (dB u g) l
 |[],s,_,_=>by simp[lN,fe]
 |x::r,s,h,hs=>by
  have h1:=h x (by simp);have h2:=Fj (dB u g) r fun y hy=>h y (by simp[hy])
  rw[fe]at hs⊢;have ih:=fun s'=>S9 g u r s' fun y hy=>h y (by simp[hy])
  rw[lN];unfold dB at h1 hs⊢;cases hu:(u&&(x.Kind==1))<;>rw[hu]at h1 hs
  ·simp only[al]at h1 hs⊢;rw[cY (show ¬g x<0 by omega),cY (show ¬12000<s by unfold dB at h2;omega),lT,al];have:=ih (s+g x);unfold dB at this;rw[this (by omega)];omega
  ·simp only[ad]at h1 hs⊢;have:=ih (s+1);unfold dB at this;rw[this (by omega)];omega
theorem BX(d:Nat)(t:aa)(h1:t.bn.length<=16)(h2:t.Kids.length<=16)(h3:t.Name.length<=12)(hk:pe t.Kind=true)(hlo:mn t.Kind ((t.bn.length:Nat):Int)<=((t.Kids.length:Nat):Int))(hhi:((t.Kids.length:Nat):Int)<=k9 t.Kind ((t.bn.length:Nat):Int))
 (hc:∀x∈t.Kids,0<=dB (dw t.Kind) (bY d) x) (hs:1+fe (dB (dw t.Kind) (bY d)) t.Kids<=12000):bY (d+1) t=1+fe (dB (dw t.Kind) (bY d)) t.Kids:=by
 rw[bY,cY (show ¬(16:Int)<((t.bn.length:Nat):Int) by omega),cY (show ¬(16:Int)<((t.Kids.length:Nat):Int) by omega),cY (show ¬(12:Int)<((t.Name.length:Nat):Int) by omega),hk,cN hlo,cN hhi];exact S9 _ _ _ _ hc hs
theorem yS{l:List af}{k:Nat}(h:l.length<=k):bp l k=af.zero:=by
 unfold bp;rw[gK,lp h];rfl
theorem LC{l:List af}{t:List UInt8}{k:Nat}(ht:t≠[])(h:aA l t k=true):k<l.length:=by
 rcases cQ k l.length with q|q
 ·exact q
 ·unfold aA at h;rw[yS q,bz]at h;exact absurd (cK.1 h.2).symm ht
theorem Ta{l:List af}{k:Nat}(h:ef l k=true):k<l.length:=by
 rcases cQ k l.length with q|q
 ·exact q
 ·unfold ef at h;rw[yS q,bz]at h;exact absurd (cK.1 h.1) (by show ¬(0:Int)=1;decide)
theorem pj{l:List af}{t:List UInt8}(ht:t≠[]){k k':Nat}{v:Unit}(h:cq l t k=.ok v k'):k'=k+1/\k'<=l.length:=by
 unfold cq at h;cases hb:aA l t k<;>rw[hb]at h<;>cases h;exact⟨rfl,LC ht hb⟩
theorem Tc{l:List af}{k:Nat}(h:ef l k=true):(bp l k).Text.length<=12:=by
 unfold ef l7 at h;simp only[bz,ct]at h;exact h.2.2.1.2
theorem Td{l:List af}{k k':Nat}{v:List UInt8}(h:gi l k=.ok v k'):k'=k+1/\k'<=l.length/\v.length<=12:=by
 unfold gi at h;cases hb:ef l k<;>rw[hb]at h<;>cases h;exact⟨rfl,Ta hb,Tc hb⟩
theorem ahT{l:List af}{k k':Nat}{v:List UInt8}(h:kS l k=.ok v k'):k'=k+1/\k'<=l.length/\v.length<=12:=by
 unfold kS at h;cases hb:jt l k<;>rw[hb]at h<;>cases h;unfold jt at hb;rw[bz]at hb;exact⟨rfl,Ta hb.1,Tc hb.1⟩
theorem LD{α:Type}{P:α->Prop}{w:α->Int}(l:List af)(el:Nat->PR α)(he:∀(k:Nat)(v:α)(k':Nat),el k=.ok v k'->k<k'/\k'<=l.length/\P v/\0<=w v/\w v<=3*((k':Int)-(k:Int))):
 ∀(m:Nat)(acc:List α)(k:Nat)(vs:List α)(k':Nat),(∀v∈acc,P v/\0<=w v)->dL l el m acc k=.ok vs k'->k<k'/\k'<=l.length/\acc.length+1<=vs.length/\vs.length<=acc.length+m+1/\(∀v∈vs,P v/\0<=w v)/\fe w vs<=fe w acc+3*((k':Int)-(k:Int))
 |m,acc,k,vs,k',ha,h=>by
  rw[dL.eq_def]at h;dsimp only at h;cases hk:el k with
  |no q=>rw[hk]at h;cases h
  |ok v k1=>
   rw[hk]at h;obtain⟨g1,g2,g3,g4,g5⟩:=he _ _ _ hk;have one:∀y∈acc++[v],P y/\0<=w y:=fun y hy=>by
    rcases de.1 hy with q|q
    ·exact ha y q
    ·rw[eI.1 q];exact⟨g3,g4⟩
   have es:fe w (acc++[v])=fe w acc+w v:=by rw[LA];simp[fe]
   have yT:(acc++[v]).length=acc.length+1:=by simp
   cases m with
   |zero=>
    cases h;exact⟨g1,g2,by omega,by omega,one,by rw[es];omega⟩
   |succ m=>
    simp only at h;cases hc:aA l [44] k1<;>rw[hc]at h
    ·cases h;exact⟨g1,g2,by omega,by omega,one,by rw[es];omega⟩
    ·obtain⟨r1,r2,r3,r4,r5,r6⟩:=LD l el he m (acc++[v]) (k1+1) vs k' one h;rw[es]at r6;exact⟨by omega,r2,by omega,by omega,r5,by omega⟩
def LF(K:Int)(d:Nat)(v:List UInt8×List aa):Prop:=((K=16\/K=17)->v.2.length=1)/\((K≠16/\K≠17)->v.2=[])/\∀x∈v.2,0<=dB (dw K) (bY d) x
def qz(K:Int)(d:Nat)(v:List UInt8×List aa):Int:=fe (dB (dw K) (bY d)) v.2
theorem BY{K:Int}{d:Nat}{t:aa}{c:Int}(h1:1<=bY d t)(h2:bY d t<=c)(hc:1<=c):0<=dB (dw K) (bY d) t/\dB (dw K) (bY d) t<=c:=by
 unfold dB;cases (dw K&&(t.Kind==1))<;>simp only[ad,al]<;>omega
theorem Tf{K:Int}{d:Nat}(h:dw K=true):dB (dw K) (bY d) dG=1:=by
 unfold dB;rw[h];rfl
theorem ahU{l:List af}{K:Int}{d:Nat}(ih:∀(k:Nat)(t:aa)(k':Nat),dO l d k=.ok t k'->k<k'/\k'<=l.length/\1<=bY d t/\bY d t<=3*((k':Int)-(k:Int))){k k':Nat}{v:List UInt8×List aa}(h:gj l K (dO l d) k=.ok v k'):k<k'/\k'<=l.length/\LF K d v/\0<=qz K d v/\qz K d v<=3*((k':Int)-(k:Int)):=by
 unfold gj at h;obtain⟨w,k1,hw,h⟩:=bind_ok h;obtain⟨n1,n2,_⟩:=Td hw;have fin:∀(t:aa)(c:Int),0<=dB (dw K) (bY d) t/\dB (dw K) (bY d) t<=c->(K=16\/K=17)->LF K d (w,[t])/\0<=qz K d (w,[t])/\qz K d (w,[t])<=c:=fun t c hc hK=>by
  have e:qz K d (w,[t])=dB (dw K) (bY d) t:=by unfold qz;simp[fe]
  rw[e];exact⟨⟨fun _=>rfl,fun q=>by omega,fun x hx=>by rw[eI.1 hx];exact hc.1⟩,hc.1,hc.2⟩
 cases h16:(K==(16:Int))<;>rw[h16]at h
 ·cases h17:(K==(17:Int))<;>rw[h17]at h
  ·cases h;rw[cL]at h16 h17;refine⟨by omega,n2,⟨fun q=>by omega,fun _=>rfl,fun x hx=>by cases hx⟩,?_,?_⟩
   ·show(0:Int)<=0;omega
   ·show(0:Int)<=_;omega
  ·have e17:=cK.1 h17;simp only[al,ad]at h;cases hc:aA l [40] k1<;>rw[hc]at h
   ·cases h;refine⟨by omega,n2,fin dG _ ?_ (.inr e17)⟩;rw[Tf (by rw[e17];rfl)];omega
   ·obtain⟨t0,k3,h0,h⟩:=bind_ok h;obtain⟨_,k4,h4,h⟩:=bind_ok h;cases h;obtain⟨a1,a2,a3,a4⟩:=ih _ _ _ h0;obtain⟨b1,b2⟩:=pj (by decide) h4;exact⟨by omega,b2,fin t0 _ (BY a3 (by omega) (by omega)) (.inr e17)⟩
 ·obtain⟨_,k2,h2,h⟩:=bind_ok h;obtain⟨t0,k3,h0,h⟩:=bind_ok h;cases h;obtain⟨a1,a2,a3,a4⟩:=ih _ _ _ h0;obtain⟨b1,b2⟩:=pj (by decide) h2;exact⟨by omega,a2,fin t0 _ (BY a3 (by omega) (by omega)) (.inl (cK.1 h16))⟩
theorem LG{α β:Type}{w:β->Int}:∀(ps:List (α×List β)),(∀v∈ps,v.2.length=1)->(ps.map (·.2)).flatten.length=ps.length
 |[],_=>rfl
 |p::r,h=>by rw[eQ,List.flatten_cons,aE,h p (by simp),LG (w:=w) r fun v hv=>h v (by simp[hv]),aC];omega
theorem flat_nil{α β:Type}:∀(ps:List (α×List β)),(∀v∈ps,v.2=[])->(ps.map (·.2)).flatten=[]
 |[],_=>rfl
 |p::r,h=>by rw[eQ,List.flatten_cons,h p (by simp),flat_nil r fun v hv=>h v (by simp[hv])];rfl
theorem Ti{α β:Type}(w:β->Int):∀(ps:List (α×List β)),fe w (ps.map (·.2)).flatten=fe (fun v=>fe w v.2) ps
 |[]=>rfl
 |p::r=>by rw[eQ,List.flatten_cons,LA,Ti w r,fe]
theorem ahV{l:List af}{d:Nat}(ih:∀(k:Nat)(t:aa)(k':Nat),dO l d k=.ok t k'->k<k'/\k'<=l.length/\1<=bY d t/\bY d t<=3*((k':Int)-(k:Int))){k k':Nat}{v:List aa}(hk:k<=l.length)(h:l8 l (dO l d) k=.ok v k'):
 k<=k'/\k'<=l.length/\∃a b,v=[a,b]/\0<=dB (dw 14) (bY d) a/\0<=dB (dw 14) (bY d) b/\(dB (dw 14) (bY d) a+dB (dw 14) (bY d) b<=2\/dB (dw 14) (bY d) a+dB (dw 14) (bY d) b<=3*((k':Int)-(k:Int))-5):=by
 unfold l8 at h;have hu:dB (dw 14) (bY d) dG=1:=Tf rfl;cases h60:aA l [60] k<;>rw[h60]at h
 ·cases h;exact⟨by omega,hk,dG,dG,rfl,by omega,by omega,by omega⟩
 ·simp only[ad]at h;have l60:=LC (by decide) h60;obtain⟨a,k1,ha,h⟩:=bind_ok h;obtain⟨b,k2,hb,h⟩:=bind_ok h;obtain⟨_,k3,h3,h⟩:=bind_ok h;cases h;obtain⟨n1,n2⟩:=pj (by decide) h3;have pa:k+1<k1/\0<=dB (dw 14) (bY d) a/\dB (dw 14) (bY d) a<=3*((k1:Int)-(k:Int))-3:=by
   cases h95:aA l [95] (k+1)<;>rw[h95]at ha
   ·obtain⟨a1,a2,a3,a4⟩:=ih _ _ _ ha;exact⟨by omega,BY a3 (by omega) (by omega)⟩
   ·cases ha;exact⟨by omega,by omega,by omega⟩
  have pb:k1<=k2/\0<=dB (dw 14) (bY d) b/\dB (dw 14) (bY d) b<=1+3*((k2:Int)-(k1:Int)):=by
   cases ju:aA l [44] k1<;>rw[ju]at hb
   ·cases hb;exact⟨by omega,by omega,by omega⟩
   ·obtain⟨a1,a2,a3,a4⟩:=ih _ _ _ hb;exact⟨by omega,BY a3 (by omega) (by omega)⟩
  exact⟨by omega,n2,a,b,rfl,pa.2.1,pb.2.1,by omega⟩
theorem Fo(l:List af)(hl:l.length<=4001):∀(d k:Nat)(t:aa)(k':Nat),dO l d k=.ok t k'->k<k'/\k'<=l.length/\1<=bY d t/\bY d t<=3*((k':Int)-(k:Int))
 |0,k,t,k',h=>by cases h
 |d+1,k,t,k',h=>by
  rw[dO]at h;obtain⟨w,k1,hw,h⟩:=bind_ok h;obtain⟨n1,n2,n3⟩:=Td hw;have ih:=Fo l hl d;have hb:=EE w;generalize dK w=K at h hb;have leaf:∀(K':Int)(nm:List UInt8),nm.length<=12->pe K'=true->mn K' 0=0->k9 K' 0=0->bY (d+1) (aa.mk K' nm [] [])=1:=fun K' nm hn hk h1 h2=>by
   have:=BX d (aa.mk K' nm [] []) (cM 16) (cM 16) hn hk (by show mn K' 0<=0;omega) (by show 0<=k9 K' 0;omega) (fun x hx=>by cases hx) (by show(1:Int)+0<=12000;omega);rw[this];rfl
  cases c0:(K==0)<;>rw[c0]at h
  ·simp only[al]at h;cases c1:((K==12)||((K==13)||((K==22)||(K==23))))<;>rw[c1]at h
   ·simp only[al]at h;cases c2:(K==15)<;>rw[c2]at h
    ·simp only[al]at h;cases c3:((K==20)||(K==21))<;>rw[c3]at h
     ·simp only[al]at h;cases c4:(K==14)<;>rw[c4]at h
      ·simp only[al]at h;cases c5:((K==16)||((K==17)||((K==18)||(K==19))))<;>rw[c5]at h
       ·cases h;have hK:pe K=true:=by
         unfold pe;rw[cL]at c0;rw[cN (show(1:Int)<=K by omega),cN (show K<=23 by omega)];rfl
        have c1':BL K=false:=c1;have c6:((K==16)||(K==17))=false:=by
         simp only[lR]at c5⊢;exact⟨c5.1,c5.2.1⟩
        have e:=leaf K [] (by simp) hK (by unfold mn;rw[c1',c4,c2,c6];rfl) (by unfold k9;rw[c1',c4,c2,c6];rfl);rw[e];exact⟨by omega,n2,by omega,by omega⟩
       ·simp only[ad]at h;obtain⟨_,k2,h2,h⟩:=bind_ok h;obtain⟨ps,k3,hp,h⟩:=bind_ok h;obtain⟨_,k4,h4,h⟩:=bind_ok h;cases h;obtain⟨m1,m2⟩:=pj (by decide) h2;obtain⟨m3,m4⟩:=pj (by decide) h4;obtain⟨r1,r2,r3,r4,r5,r6⟩:=LD (P:=LF K d) (w:=qz K d) l _ (fun k v k' hv=>ahU ih hv) 15 [] _ ps _ (fun v hv=>by cases hv) hp;simp only[aJ]at r3 r4;have e0:fe (qz K d) []=0:=rfl;rw[e0]at r6;have hK:K=16\/K=17\/K=18\/K=19:=by simpa only[ia,cK]using c5
        have LH:pe K=true:=by rcases hK with e|e|e|e<;>rw[e]<;>rfl
        have Tj:fe (dB (dw K) (bY d)) (ps.map (·.2)).flatten=fe (qz K d) ps:=Ti _ ps;have hlen:(((ps.map (·.2)).flatten.length:Nat):Int)=mn K ((ps.length:Nat):Int)/\(((ps.map (·.2)).flatten.length:Nat):Int)=k9 K ((ps.length:Nat):Int)/\(ps.map (·.2)).flatten.length<=16:=by
         rcases hK with e|e|e|e
         ·have:=LG (w:=fun _=>0) ps fun v hv=>(r5 v hv).1.1 (.inl e)
          rw[this,e];exact⟨rfl,rfl,by omega⟩
         ·have:=LG (w:=fun _=>0) ps fun v hv=>(r5 v hv).1.1 (.inr e)
          rw[this,e];exact⟨rfl,rfl,by omega⟩
         ·have:=flat_nil ps fun v hv=>(r5 v hv).1.2.1 (by omega)
          rw[this,e];exact⟨rfl,rfl,by simp⟩
         ·have:=flat_nil ps fun v hv=>(r5 v hv).1.2.1 (by omega)
          rw[this,e];exact⟨rfl,rfl,by simp⟩
        have hnn:=Fj (qz K d) ps fun v hv=>(r5 v hv).2
        have e:=BX d (aa.mk K [] (ps.map (·.1)) (ps.map (·.2)).flatten) (by show(ps.map (·.1)).length<=16;rw[eJ];omega) (by show(ps.map (·.2)).flatten.length<=16;exact hlen.2.2) (cM 12) LH
         (by show mn K (((ps.map (·.1)).length:Nat):Int)<=_;rw[eJ];exact Int.le_of_eq hlen.1.symm)
         (by show _<=k9 K (((ps.map (·.1)).length:Nat):Int);rw[eJ];exact Int.le_of_eq hlen.2.1)
         (fun x hx=>by
           obtain⟨q,hq,hx⟩:=List.mem_flatten.1 hx;obtain⟨v,hv,rfl⟩:=xa.1 hq;exact(r5 v hv).1.2.2 x hx)
         (by show 1+fe (dB (dw K) (bY d)) (ps.map (·.2)).flatten<=12000;rw[Tj];omega)
        have e:bY (d+1) (aa.mk K [] (ps.map (·.1)) (ps.map (·.2)).flatten)=1+fe (dB (dw K) (bY d)) (ps.map (·.2)).flatten:=e;rw[e,Tj];exact⟨by omega,m4,by omega,by omega⟩
      ·have e14:=cK.1 c4;subst e14;simp only[ad]at h;obtain⟨ts,k2,hp,h⟩:=bind_ok h;cases h;obtain⟨r1,r2,a,b,rfl,ra,rb,rs⟩:=ahV ih n2 hp;have e:=BX d (aa.mk 14 [] [] [a,b]) (cM 16) (by show 2<=16;omega) (cM 12) rfl (by show(2:Int)<=2;omega) (by show(2:Int)<=2;omega)
        (fun x hx=>by
          have hx:x∈[a,b]:=hx;simp only[eY,sH,sL]at hx;rcases hx with q|q<;>rw[q]<;>assumption)
        (by show 1+(dB (dw 14) (bY d) a+(dB (dw 14) (bY d) b+0))<=12000;omega)
       have e:bY (d+1) (aa.mk 14 [] [] [a,b])=1+(dB (dw 14) (bY d) a+(dB (dw 14) (bY d) b+0)):=e;rw[e];exact⟨by omega,r2,by omega,by omega⟩
     ·simp only[ad]at h;obtain⟨_,k2,h2,h⟩:=bind_ok h;obtain⟨nm,k3,h3,h⟩:=bind_ok h;obtain⟨_,k4,h4,h⟩:=bind_ok h;cases h;obtain⟨m1,m2⟩:=pj (by decide) h2;obtain⟨m3,m4⟩:=pj (by decide) h4;obtain⟨i1,i2,i3⟩:=ahT h3;have hK:K=20\/K=21:=by simpa only[ia,cK]using c3
      have e:=leaf K nm i3 (by rcases hK with e|e<;>rw[e]<;>rfl) (by rcases hK with e|e<;>rw[e]<;>rfl) (by rcases hK with e|e<;>rw[e]<;>rfl);rw[e];exact⟨by omega,m4,by omega,by omega⟩
    ·have e15:=cK.1 c2;subst e15;simp only[ad]at h;obtain⟨_,k2,h2,h⟩:=bind_ok h;obtain⟨ts,k3,hp,h⟩:=bind_ok h;obtain⟨_,k4,h4,h⟩:=bind_ok h;cases h;obtain⟨m1,m2⟩:=pj (by decide) h2;obtain⟨m3,m4⟩:=pj (by decide) h4;obtain⟨r1,r2,r3,r4,r5,r6⟩:=LD (P:=fun t=>0<=dB (dw 15) (bY d) t) (w:=dB (dw 15) (bY d)) l _ (fun k v k' hv=>by
      obtain⟨a1,a2,a3,a4⟩:=ih _ _ _ hv;have:=BY (K:=15) a3 a4 (by omega);exact⟨a1,a2,this.1,this.1,this.2⟩) 5 [] _ ts _ (fun v hv=>by cases hv) hp
     simp only[aJ]at r3 r4;have e0:fe (dB (dw 15) (bY d)) []=0:=rfl;rw[e0]at r6;have hnn:=Fj (dB (dw 15) (bY d)) ts fun v hv=>(r5 v hv).2
     have e:=BX d (aa.mk 15 [] [] ts) (cM 16) (by show ts.length<=16;omega) (cM 12) rfl (by show(1:Int)<=((ts.length:Nat):Int);omega) (by show((ts.length:Nat):Int)<=6;omega)
      (fun x hx=>(r5 x hx).1) (by show 1+fe (dB (dw 15) (bY d)) ts<=12000;omega)
     have e:bY (d+1) (aa.mk 15 [] [] ts)=1+fe (dB (dw 15) (bY d)) ts:=e;rw[e];exact⟨by omega,m4,by omega,by omega⟩
   ·simp only[ad]at h;obtain⟨_,k2,h2,h⟩:=bind_ok h;obtain⟨t0,k3,h0,h⟩:=bind_ok h;obtain⟨_,k4,h4,h⟩:=bind_ok h;cases h;obtain⟨m1,m2⟩:=pj (by decide) h2;obtain⟨m3,m4⟩:=pj (by decide) h4;obtain⟨a1,a2,a3,a4⟩:=ih _ _ _ h0;have hK:K=12\/K=13\/K=22\/K=23:=by simpa only[ia,cK]using c1
    have LH:pe K=true:=by rcases hK with e|e|e|e<;>rw[e]<;>rfl
    have hu:dw K=false:=by rcases hK with e|e|e|e<;>rw[e]<;>rfl
    have h1:BL K=true:=c1;have ec:dB (dw K) (bY d) t0=bY d t0:=by unfold dB;rw[hu];rfl
    have e:=BX d (aa.mk K [] [] [t0]) (cM 16) (by show 1<=16;omega) (cM 12) LH (by show mn K 0<=1;unfold mn;rw[h1];show(1:Int)<=1;omega) (by show 1<=k9 K 0;unfold k9;rw[h1];show(1:Int)<=1;omega)
     (fun x hx=>by have hx:x∈[t0]:=hx;rw[eI.1 hx];show 0<=dB (dw K) (bY d) t0;rw[ec];omega)
     (by show 1+(dB (dw K) (bY d) t0+0)<=12000;rw[ec];omega)
    have e:bY (d+1) (aa.mk K [] [] [t0])=1+(dB (dw K) (bY d) t0+0):=e;rw[e,ec];exact⟨by omega,m4,by omega,by omega⟩
  ·cases h;rw[leaf 30 w n3 rfl rfl rfl];exact⟨by omega,n2,by omega,by omega⟩
end M
namespace M
open Go.V (inB bS ar ae bf)
theorem ahW{l:List af}(hl:l.length<=4001){k k':Nat}{v:aV}(h:jG l k=.ok v k'):0<=bY 4 v.Term:=by
 unfold jG at h;obtain⟨_,_,_,h⟩:=bind_ok h;obtain⟨_,_,_,h⟩:=bind_ok h;obtain⟨t,_,ht,h⟩:=bind_ok h;cases h;have:=(Fo l hl 4 _ _ _ ht).2.2.1
 show 0<=bY 4 t
 omega
theorem ahX:bY 4 dG=1:=rfl
theorem Fp(x:ai)(h1:x.Params.length<=6)(h2:x.Uses.length<=16)(h3:(x.Kind=2\/x.Kind=3)->0<=bY 4 x.Term)(h4:∀p∈x.Params,0<=bY 4 p.Term)(h5:1<=x.Kind)(h6:x.Kind<=4):mV x=true:=by
 unfold mV;rw[cY (show ¬(6:Int)<((x.Params.length:Nat):Int) by omega),cY (show ¬(16:Int)<((x.Uses.length:Nat):Int) by omega),cN h5,cN h6];have e:(x.Params.all fun p=> !decide (bY 4 p.Term<0))=true:=by
  rw[fG];intro p hp;have:=h4 p hp;rw[cY (by omega)];rfl
 rw[e];cases hk:((x.Kind==2)||(x.Kind==3))
 ·simp
 ·have hK:x.Kind=2\/x.Kind=3:=by simpa only[ia,cK]using hk
  have:=h3 hK;rw[cY (show ¬bY 4 x.Term<0 by omega)];rfl
def Fq(x:ai):Prop:=mV x=true/\pf x.From
theorem Tm{l:List af}{k k':Nat}{p:aI}(h:mS l k=.ok p k'):pf p:=by
 unfold mS at h;obtain⟨a,k1,ha,h⟩:=bind_ok h;cases h47:aA l [47] k1<;>rw[h47]at h
 ·cases h;exact fun _=>rfl
 ·simp only[ad]at h;obtain⟨b,k2,hb,h⟩:=bind_ok h;have ne:a≠[]:=by
   unfold gi at ha;cases hn:ef l k<;>rw[hn]at ha<;>cases ha;intro e;unfold ef at hn;rw[e,bz]at hn;exact absurd hn.2 (by decide)
  cases h64:aA l [64] k2<;>rw[h64]at h
  ·cases h;exact fun _=>rfl
  ·simp only[ad]at h;obtain⟨v,k3,hv,h⟩:=bind_ok h;cases h;exact fun e=>absurd e ne
theorem ahY(l:List af)(hl:l.length<=4001)(nm:List UInt8)(k:Nat)(v:ai)(k':Nat)(h:ml l nm k=.ok v k'):Fq v:=by
 have:∀as k,nJ l nm as k=.ok v k'->Fq v:=fun as k h=>by
  unfold nJ at h;obtain⟨_,_,_,h⟩:=bind_ok h;obtain⟨ps,k1,hp,h⟩:=bind_ok h;obtain⟨t,k2,ht,h⟩:=bind_ok h;cases h;have h1:ps.length<=6/\∀p∈ps,0<=bY 4 p.Term:=by
   unfold rL at hp;obtain⟨_,k3,_,hp⟩:=bind_ok hp;cases hc:aA l [41] k3<;>rw[hc]at hp
   ·simp only[al]at hp;obtain⟨qs,_,hq,hp⟩:=bind_ok hp;obtain⟨_,_,_,hp⟩:=bind_ok hp;cases hp;have:=vY (P:=fun v:aV=>0<=bY 4 v.Term) l _ (fun _ _ _ hv=>ahW hl hv) 5 [] _ _ _ (fun v hv=>by cases hv) hq;exact⟨by simpa using this.1,this.2⟩
   ·cases hp;exact⟨by simp,fun p hp=>by cases hp⟩
  have h2:0<=bY 4 t:=by
   unfold tO at ht;cases hc:aA l [45,62] k1<;>rw[hc]at ht
   ·cases ht;rw[ahX];omega
   ·have:=(Fo l hl 4 _ _ _ ht).2.2.1;omega
  exact⟨Fp _ h1.1 (by simp) (fun _=>h2) h1.2 (by show(1:Int)<=3;decide) (by show(3:Int)<=4;decide),fun _=>rfl⟩
 unfold ml at h;cases hc:aA l qa k<;>rw[hc]at h<;>exact this _ _ h
theorem ahZ(l:List af)(hl:l.length<=4001)(k:Nat)(v:ai)(k':Nat)(h:jH l k=.ok v k'):Fq v:=by
 unfold jH nK at h;obtain⟨x,k1,hx,h⟩:=bind_ok h;obtain⟨_,_,_,h⟩:=bind_ok h;cases h;obtain⟨nm,k2,_,hx⟩:=bind_ok hx;unfold kf at hx;cases kg:aA l [58] k2<;>rw[kg]at hx
 ·cases hR:(nm==nI)<;>rw[hR]at hx
  ·cases hY:(nm==qb)<;>rw[hY]at hx
   ·cases hU:(nm==qc)<;>rw[hU]at hx
    ·cases hx
    ·simp only[ad,al]at hx;unfold rM at hx;obtain⟨p,_,hp,hx⟩:=bind_ok hx;obtain⟨_,_,_,hx⟩:=bind_ok hx;obtain⟨_,_,_,hx⟩:=bind_ok hx;obtain⟨us,_,hu,hx⟩:=bind_ok hx;obtain⟨_,_,_,hx⟩:=bind_ok hx;cases hx;have:=(vY (P:=fun _=>True) l _ (fun _ _ _ _=>trivial) 15 [] _ us _ (fun _ _=>trivial) hu).1;exact⟨Fp _ (by simp) (by simpa using this) (fun q=>absurd q (by show ¬((4:Int)=2\/(4:Int)=3);decide)) (fun p hp=>by cases hp) (by show(1:Int)<=4;decide) (by show(4:Int)<=4;decide),Tm hp⟩
   ·simp only[ad,al]at hx;obtain⟨_,_,_,hx⟩:=bind_ok hx;obtain⟨_,_,_,hx⟩:=bind_ok hx;obtain⟨t,_,ht,hx⟩:=bind_ok hx;cases hx;have:=(Fo l hl 4 _ _ _ ht).2.2.1;exact⟨Fp _ (by simp) (by simp) (fun _=>by show 0<=bY 4 t;omega) (fun p hp=>by cases hp) (by show(1:Int)<=2;decide) (by show(2:Int)<=4;decide),fun _=>rfl⟩
  ·simp only[ad,al]at hx;obtain⟨_,_,_,hx⟩:=bind_ok hx;cases hx;exact⟨Fp _ (by simp) (by simp) (fun q=>absurd q (by show ¬((1:Int)=2\/(1:Int)=3);decide)) (fun p hp=>by cases hp) (by show(1:Int)<=1;decide) (by show(1:Int)<=4;decide),fun _=>rfl⟩
 ·exact ahY l hl _ _ _ _ hx
theorem ah0(l:List af)(hl:l.length<=4001)(k:Nat)(v:aG)(k':Nat)(h:kX l k=.ok v k'):mo v=true/\∀i∈v.Items,pf i.From:=by
 unfold kX at h;obtain⟨_,_,_,h⟩:=bind_ok h;obtain⟨_,_,_,h⟩:=bind_ok h;obtain⟨xs,_,hx,h⟩:=bind_ok h;cases h;have:=Bi (P:=Fq) l (jH l) (ahZ l hl) 16 [] _ xs _ (fun v hv=>by cases hv) hx;have h1:xs.length<=16:=by simpa using this.1
 refine⟨?_,fun i hi=>(this.2 i hi).2⟩;unfold mo;rw[cY (show ¬(16:Int)<((xs.length:Nat):Int) by omega),bo,bj,fG];exact fun i hi=>(this.2 i hi).1
theorem ah1(l:List af)(k:Nat)(v:aQ)(k':Nat)(h:nO l k=.ok v k'):mq v=true/\∀i∈v.Items,pf i.Path:=by
 unfold nO at h;obtain⟨_,_,_,h⟩:=bind_ok h;obtain⟨_,_,_,h⟩:=bind_ok h;obtain⟨xs,_,hx,h⟩:=bind_ok h;cases h;have hw:∀(K:Int),(decide (1<=K)&&decide (K<=3))=true->∀k v k',oY l K k=.ok v k'->rX v=true/\pf v.Path:=fun K hK k v k' h=>by
  unfold oY at h;obtain⟨p,_,hp,h⟩:=bind_ok h;obtain⟨_,_,_,h⟩:=bind_ok h;cases h;exact⟨hK,Tm hp⟩
 have:=Bi (P:=fun v:aO=>rX v=true/\pf v.Path) l (jd l) (fun k v k' h=>by
  unfold jd at h;cases h1:aA l nL k<;>rw[h1]at h
  ·cases h2:aA l nM k<;>rw[h2]at h
   ·cases h3:aA l nN k<;>rw[h3]at h
    ·cases h
    ·exact hw 3 rfl _ _ _ h
   ·exact hw 2 rfl _ _ _ h
  ·exact hw 1 rfl _ _ _ h) 16 [] _ xs _ (fun v hv=>by cases hv) hx
 have h1:xs.length<=16:=by simpa using this.1
 refine⟨?_,fun i hi=>(this.2 i hi).2⟩;unfold mq;rw[cY (show ¬(16:Int)<((xs.length:Nat):Int) by omega),bo,bj,fG];exact fun i hi=>(this.2 i hi).1
theorem ah2(l:List af)(hl:l.length<=4001)(k:Nat)(p:aw)(k':Nat)(h:gk l k=.ok p k'):uA p=true/\Ly p:=by
 unfold gk at h;obtain⟨_,_,_,h⟩:=bind_ok h;obtain⟨_,_,_,h⟩:=bind_ok h;obtain⟨_,_,_,h⟩:=bind_ok h;obtain⟨_,_,_,h⟩:=bind_ok h;obtain⟨_,_,_,h⟩:=bind_ok h;obtain⟨q,k6,h6,h⟩:=bind_ok h;cases h;have:=Bj (P:=fun f=>mo f=true/\∀i∈f.Items,pf i.From) (Q:=fun f=>mq f=true/\∀i∈f.Items,pf i.Path) l (ah0 l hl) (ah1 l) 16 [] [] _ q _ (by simp) (by simp) (by simp) (by simp) h6;refine⟨?_,fun f hf=>(this.2.2.1 f hf).2,fun w hw=>(this.2.2.2 w hw).2⟩;unfold uA;have e1:q.1.all mo=true:=by rw[fG];exact fun f hf=>(this.2.2.1 f hf).1
 have e2:q.2.all mq=true:=by rw[fG];exact fun f hf=>(this.2.2.2 f hf).1
 have h1:=this.1;have h2:=this.2.1;show(!(decide ((8:Int)<((q.1.length:Nat):Int))||decide ((8:Int)<((q.2.length:Nat):Int)))&&(q.1.all mo&&q.2.all mq))=true
 rw[cY (show ¬(8:Int)<((q.1.length:Nat):Int) by omega),cY (show ¬(8:Int)<((q.2.length:Nat):Int) by omega),e1,e2];rfl
theorem ah3(s:List UInt8)(x:aw)(h:fN s=.inr x):uA x=true/\Ly x:=by
 unfold fN at h;split at h
 ·rename_i h0;split at h
  ·cases h
  ·rename_i hp;cases h;exact ah2 _ (EA s h0).len _ _ _ hp
 ·cases h
theorem ah4(x:aw)(hx:x.sz<=1048576):M.nW x=some (g9 x (fj cz x))/\M.rT x=some (g9 x (fj cz x))/\(g9 x (fj cz x)=true->M.qi x=some (fj cz x)):=
 ag9 x (fj cz x) hx (SZ x hx) (uA x) (ahM x) (fun h=>⟨_,S8 x hx h⟩) (fun⟨t,ht⟩=>by
  obtain⟨w1,w2⟩:=ah3 t x ht;exact⟨w1,by rw[S8 x hx w1,ahS x w2]⟩)
end M
namespace M
open Go.V (inB bS ar ae bf)
structure LI (l l':List af):Prop where
 nm:∀k,ef l' k=ef l k
 id:∀k,jt l' k=jt l k
 vr:∀k,ka l' k=ka l k
 is:∀t k,(t≠[59]/\t≠[])->aA l' t k=aA l t k
 sm:∀k,aA l [59] k=true->aA l' [59] k=true
 nt:∀k,ef l k=true->(bp l' k).Text=(bp l k).Text
 vt:∀k,ka l k=true->(bp l' k).Text=(bp l k).Text
def Up{α:Type}(r r':PR α):Prop:=∀v k,r=.ok v k->r'=.ok v k
theorem Up.refl{α:Type}(r:PR α):Up r r:=fun _ _ h=>h
theorem Up.no{α:Type}(k:Nat)(r:PR α):Up (.no k) r:=fun _ _ h=>by cases h
theorem Up.bind{α β:Type}{r r':PR α}{f f':α->Nat->PR β}(h:Up r r')(hf:∀v k,Up (f v k) (f' v k)):Up (r.bind f) (r'.bind f'):=fun v k e=>by
 obtain⟨a,k1,h1,h2⟩:=bind_ok e;rw[h a k1 h1];exact hf a k1 v k h2
theorem Up.bif{α:Type}{c c':Bool}{a a' b b':PR α}(h:c'=c)(h1:Up a a')(h2:Up b b'):Up (bif c then a else b) (bif c' then a' else b'):=by
 rw[h];cases c
 ·exact h2
 ·exact h1
section
variable {l l':List af}(R:LI l l')
include R
theorem fU{t:List UInt8}(k:Nat)(h0:t≠[]:=by decide):Up (cq l t k) (cq l' t k):=by
 unfold cq;by_cases ht:t=[59]
 ·subst ht;cases hb:aA l [59] k
  ·exact Up.no _ _
  ·rw[R.sm k hb];exact Up.refl _
 ·exact Up.bif (R.is t k ⟨ht,h0⟩) (Up.refl _) (Up.refl _)
theorem qA(k:Nat):Up (gi l k) (gi l' k):=by
 unfold gi;rw[R.nm k];cases hb:ef l k
 ·exact Up.refl _
 ·rw[R.nt k hb];exact Up.refl _
theorem BZ(k:Nat):Up (kS l k) (kS l' k):=by
 unfold kS;rw[R.id k];cases hb:jt l k
 ·exact Up.refl _
 ·have hn:ef l k=true:=by unfold jt at hb;exact(Bool.and_eq_true_iff.1 hb).1
  rw[R.nt k hn];exact Up.refl _
theorem LJ(k:Nat):Up (tH l k) (tH l' k):=by
 unfold tH;rw[R.vr k];cases hb:ka l k
 ·exact Up.refl _
 ·rw[R.vt k hb];exact Up.refl _
theorem B0{α:Type}{el yT:Nat->PR α}(h:∀k,Up (el k) (yT k)):∀(m:Nat)(acc:List α)(k:Nat),Up (dL l el m acc k) (dL l' yT m acc k)
 |0,acc,k=>fun v k' e=>by
  rw[dL]at e⊢;cases hk:el k with
  |no q=>rw[hk]at e;cases e
  |ok x k1=>rw[hk]at e;rw[h k x k1 hk];exact e
 |m+1,acc,k=>fun v k' e=>by
  rw[dL]at e⊢;cases hk:el k with
  |no q=>rw[hk]at e;cases e
  |ok x k1=>
   rw[hk]at e;rw[h k x k1 hk];simp only at e⊢;rw[R.is [44] k1 (by decide)];cases hc:aA l [44] k1<;>rw[hc]at e
   ·exact e
   ·exact B0 h m (acc++[x]) (k1+1) v k' e
theorem ah5(K:Int){g g':Nat->PR aa}(h:∀k,Up (g k) (g' k))(k:Nat):Up (gj l K g k) (gj l' K g' k):=by
 unfold gj;refine(qA R k).bind fun nm k1=>Up.bif rfl ((fU R k1).bind fun _ k2=>(h k2).bind fun _ _=>Up.refl _) (Up.bif rfl (Up.bif (R.is [40] k1 (by decide)) ((h (k1+1)).bind fun _ k3=>(fU R k3).bind fun _ _=>Up.refl _) (Up.refl _)) (Up.refl _))
theorem ah6{g g':Nat->PR aa}(h:∀k,Up (g k) (g' k))(k:Nat):Up (l8 l g k) (l8 l' g' k):=by
 unfold l8;refine Up.bif (R.is [60] k (by decide)) ?_ (Up.refl _);refine(Up.bif (R.is [95] (k+1) (by decide)) (Up.refl _) (h (k+1))).bind fun a k1=>?_
 refine(Up.bif (R.is [44] k1 (by decide)) (h (k1+1)) (Up.refl _)).bind fun b k2=>?_
 exact(fU R k2).bind fun _ _=>Up.refl _
theorem Ft:∀(d k:Nat),Up (dO l d k) (dO l' d k)
 |0,k=>Up.refl _
 |d+1,k=>by
  have ih:=Ft d;rw[dO,dO];refine(qA R k).bind fun w k1=>?_
  refine Up.bif rfl (Up.refl _) ?_;refine Up.bif rfl ((fU R k1).bind fun _ k2=>(ih k2).bind fun _ k3=>(fU R k3).bind fun _ _=>Up.refl _) ?_;refine Up.bif rfl ((fU R k1).bind fun _ k2=>(B0 R ih 5 [] k2).bind fun _ k3=>(fU R k3).bind fun _ _=>Up.refl _) ?_;refine Up.bif rfl ((fU R k1).bind fun _ k2=>(BZ R k2).bind fun _ k3=>(fU R k3).bind fun _ _=>Up.refl _) ?_;refine Up.bif rfl ((ah6 R ih k1).bind fun _ _=>Up.refl _) ?_;exact Up.bif rfl ((fU R k1).bind fun _ k2=>(B0 R (fun k=>ah5 R _ ih k) 15 [] k2).bind fun _ k3=>(fU R k3).bind fun _ _=>Up.refl _) (Up.refl _)
theorem Tn(k:Nat):Up (mS l k) (mS l' k):=by
 unfold mS;refine(qA R k).bind fun a k1=>Up.bif (R.is [47] k1 (by decide)) ?_ (Up.refl _)
 refine(qA R (k1+1)).bind fun b k2=>Up.bif (R.is [64] k2 (by decide)) ?_ (Up.refl _)
 exact(LJ R (k2+1)).bind fun _ _=>Up.refl _
theorem ah7(k:Nat):Up (jG l k) (jG l' k):=by
 unfold jG;exact(qA R k).bind fun w k1=>(fU R k1).bind fun _ k2=>(Ft R 4 k2).bind fun _ _=>Up.refl _
theorem ah8(k:Nat):Up (kW l k) (kW l' k):=by
 unfold kW;refine(BZ R k).bind fun a k1=>Up.bif (R.is [97,115] k1 (by decide)) ?_ (Up.refl _)
 exact(BZ R (k1+1)).bind fun _ _=>Up.refl _
theorem ah9(k:Nat):Up (rL l k) (rL l' k):=by
 unfold rL;refine(fU R k).bind fun _ k1=>Up.bif (R.is [41] k1 (by decide)) (Up.refl _) ?_
 exact(B0 R (ah7 R) 5 [] k1).bind fun _ k2=>(fU R k2).bind fun _ _=>Up.refl _
theorem aia(k:Nat):Up (tO l k) (tO l' k):=by
 unfold tO;exact Up.bif (R.is [45,62] k (by decide)) (Ft R 4 (k+1)) (Up.refl _)
theorem aib(nm:List UInt8)(k:Nat):Up (ml l nm k) (ml l' nm k):=by
 have h:∀as k,Up (nJ l nm as k) (nJ l' nm as k):=fun as k=>by
  unfold nJ;exact(fU R k).bind fun _ k1=>(ah9 R k1).bind fun _ k2=>(aia R k2).bind fun _ _=>Up.refl _
 unfold ml;exact Up.bif (R.is qa k (by decide)) (h _ _) (h _ _)
theorem aic(k:Nat):Up (rM l k) (rM l' k):=by
 unfold rM;exact(Tn R k).bind fun p k1=>(fU R k1).bind fun _ k2=>(fU R k2).bind fun _ k3=>(B0 R (ah8 R) 15 [] k3).bind fun us k4=>(fU R k4).bind fun _ _=>Up.refl _
theorem aid(k:Nat):Up (jH l k) (jH l' k):=by
 have hB:∀nm k1,Up (kf l nm k1) (kf l' nm k1):=fun nm k1=>by
  unfold kf;refine Up.bif (R.is [58] k1 (by decide)) (aib R nm (k1+1)) ?_;refine Up.bif rfl ((BZ R k1).bind fun _ _=>Up.refl _) ?_;refine Up.bif rfl ((BZ R k1).bind fun _ k2=>(fU R k2).bind fun _ k3=>(Ft R 4 k3).bind fun _ _=>Up.refl _) ?_;exact Up.bif rfl (aic R k1) (Up.refl _)
 unfold jH nK;exact((qA R k).bind hB).bind fun _ k1=>(fU R k1).bind fun _ _=>Up.refl _
theorem LK{α:Type}{el yT:Nat->PR α}(h:∀k,Up (el k) (yT k)):∀(m:Nat)(acc:List α)(k:Nat),Up (fM l el m acc k) (fM l' yT m acc k)
 |0,acc,k=>by
  rw[fM,fM];exact(fU R k).bind fun _ _=>Up.refl _
 |m+1,acc,k=>by
  rw[fM,fM];exact Up.bif (R.is [125] k (by decide)) (Up.refl _) ((h k).bind fun _ k1=>LK h m _ k1)
theorem To(k:Nat):Up (kX l k) (kX l' k):=by
 unfold kX;exact(qA R k).bind fun _ k1=>(fU R k1).bind fun _ k2=>(LK R (aid R) 16 [] k2).bind fun _ _=>Up.refl _
theorem Tq(k:Nat):Up (nO l k) (nO l' k):=by
 have hi:∀K k,Up (oY l K k) (oY l' K k):=fun K k=>by
  unfold oY;exact(Tn R k).bind fun _ k1=>(fU R k1).bind fun _ _=>Up.refl _
 have hw:∀k,Up (jd l k) (jd l' k):=fun k=>by
  unfold jd;exact Up.bif (R.is nL k (by decide)) (hi _ _) (Up.bif (R.is nM k (by decide)) (hi _ _) (Up.bif (R.is nN k (by decide)) (hi _ _) (Up.refl _)))
 unfold nO;exact(qA R k).bind fun _ k1=>(fU R k1).bind fun _ k2=>(LK R hw 16 [] k2).bind fun _ _=>Up.refl _
theorem LL(hE:∀k,((bp l' k).Kind==4)=((bp l k).Kind==4)):∀(m:Nat)(fs:List aG)(ws:List aQ)(k:Nat),Up (dZ l m fs ws k) (dZ l' m fs ws k)
 |0,fs,ws,k=>by rw[dZ,dZ];exact Up.bif (hE k) (Up.refl _) (Up.refl _)
 |m+1,fs,ws,k=>by
  rw[dZ,dZ];refine Up.bif (hE k) (Up.refl _) ?_;refine Up.bif (by rw[R.is lI k (by decide)]) ((To R (k+1)).bind fun _ k1=>LL hE m _ _ k1) ?_;exact Up.bif (by rw[R.is mT k (by decide)]) ((Tq R (k+1)).bind fun _ k1=>LL hE m _ _ k1) (Up.refl _)
theorem aie(hE:∀k,((bp l' k).Kind==4)=((bp l k).Kind==4))(k:Nat):Up (gk l k) (gk l' k):=by
 unfold gk;exact(fU R k).bind fun _ k1=>(qA R k1).bind fun _ k2=>(fU R k2).bind fun _ k3=>(LJ R k3).bind fun _ k4=>(fU R k4).bind fun _ k5=>(LL R hE 16 [] [] k5).bind fun _ _=>Up.refl _
theorem LM(n:Nat)(hn:∀k,((bp l k).Kind==4)=true->k=n)(hB:∀t k,t≠[]->aA l t k=true->k<n)(h4:((bp l' n).Kind==4)=false)(hE:∀k,k<n->((bp l' k).Kind==4)=((bp l k).Kind==4))(hF:aA l' lI n=false)(hW:aA l' mT n=false):
 ∀(m:Nat)(fs:List aG)(ws:List aQ)(k:Nat)(v:List aG×List aQ)(k':Nat),dZ l m fs ws k=.ok v k'->dZ l' m fs ws k=.no n
 |0,fs,ws,k,v,k',h=>by
  rw[dZ]at h⊢;cases hK:((bp l k).Kind==4)<;>rw[hK]at h
  ·cases h
  ·have:=hn k hK;subst this;rw[h4];rfl
 |m+1,fs,ws,k,v,k',h=>by
  rw[dZ]at h⊢;cases hK:((bp l k).Kind==4)<;>rw[hK]at h
  ·simp only[al]at h;rw[R.is lI k (by decide),R.is mT k (by decide)];cases hc:(decide (((fs.length:Nat):Int)<8)&&aA l lI k)<;>rw[hc]at h
   ·simp only[al]at h;cases hd:(decide (((ws.length:Nat):Int)<8)&&aA l mT k)<;>rw[hd]at h
    ·cases h
    ·have hk:=hB mT k (by decide) (Bool.and_eq_true_iff.1 hd).2;rw[hE k hk,hK];simp only[ad,al]at h⊢;obtain⟨w,k1,h1,h⟩:=bind_ok h;rw[Tq R (k+1) w k1 h1];exact LM n hn hB h4 hE hF hW m fs (ws++[w]) k1 v k' h
   ·have hk:=hB lI k (by decide) (Bool.and_eq_true_iff.1 hc).2;rw[hE k hk,hK];simp only[ad,al]at h⊢;obtain⟨w,k1,h1,h⟩:=bind_ok h;rw[To R (k+1) w k1 h1];exact LM n hn hB h4 hE hF hW m (fs++[w]) ws k1 v k' h
  ·have:=hn k hK;subst this;rw[h4,hF,hW];simp only[al,Bool.and_false]
theorem aif(n:Nat)(hn:∀k,((bp l k).Kind==4)=true->k=n)(hB:∀t k,t≠[]->aA l t k=true->k<n)(h4:((bp l' n).Kind==4)=false)(hE:∀k,k<n->((bp l' k).Kind==4)=((bp l k).Kind==4))(hF:aA l' lI n=false)(hW:aA l' mT n=false)(k:Nat)(v:aw)(k':Nat)(h:gk l k=.ok v k'):gk l' k=.no n:=by
 unfold gk at h⊢;obtain⟨a1,k1,h1,h⟩:=bind_ok h;obtain⟨a2,k2,h2,h⟩:=bind_ok h;obtain⟨a3,k3,h3,h⟩:=bind_ok h;obtain⟨a4,k4,h4',h⟩:=bind_ok h;obtain⟨a5,k5,h5,h⟩:=bind_ok h;obtain⟨q,k6,h6,h⟩:=bind_ok h;rw[fU R k (by decide) a1 k1 h1]
 show PR.bind (gi l' k1) _=_
 rw[qA R k1 a2 k2 h2]
 show PR.bind (cq l' [64] k2) _=_
 rw[fU R k2 (by decide) a3 k3 h3]
 show PR.bind (tH l' k3) _=_
 rw[LJ R k3 a4 k4 h4']
 show PR.bind (cq l' [59] k4) _=_
 rw[fU R k4 (by decide) a5 k5 h5]
 show PR.bind (dZ l' 16 [] [] k5) _=_
 rw[LM R n hn hB h4 hE hF hW 16 [] [] k5 q k6 h6];rfl
end
end M
namespace M
open Go.V (inB bS ar ae bf)
def hZ:Nat->List UInt8->Int->List af->(Int×Int)⊕(Int×List af)
 |0,_,_,_=>.inl (0,0)
 |_+1,[],line,out=>.inr (line,out)
 |n+1,c::r,line,out=>if(du c r).1=0 then .inl (line,6)else if out.length=4000 then .inl (line,4)
   else hZ n (((c::r).drop (du c r).2).drop (bm false ((c::r).drop (du c r).2) line).1) (bm false ((c::r).drop (du c r).2) line).2 (out++[af.mk (du c r).1 ((c::r).take (du c r).2) line])
theorem we(s:List UInt8):∀(f a:Nat)(line:Int)(out:List af),jc s f a line out=hZ f (s.drop a) line out
 |0,a,line,out=>rfl
 |f+1,a,line,out=>by
  rw[jc];rcases cQ a s.length with h|h
  ·rw[aT h,getD_lt h,List.drop_eq_getElem_cons h,hZ,<-List.drop_eq_getElem_cons h];by_cases h0:(du s[a] (s.drop (a+1))).1=0
   ·rw[aT h0,aT h0]
   ·rw[aP h0,aP h0];by_cases h4:out.length=4000
    ·rw[aT h4,aT h4]
    ·rw[aP h4,aP h4,we s f];simp only[uX,jk,nz]
  ·rw[aP (by omega),List.drop_eq_nil_of_le h,hZ]
theorem wh:∀(b:Bool)(l:List UInt8)(n:Int),bm b l (n+1)=((bm b l n).1,(bm b l n).2+1)
 |b,[],n=>by cases b<;>rfl
 |true,c::r,n=>by
  have h1:=wh false r (n+1);have h2:=wh true r n;unfold bm;by_cases h:(c.toNat:Int)=10
  ·rw[aT h,aT h,h1]
  ·rw[aP h,aP h,h2]
 |false,c::r,n=>by
  have h1:=wh false r (n+1);have h2:=wh true r n;have h3:=wh false r n;unfold bm;by_cases h:(c.toNat:Int)=10
  ·rw[aT h,aT h,h1]
  ·rw[aP h,aP h];by_cases h':(c.toNat:Int)=32
   ·rw[aT h',aT h',h3]
   ·rw[aP h',aP h'];by_cases h'':(c.toNat:Int)=47/\r≠[]/\((hd r).toNat:Int)=47
    ·rw[aT h'',aT h'',h2]
    ·rw[aP h'',aP h'']
def rY(t:af):af:=af.mk t.Kind t.Text (t.Line+1)
theorem Tt:∀(f:Nat)(r:List UInt8)(line:Int)(out:List af)(y:Int×List af),hZ f r line out=.inr y->hZ f r (line+1) (out.map rY)=.inr (y.1+1,y.2.map rY)
 |0,r,line,out,y,h=>by cases h
 |f+1,[],line,out,y,h=>by
  rw[hZ]at h⊢;cases h;rfl
 |f+1,c::r,line,out,y,h=>by
  rw[hZ]at h⊢;by_cases h0:(du c r).1=0
  ·rw[aT h0]at h;cases h
  ·rw[aP h0]at h⊢;by_cases h4:out.length=4000
   ·rw[aT h4]at h;cases h
   ·rw[aP h4]at h;rw[aP (by rw[eJ];exact h4),wh];have:=Tt f _ _ _ y h;rw[uW]at this;exact this
theorem Tu:∀(c r:List UInt8)(l:Int),(∀x∈c,(x.toNat:Int)≠10)->bm true (c++10::r) l=((bm false r (l+1)).1+c.length+1,(bm false r (l+1)).2)
 |[],r,l,_=>by
   rw[eP];show(if((10:UInt8).toNat:Int)=10 then _ else _)=_
   rw[aT (by decide)];rfl
 |x::c,r,l,h=>by
  have h1:=Tu c r l fun y hy=>h y (by simp[hy])
  rw[jz];show(if(x.toNat:Int)=10 then _ else((bm true (c++10::r) l).1+1,(bm true (c++10::r) l).2))=_
  rw[aP (h x (by simp)),h1,aC,jk (_+c.length) 1,jk _ c.length,jk _ (c.length+1)]
theorem aih(c t:List UInt8)(hc:∀x∈c,(x.toNat:Int)≠10)(hl:c.length+3+t.length<=30000)(l:List af)(h0:l≠[])(h:dr t=(l,0,0)):dr (47::47::(c++10::t))=(l.map rY,0,0):=by
 have hlen:(47::47::(c++10::t)).length=c.length+3+t.length:=by simp;omega
 have e1:bm false (47::47::(c++10::t)) 1=((bm false t (1+1)).1+(c.length+3),(bm false t (1+1)).2):=by
  show(if((47:UInt8).toNat:Int)=10 then _ else if((47:UInt8).toNat:Int)=32 then _ else if((47:UInt8).toNat:Int)=47/\(47::(c++10::t))≠[]/\((hd (47::(c++10::t))).toNat:Int)=47 then((bm true (47::(c++10::t)) 1).1+1,(bm true (47::(c++10::t)) 1).2)else _)=_
  rw[aP (by decide),aP (by decide),aT ⟨by decide,by simp,by show((47:UInt8).toNat:Int)=47;decide⟩];have:=Tu (47::c) t 1 (fun x hx=>by
   rcases eY.1 hx with q|q
   ·rw[q];decide
   ·exact hc x q)
  rw[jz]at this;rw[this];simp only[aC,jk]
 unfold dr at h⊢;rw[aP (by rw[hlen];omega),e1,we];rw[aP (by omega),we]at h;rw[wh];simp only;have e2:List.drop ((bm false t 1).1+(c.length+3)) (47::47::(c++10::t))=t.drop (bm false t 1).1:=by
  have e3:(47::47::(c++10::t)).drop (c.length+3)=t:=by
   show(c++10::t).drop (c.length+1)=t
   rw[List.drop_append,List.drop_eq_nil_of_le (by omega),show c.length+1-c.length=1 by omega];rfl
  rw[uY,<-uX,e3]
 rw[e2];cases hg:hZ ae (t.drop (bm false t 1).1) (bm false t 1).2 []with
 |inl x=>rw[hg]at h;simp only[aN]at h;exact absurd h.1.symm h0
 |inr y=>
  rw[hg]at h;have:=Tt _ _ _ _ y hg;rw[List.map_nil]at this;rw[this];simp only[aN,and_true]at h⊢;rw[<-h,uW];rfl
def fV(r:List UInt8):Prop:=∃q,r=q++[10]
theorem fV.ne{r:List UInt8}(h:fV r):r≠[]:=by obtain⟨q,rfl⟩:=h;simp
theorem fV.pos{r:List UInt8}(h:fV r):1<=r.length:=List.length_pos_iff.2 h.ne
theorem fV.tail{c:UInt8}{r:List UInt8}(h:fV (c::r)):(r=[]/\c=10)\/fV r:=by
 obtain⟨q,h⟩:=h;cases q with
 |nil=>simp only[eP,List.cons.injEq]at h;exact .inl ⟨h.2,h.1⟩
 |cons x q=>simp only[jz,List.cons.injEq]at h;exact .inr ⟨q,h.2⟩
theorem fV.drop{r:List UInt8}(h:fV r)(k:Nat):r.drop k=[]\/fV (r.drop k):=by
 obtain⟨q,rfl⟩:=h;rcases cQ q.length k with hk|hk
 ·left;exact List.drop_eq_nil_of_le (by simp;omega)
 ·right;exact⟨q.drop k,by rw[List.drop_append,show k-q.length=0 by omega];rfl⟩
theorem Fv{r:List UInt8}(h:r≠[])(x:List UInt8):hd (r++x)=hd r:=by
 cases r with
 |nil=>exact absurd rfl h
 |cons c r=>rfl
theorem Fz{r:List UInt8}(h:r≠[]):r++[59]≠[]:=by simp
theorem Tv:∀(r:List UInt8),fV r->il (r++[59])=il r/\il r<r.length
 |[],h=>absurd rfl h.ne
 |c::r,h=>by
  rcases h.tail with⟨rfl,rfl⟩|h'
  ·exact⟨by decide,by decide⟩
  ·have ih:=Tv r h';rw[jz];unfold il;rw[Fv h'.ne,cN (Fz h'.ne),cN h'.ne,ih.1];refine⟨rfl,?_⟩;rw[aC];split<;>omega
theorem Tz:∀(r:List UInt8),fV r->gX (r++[59])=gX r/\gX r<r.length
 |[],h=>absurd rfl h.ne
 |c::r,h=>by
  rcases h.tail with⟨rfl,rfl⟩|h'
  ·exact⟨by decide,by decide⟩
  ·have ih:=Tz r h';rw[jz];unfold gX;rw[Fv h'.ne,cN (Fz h'.ne),cN h'.ne,ih.1];refine⟨rfl,?_⟩;rw[aC];split<;>omega
theorem aii(c:UInt8){r:List UInt8}(h:fV r):du c (r++[59])=du c r/\(du c r).2<=r.length:=by
 have h1:=Tv r h;have h2:=Tz r h;have h3:=h.pos;have e:(r++[59]≠[])=(r≠[]):=propext ⟨fun _=>h.ne,fun _=>Fz h.ne⟩;have ed:decide (c=45/\r++[59]≠[]/\hd (r++[59])=62)=decide (c=45/\r≠[]/\hd r=62):=by rw[Fv h.ne];simp only[e]
 unfold du;rw[h1.1,h2.1,ed];refine⟨rfl,?_⟩;cases ik c
 ·cases fB c
  ·cases hc:decide (c=45/\r≠[]/\hd r=62)
   ·cases isS c<;>simp only[ad,al]<;>omega
   ·rw[ct]at hc;simp only[ad,al];have:2<=r.length:=by
     obtain⟨q,hq⟩:=h;cases q with
     |nil=>rw[hq]at hc;exact absurd hc.2.2 (by decide)
     |cons x q=>rw[hq];simp
    exact this
  ·simp only[ad,al];omega
 ·simp only[ad];omega
theorem LN:∀(b:Bool)(r:List UInt8)(n:Int),(fV r\/(b=false/\r=[]))->bm b (r++[59]) n=bm b r n
 |b,[],n,h=>by
  rcases h with h|⟨rfl,-⟩
  ·exact absurd rfl h.ne
  ·rfl
 |b,c::r,n,h=>by
  have h:=h.resolve_right (fun q=>by cases q.2);have ih:=fun b n=>LN b r n
  have ht:=h.tail;rw[jz];cases b with
  |true=>
   show(if(c.toNat:Int)=10 then((bm false (r++[59]) (n+1)).1+1,(bm false (r++[59]) (n+1)).2)else((bm true (r++[59]) n).1+1,(bm true (r++[59]) n).2))=(if(c.toNat:Int)=10 then((bm false r (n+1)).1+1,(bm false r (n+1)).2)else((bm true r n).1+1,(bm true r n).2))
   by_cases h1:(c.toNat:Int)=10
   ·rw[aT h1,aT h1,ih false _ (ht.elim (fun q=>.inr ⟨rfl,q.1⟩) .inl)]
   ·rw[aP h1,aP h1,ih true _ (ht.elim (fun q=>absurd (by rw[q.2];decide) h1) .inl)]
  |false=>
   show(if(c.toNat:Int)=10 then((bm false (r++[59]) (n+1)).1+1,(bm false (r++[59]) (n+1)).2)else if(c.toNat:Int)=32 then((bm false (r++[59]) n).1+1,(bm false (r++[59]) n).2)else if(c.toNat:Int)=47/\(r++[59])≠[]/\((hd (r++[59])).toNat:Int)=47 then((bm true (r++[59]) n).1+1,(bm true (r++[59]) n).2)else(0,n))=
    (if(c.toNat:Int)=10 then((bm false r (n+1)).1+1,(bm false r (n+1)).2)else if(c.toNat:Int)=32 then((bm false r n).1+1,(bm false r n).2)else if(c.toNat:Int)=47/\r≠[]/\((hd r).toNat:Int)=47 then((bm true r n).1+1,(bm true r n).2)else(0,n))
   by_cases h1:(c.toNat:Int)=10
   ·rw[aT h1,aT h1,ih false _ (ht.elim (fun q=>.inr ⟨rfl,q.1⟩) .inl)]
   ·have h':fV r:=ht.resolve_left (fun q=>h1 (by rw[q.2];decide));rw[aP h1,aP h1];by_cases h2:(c.toNat:Int)=32
    ·rw[aT h2,aT h2,ih false _ (.inl h')]
    ·rw[aP h2,aP h2,Fv h'.ne,ih true _ (.inl h')];have e:(r++[59]≠[])=(r≠[]):=propext ⟨fun _=>h'.ne,fun _=>Fz h'.ne⟩;simp only[e]
theorem TA:∀(f:Nat)(r:List UInt8)(line:Int)(out:List af)(y:Int×List af),(r=[]\/fV r)->r.length+2<=f->1<=line->hZ f r line out=.inr y->y.2.length<=3999->hZ f (r++[59]) line out=.inr (y.1,y.2++[af.mk 3 [59] y.1])/\1<=y.1
 |0,r,line,out,y,_,hf,_,_,_=>by omega
 |f+1,[],line,out,y,_,hf,hl,h,hy=>by
  rw[hZ]at h;cases h;obtain⟨f,rfl⟩:∃g,f=g+1:=⟨f-1,by simp at hf;omega⟩;have e:du 59 []=(3,1):=by decide
  rw[eP,hZ,e,aP (by decide),aP (by simp only at hy;omega)];exact⟨rfl,hl⟩
 |f+1,c::r,line,out,y,hr,hf,hl,h,hy=>by
  have hE:fV (c::r):=hr.resolve_left (by simp);rw[hZ]at h;by_cases h0:(du c r).1=0
  ·rw[aT h0]at h;cases h
  ·rw[aP h0]at h;by_cases h4:out.length=4000
   ·rw[aT h4]at h;cases h
   ·rw[aP h4]at h;have hr':fV r:=hE.tail.resolve_left (fun q=>h0 (by rw[q.1,q.2];decide));obtain⟨l1,l2⟩:=aii c hr';have l3:=x5 c r h0;rw[jz,hZ,l1,aP h0,aP h4];have d1:(c::(r++[59])).drop (du c r).2=(c::r).drop (du c r).2++[59]:=by
     rw[<-jz,List.drop_append,show(du c r).2-(c::r).length=0 by rw[aC];omega];rfl
    have t1:(c::(r++[59])).take (du c r).2=(c::r).take (du c r).2:=by
     rw[<-jz,C9 (by rw[aC];omega)]
    have hE2:(c::r).drop (du c r).2=[]\/fV ((c::r).drop (du c r).2):=hE.drop _;rw[d1,t1,LN false _ line (hE2.elim (fun q=>.inr ⟨rfl,q⟩) .inl)];have hsk:=oU false ((c::r).drop (du c r).2) line;generalize hR:(c::r).drop (du c r).2=R at*;have hRl:R.length+(du c r).2=(c::r).length:=by rw[<-hR,List.length_drop,aC];omega
    have d2:(R++[59]).drop (bm false R line).1=R.drop (bm false R line).1++[59]:=by
     rw[List.drop_append,show(bm false R line).1-R.length=0 by omega];rfl
    rw[d2];refine TA f _ _ _ y ?_ ?_ (by omega) h hy
    ·rcases hE2 with q|q
     ·left;rw[q];rfl
     ·exact q.drop _
    ·rw[List.length_drop];rw[aC]at hRl hf;omega
theorem aij(q:List UInt8)(T:List af)(n:Int)(h:dr (q++[10])=(T++[af.mk 4 [] n],0,0))(hl:q.length+2<=30000)(hT:T.length<=3999):dr ((q++[10])++[59])=((T++[af.mk 3 [59] n])++[af.mk 4 [] n],0,0)/\1<=n:=by
 have hE:fV (q++[10]):=⟨q,rfl⟩;unfold dr at h⊢;rw[aP (by simp;omega),LN false _ 1 (.inl hE),we];rw[aP (by simp;omega),we]at h;have hsk:=oU false (q++[10]) 1;have d2:((q++[10])++[59]).drop (bm false (q++[10]) 1).1=(q++[10]).drop (bm false (q++[10]) 1).1++[59]:=by
  have hz:(bm false (q++[10]) 1).1-(q++[10]:List UInt8).length=0:=by omega
  rw[List.drop_append,hz];rfl
 rw[d2];cases hg:hZ ae ((q++[10]).drop (bm false (q++[10]) 1).1) (bm false (q++[10]) 1).2 []with
 |inl x=>rw[hg]at h;simp only[aN]at h;exact absurd h.1.symm (by simp)
 |inr y=>
  rw[hg]at h;simp only[aN,and_true]at h;obtain⟨h1,h2⟩:=List.append_inj' h rfl;simp only[List.cons.injEq,af.mk.injEq,zF,and_true]at h2;obtain⟨g1,g2⟩:=TA ae _ _ [] y (hE.drop _) (by have:=bf;rw[List.length_drop];simp;omega) (by omega) hg (by rw[h1];exact hT);rw[g1,h1,h2];exact⟨rfl,by rw[<-h2];exact g2⟩
end M
set_option maxRecDepth 100000
namespace M
open Go.V (inB bS ar ae bf)
theorem TB:∀(f g:Nat)(r:List UInt8)(line:Int)(out:List af),r.length<f->r.length<g->hZ f r line out=hZ g r line out
 |0,g,r,line,out,h,_=>absurd h (w8 _)
 |f+1,0,r,line,out,_,h=>absurd h (w8 _)
 |f+1,g+1,[],line,out,_,_=>rfl
 |f+1,g+1,c::r,line,out,hf,hg=>by
  rw[hZ,hZ];by_cases h0:(du c r).1=0
  ·rw[aT h0,aT h0]
  ·rw[aP h0,aP h0];by_cases h4:out.length=4000
   ·rw[aT h4,aT h4]
   ·rw[aP h4,aP h4];have l3:=x5 c r h0;have hl:(((c::r).drop (du c r).2).drop (bm false ((c::r).drop (du c r).2) line).1).length<=r.length:=by
     rw[List.length_drop,List.length_drop,aC];omega
    rw[aC]at hf hg;exact TB f g _ _ _ (by omega) (by omega)
def uB:aw:=aw.mk [98,97,115,101] [49,46,48,46,48] [] []
def rZ:List UInt8:=[112,97,99,107,97,103,101,32,98,97,115,101,64,49,46,48,46,48,59,10]
theorem aik:fj cz uB=rZ:=by decide+kernel
def TC:List af:=match hZ 30 (rZ.drop (bm false rZ 1).1) (bm false rZ 1).2 []with
 |.inl _=>[]
 |.inr y=>y.2++[af.mk 4 [] y.1]
theorem ail:(rZ.drop (bm false rZ 1).1).length<=20:=by decide+kernel
theorem aim:dr rZ=(TC,0,0):=by
 have e:=ail;have hb:=bf;unfold dr;rw[aP (show ¬30000<rZ.length by decide),we,TB ae 30 _ _ _ (by omega) (by omega)];rfl
theorem ain:gk TC 0=.ok uB 5:=by kernel_rfl
theorem aio:fN rZ=.inr uB:=by
 unfold fN;rw[aim];simp only[nc];rw[ain]
theorem aip:g9 uB (fj cz uB)=true:=by
 rw[aik];unfold g9 je;rw[aio];have e:mm uB=true:=by kernel_rfl
 simp only[e,ad];rw[bz,Le];exact⟨rfl,rfl⟩
end M
namespace M
open Go.V (inB bS ar ae bf)
theorem TD:∀(f:Nat)(r:List UInt8)(line:Int)(out:List af)(y:Int×List af),hZ f r line out=.inr y->y.2.length<=out.length+r.length
 |0,r,line,out,y,h=>by cases h
 |f+1,[],line,out,y,h=>by rw[hZ]at h;cases h;exact cu _
 |f+1,c::r,line,out,y,h=>by
  rw[hZ]at h;by_cases h0:(du c r).1=0
  ·rw[aT h0]at h;cases h
  ·rw[aP h0]at h;by_cases h4:out.length=4000
   ·rw[aT h4]at h;cases h
   ·rw[aP h4]at h;have l3:=x5 c r h0;have ih:=TD f _ _ _ y h;rw[aE,List.length_singleton,List.length_drop,List.length_drop,aC]at ih;rw[aC];omega
theorem aiq(s:List UInt8)(l:List af)(h:dr s=(l,0,0)):l.length<=s.length+1:=by
 unfold dr at h;by_cases hs:30000<s.length
 ·rw[aT hs]at h;simp only[aN]at h;exact absurd h.2.2 (by decide)
 ·rw[aP hs,we]at h;cases hg:hZ ae (s.drop (bm false s 1).1) (bm false s 1).2 []with
  |inl x=>rw[hg]at h;simp only[aN]at h;rw[<-h.1];simp
  |inr y=>
   rw[hg]at h;simp only[aN]at h;have:=TD _ _ _ _ y hg;rw[<-h.1,aE,List.length_singleton];rw[List.length_drop,aJ]at this;omega
theorem fV.app{a b:List UInt8}(ha:fV a)(hb:b=[]\/fV b):fV (a++b):=by
 rcases hb with rfl|⟨q,rfl⟩
 ·rw[sJ];exact ha
 ·exact⟨a++q,by rw[fX]⟩
theorem LP{α:Type}(g:α->List UInt8)(h:∀x,fV (g x)):∀l:List α,(l.map g).flatten=[]\/fV (l.map g).flatten
 |[]=>.inl rfl
 |x::r=>by
  rw[eQ,List.flatten_cons];exact .inr ((h x).app (LP g h r))
theorem air(pt:aI->List UInt8)(f:aG):fV (iq pt f):=⟨((([10,105,110,116,101,114,102,97,99,101,32]++f.Name)++[32,123,10])++(f.Items.map (jv pt)).flatten)++[125],by unfold iq;simp⟩
theorem ais(pt:aI->List UInt8)(w:aQ):fV (worldT pt w):=⟨((([10,119,111,114,108,100,32]++w.Name)++[32,123,10])++(w.Items.map (jx pt)).flatten)++[125],by unfold worldT;simp⟩
theorem ait(x:aw):fV (firstT x):=⟨((([112,97,99,107,97,103,101,32]++x.Name)++[64])++x.Version)++[59],by unfold firstT;simp⟩
theorem aiu(pt:aI->List UInt8)(x:aw):fV (fj pt x):=by
 unfold fj;exact((ait x).app (LP _ (air pt) _)).app (LP _ (ais pt) _)
theorem FA{x:aw}{t:List UInt8}(h:g9 x t=true):je t=(x,0,0)/\fN t=.inr x/\mm x=true:=by
 have hw:=Ll x t h;unfold g9 je at h;rw[hw]at h;simp only at h;have hc:mm x=true:=by
  by_cases hc:mm x=true
  ·exact hc
  ·rw[sG]at hc;rw[hc]at h;simp only[al]at h;exact absurd (Bool.and_eq_true_iff.1 h).1 (by decide)
 refine⟨?_,hw,hc⟩;unfold je;rw[hw];simp only[hc,ad]
theorem aiv(t:List UInt8)(h0:(dr t).2.2=0)(hp:0<(dr t).1.length):dr t=((dr t).1,0,0):=by
 revert h0 hp
 unfold dr;split
 ·intro h0;exact absurd h0 (by decide)
 ·cases jc t ae (bm false t 1).1 (bm false t 1).2 []with
  |inl x=>intro h0 hp;exact absurd hp (Nat.lt_irrefl _)
  |inr y=>intro _ _;rfl
theorem TE{x:aw}{t:List UInt8}(h:fN t=.inr x):∃l k,dr t=(l,0,0)/\bW l/\gk l 0=.ok x k:=by
 unfold fN at h;split at h
 ·rename_i h0;split at h
  ·cases h
  ·rename_i hp;cases h;have hL:=EA t h0;exact⟨(dr t).1,_,aiv t h0 hL.pos,hL,hp⟩
 ·cases h
theorem mW(l:List af)(k:Nat):(bp (l.map rY) k).Kind=(bp l k).Kind/\(bp (l.map rY) k).Text=(bp l k).Text:=by
 rcases cQ k l.length with h|h
 ·unfold bp;rw[getD_lt (show k<(l.map rY).length by rw[eJ];exact h),getD_lt h,zC];exact⟨rfl,rfl⟩
 ·rw[yS h,yS (show(l.map rY).length<=k by rw[eJ];exact h)];exact⟨rfl,rfl⟩
theorem aiw(l:List af):LI l (l.map rY):={
 nm:=fun k=>by unfold ef;rw[(mW l k).1,(mW l k).2]
 id:=fun k=>by unfold jt ef;rw[(mW l k).1,(mW l k).2]
 vr:=fun k=>by unfold ka;rw[(mW l k).1,(mW l k).2]
 is:=fun t k _=>by unfold aA;rw[(mW l k).1,(mW l k).2]
 sm:=fun k h=>by unfold aA at h⊢;rw[(mW l k).1,(mW l k).2];exact h
 nt:=fun k _=>(mW l k).2
 vt:=fun k _=>(mW l k).2}
theorem aix(t:List UInt8)(l:List af)(x:aw)(k:Nat)(h:dr t=(l,0,0))(hp:gk l 0=.ok x k)(hc:mm x=true):je t=(x,0,0):=by
 have hw:fN t=.inr x:=by
  unfold fN;rw[h];simp only[nc];rw[hp]
 unfold je;rw[hw];simp only[hc,ad]
theorem aiy{x:aw}{t:List UInt8}(c:List UInt8)(h:g9 x t=true)(hc:∀y∈c,(y.toNat:Int)≠10)(hl:c.length+3+t.length<=30000):je (47::47::(c++10::t))=(x,0,0):=by
 obtain⟨-,hw,hcl⟩:=FA h;obtain⟨l,k,h1,hL,h2⟩:=TE hw;have hne:l≠[]:=List.length_pos_iff.1 hL.pos;refine aix _ (l.map rY) x k (aih c t hc hl l hne h1) ?_ hcl;exact aie (aiw l) (fun k=>by rw[(mW l k).1]) 0 x k h2
theorem LQ{a b:List af}{k:Nat}(h:k<a.length):bp (a++b) k=bp a k:=by
 unfold bp;rw[getD_lt (show k<(a++b).length by rw[aE];omega),getD_lt h,List.getElem_append_left h]
theorem LR(a:List af)(e:af)(b:List af):bp (a++e::b) a.length=e:=by
 unfold bp;rw[getD_lt (show a.length<(a++e::b).length by simp),List.getElem_append_right (cu _)];simp
theorem aiz{x:aw}(pt:aI->List UInt8)(h:g9 x (fj pt x)=true)(hl:(fj pt x).length<=3900):∃n:Int,1<=n/\je (fj pt x++[59])=(noPack,n,6):=by
 obtain⟨-,hw,hcl⟩:=FA h;obtain⟨l,k,h1,hL,h2⟩:=TE hw;obtain⟨q,hq⟩:=aiu pt x;obtain⟨T,e,hl',e1,e2,hT,-⟩:=hL.ex;have hcnt:=aiq _ l h1;have he:e=af.mk 4 [] e.Line:=by
  cases e;simp only at e1 e2;subst e1;subst e2;rfl
 have hTl:T.length<=3999:=by
  rw[hl',aE,List.length_singleton]at hcnt;omega
 rw[hq]at h1 hl;rw[hl',he]at h1;obtain⟨g1,g2⟩:=aij q T e.Line h1 (by rw[aE,List.length_singleton]at hl;omega) hTl;refine⟨e.Line,g2,?_⟩;generalize hn:e.Line=n at*;have hA:l=T++[af.mk 4 [] n]:=by rw[hl',he]
 have hB':((T++[af.mk 3 [59] n])++[af.mk 4 [] n])=T++af.mk 3 [59] n::[af.mk 4 [] n]:=by simp
 have k0:∀k,k<T.length->bp ((T++[af.mk 3 [59] n])++[af.mk 4 [] n]) k=bp l k:=fun k hk=>by
  rw[hB',LQ hk,hA,LQ hk]
 have k1:bp ((T++[af.mk 3 [59] n])++[af.mk 4 [] n]) T.length=af.mk 3 [59] n:=by rw[hB',LR]
 have k1':bp l T.length=af.mk 4 [] n:=by rw[hA,LR]
 have k2:∀k,T.length<k->bp l k=af.zero:=fun k hk=>yS (by rw[hA,aE,List.length_singleton];omega)
 have k2':∀k,T.length<k->(bp ((T++[af.mk 3 [59] n])++[af.mk 4 [] n]) k)=af.mk 4 [] n\/(bp ((T++[af.mk 3 [59] n])++[af.mk 4 [] n]) k)=af.zero:=fun k hk=>by
  by_cases h':k=T.length+1
  ·left;have:=LR (T++[af.mk 3 [59] n]) (af.mk 4 [] n) [];rw[aE,List.length_singleton]at this;rw[h'];exact this
  ·right;exact yS (by simp;omega)
 have sc:∀(P:Nat->Prop),(∀k,k<T.length->P k)->P T.length->(∀k,T.length<k->P k)->∀k,P k:=fun P a b c k=>by
  rcases Nat.lt_trichotomy k T.length with q|q|q
  ·exact a k q
  ·rw[q];exact b
  ·exact c k q
 have R:LI l ((T++[af.mk 3 [59] n])++[af.mk 4 [] n]):=by
  refine⟨sc _ (fun k hk=>?_) ?_ (fun k hk=>?_),sc _ (fun k hk=>?_) ?_ (fun k hk=>?_),sc _ (fun k hk=>?_) ?_ (fun k hk=>?_),fun t=>sc _ (fun k hk _=>?_) (fun ht=>?_) (fun k hk ht=>?_),sc _ (fun k hk h=>?_) (fun h=>?_) (fun k hk h=>?_),sc _ (fun k hk _=>?_) (fun h=>?_) (fun k hk h=>?_),sc _ (fun k hk _=>?_) (fun h=>?_) (fun k hk h=>?_)⟩
  ·unfold ef;rw[k0 k hk]
  ·unfold ef;rw[k1,k1'];rfl
  ·unfold ef;rw[k2 k hk];rcases k2' k hk with q|q<;>rw[q]<;>rfl
  ·unfold jt ef;rw[k0 k hk]
  ·unfold jt ef;rw[k1,k1'];rfl
  ·unfold jt ef;rw[k2 k hk];rcases k2' k hk with q|q<;>rw[q]<;>rfl
  ·unfold ka;rw[k0 k hk]
  ·unfold ka;rw[k1,k1'];rfl
  ·unfold ka;rw[k2 k hk];rcases k2' k hk with q|q<;>rw[q]<;>rfl
  ·unfold aA;rw[k0 k hk]
  ·unfold aA;rw[k1,k1'];have:(([59]:List UInt8)==t)=false:=by rw[cL];exact fun e=>ht.1 e.symm
   simp only[this];rfl
  ·unfold aA;rw[k2 k hk];have:(([]:List UInt8)==t)=false:=by rw[cL];exact fun e=>ht.2 e.symm
   have z:af.zero.Text=[]:=rfl;rcases k2' k hk with q|q<;>rw[q]
   rw[z];simp only[this,Bool.and_false]
  ·unfold aA at h⊢;rw[k0 k hk];exact h
  ·unfold aA at h;rw[k1']at h;exact absurd h (by show ¬(false=true);decide)
  ·unfold aA at h;rw[k2 k hk]at h;exact absurd h (by decide)
  ·rw[k0 k hk]
  ·unfold ef at h;rw[k1']at h;exact absurd h (by show ¬(false=true);decide)
  ·unfold ef at h;rw[k2 k hk]at h;exact absurd h (by decide)
  ·rw[k0 k hk]
  ·unfold ka at h;rw[k1']at h;exact absurd h (by show ¬(false=true);decide)
  ·unfold ka at h;rw[k2 k hk]at h;exact absurd h (by decide)
 have hT4:∀k,k<T.length->((bp l k).Kind==4)=false:=fun k hk=>by
  rw[hA,LQ hk];unfold bp;rw[getD_lt hk];have:=(hT _ (dt hk)).1;rw[cL];rcases this with q|q|q<;>rw[q]<;>decide
 have hno:=aif R T.length (sc _ (fun k hk h=>by rw[hT4 k hk]at h;cases h) (fun _=>rfl) (fun k hk h=>by rw[k2 k hk]at h;exact absurd h (by decide)))
  (fun t=>sc _ (fun k hk _ _=>hk) (fun _ h=>by unfold aA at h;rw[k1']at h;exact absurd h (by show ¬(false=true);decide)) (fun k hk ht h=>by
    have:=LC ht h;rw[hA,aE,List.length_singleton]at this;omega))
  (by rw[k1];rfl) (fun k hk=>by rw[k0 k hk]) (by unfold aA;rw[k1];rfl) (by unfold aA;rw[k1];rfl) 0 x k h2
 have hw':fN (fj pt x++[59])=.inl (n,6):=by
  unfold fN;rw[hq,g1];simp only[nc];rw[hno];simp only[k1]
 unfold je;rw[hw']
end M
namespace M
open Go.V (inB bS ar ae bf)
theorem lh{α:Type}(f:α->Nat)(c:Nat):∀l:List α,(∀x∈l,f x<=c)->bH f l<=(c+1)*l.length
 |[],_=>by simp[bH]
 |x::r,h=>by
  have h1:=h x (by simp);have h2:=lh f c r fun y hy=>h y (by simp[hy])
  simp only[bH,aC,Nat.mul_add,qP];omega
theorem TF(t:aa)(ks:List (List UInt8)):(bodyT t ks).length<=12+t.Name.length+bH List.length ks+ks.length+bH List.length t.bn+3*t.bn.length:=by
 have hk:=E6 t.Kind;have hj:=jL ks;have hr:=Ln t ks;have hl:=uu t.Kind t.bn t.Kids ks;have hl2:=mU t.Kind t.bn t.Kids ks;have hj2:=jL (labT t.Kind t.bn t.Kids ks);unfold bodyT;cases (t.Kind==30)<;>cases ((t.Kind==20)||(t.Kind==21))<;>cases (BI t.Kind)<;>cases (t.Kind==14)<;>cases (BJ t.Kind)<;>simp only[ad,al,aE,aC,aJ]<;>omega
structure iD (t:aa):Prop where
 k:t.Kids=[]
 l:t.bn=[]
 n:t.Name.length<=4
theorem iD.text{t:aa}(h:iD t)(n:Nat):(cF n t).length<=16:=by
 cases n with
 |zero=>simp[cF]
 |succ n=>
  have:=TF t (t.Kids.map (cF n));have hn:=h.n;rw[h.k,h.l]at this;simp only[List.map_nil,bH,aJ]at this;show(bodyT t (t.Kids.map (cF n))).length<=16
  rw[h.k];simp only[List.map_nil];omega
theorem iD.size{t:aa}(h:iD t):t.sz<=10:=by
 have:=aa.cV t;have hn:=h.n;rw[h.k,h.l]at this;simp only[bH]at this;omega
structure mr (t:aa):Prop where
 text:(cF 5 t).length<=87
 size:t.sz<=200
theorem iD.term{t:aa}(h:iD t):mr t:=⟨by have:=h.text 5;omega,by have:=h.size;omega⟩
theorem mr.mid{t:aa}(h1:t.Kids.length<=3)(h2:∀x∈t.Kids,iD x)(h3:t.bn.length<=3)(h4:∀x∈t.bn,x.length<=3)(h5:t.Name=[]):mr t:=by
 have e1:=lh List.length 16 (t.Kids.map (cF 4)) (fun y hy=>by
  obtain⟨x,hx,rfl⟩:=xa.1 hy;exact(h2 x hx).text 4)
 have e2:=lh List.length 3 t.bn h4;have e3:=lh aa.sz 10 t.Kids fun x hx=>(h2 x hx).size
 have e4:=aa.cV t;have e5:=TF t (t.Kids.map (cF 4));rw[h5]at e4 e5;rw[eJ]at e1 e5;simp only[aJ]at e4 e5;exact⟨by show(bodyT t (t.Kids.map (cF 4))).length<=87;omega,by omega⟩
structure mw (x:ai):Prop where
 text:(jv cz x).length<=300
 size:x.sz<=2000
structure jf (p:aI):Prop where
 pk:p.bD.length<=5
 n:p.Name.length<=5
 v:p.Version.length<=5
theorem jf.text{p:aI}(h:jf p):(cz p).length<=18:=by
 have:=h.pk;have:=h.n;have:=h.v;unfold cz;cases (p.bD==[])<;>cases (p.Version==[])<;>simp<;>omega
theorem jf.size{p:aI}(h:jf p):p.sz<=20:=by
 have:=aI.cV p;have:=h.pk;have:=h.n;have:=h.v;omega
theorem jf.zero:jf aI.zero:=⟨by decide,by decide,by decide⟩
theorem mw.of{x:ai}(h1:x.Name.length<=3)(h2:jf x.From)(h3:x.Uses.length<=1)(h4:∀u∈x.Uses,u.Name.length<=3/\u.As.length<=4)(h5:x.Params.length<=2)(h6:∀p∈x.Params,p.Name.length<=2/\mr p.Term)(h7:mr x.Term):mw x:=by
 have u1:=lh List.length 11 (x.Uses.map iP) (fun y hy=>by
  obtain⟨u,hu,rfl⟩:=xa.1 hy;obtain⟨a,b⟩:=h4 u hu;unfold iP;cases (u.As==[])<;>simp<;>omega)
 have u2:=lh aX.sz 10 x.Uses (fun u hu=>by
  obtain⟨a,b⟩:=h4 u hu;have:=aX.cV u;omega)
 have p1:=lh List.length 91 (x.Params.map im) (fun y hy=>by
  obtain⟨u,hu,rfl⟩:=xa.1 hy;obtain⟨a,b⟩:=h6 u hu;have:=b.text;unfold im;simp only[aE,aC,aJ];omega)
 have p2:=lh aV.sz 210 x.Params (fun u hu=>by
  obtain⟨a,b⟩:=h6 u hu;have:=aV.cV u;have:=b.size;omega)
 rw[eJ]at u1 p1;have j1:=jL (x.Uses.map iP);have j2:=jL (x.Params.map im);rw[eJ]at j1 j2;have hh:(nY x).length<=11:=by unfold nY;cases x.Async<;>simp<;>omega
 have ht:=h7.text;have hs:=h7.size;have hp:=h2.text;have hps:=h2.size;have hz:=ai.cV x;refine⟨?_,by omega⟩;have:(ki cz x).length<=296:=by
  unfold ki uy;cases (x.Kind==1)<;>cases (x.Kind==2)<;>cases (x.Kind==4)<;>cases (x.Term.Kind !=1)<;>simp only[ad,al,aE,aC,aJ]<;>omega
 unfold jv;simp only[aE,aC,aJ];omega
structure uC (f:aG):Prop where
 n:f.Name.length<=5
 c:f.Items.length<=6
 i:∀x∈f.Items,mw x
theorem uC.text{f:aG}(h:uC f):(iq cz f).length<=1830:=by
 have h1:=lO (jv cz) f.Items;have h2:=lh (fun x=>(jv cz x).length) 300 f.Items fun x hx=>(h.i x hx).text
 have:=h.n;have:=h.c;unfold iq;simp only[aE,aC,aJ];omega
theorem uC.size{f:aG}(h:uC f):f.sz<=13000:=by
 have h1:=aG.cV f;have h2:=lh ai.sz 2000 f.Items fun x hx=>(h.i x hx).size
 have:=h.n;have:=h.c;omega
structure yU (x:aO):Prop where
 p:jf x.Path
theorem yU.text{x:aO}(h:yU x):(jx cz x).length<=30:=by
 have h2:=Fg x.Kind;have h3:=h.p.text;unfold jx;simp only[aE,aC,aJ];omega
structure B6 (f:aQ):Prop where
 n:f.Name.length<=4
 c:f.Items.length<=3
 i:∀x∈f.Items,yU x
theorem B6.text{f:aQ}(h:B6 f):(worldT cz f).length<=110:=by
 have h1:=lO (jx cz) f.Items;have h2:=lh (fun x=>(jx cz x).length) 30 f.Items fun x hx=>(h.i x hx).text
 have:=h.n;have:=h.c;unfold worldT;simp only[aE,aC,aJ];omega
theorem B6.size{f:aQ}(h:B6 f):f.sz<=200:=by
 have h1:=aQ.cV f;have h2:=lh aO.sz 30 f.Items fun x hx=>by
  have:=aO.cV x;have:=(h.i x hx).p.size;omega
 have:=h.n;have:=h.c;omega
def B7(n:List UInt8):Prop:=n=[98,97,115,101]\/n=[119,97,114,100]\/n=[108,97,98]
structure oa (x:aw):Prop where
 n:B7 x.Name
 v:x.Version.length<=5
 fc:x.aD.length<=2
 f:∀f∈x.aD,uC f
 wc:x.Worlds.length<=1
 w:∀f∈x.Worlds,B6 f
theorem B7.len{n:List UInt8}(h:B7 n):n.length<=4:=by
 rcases h with rfl|rfl|rfl<;>decide
theorem oa.text{x:aw}(h:oa x):(fj cz x).length<=3900:=by
 have f1:=lO (iq cz) x.aD;have f2:=lh (fun x=>(iq cz x).length) 1830 x.aD fun y hy=>(h.f y hy).text
 have f3:=lO (worldT cz) x.Worlds;have f4:=lh (fun x=>(worldT cz x).length) 110 x.Worlds fun y hy=>(h.w y hy).text
 have:=h.n.len;have:=h.v;have:=h.fc;have:=h.wc;unfold fj firstT;simp only[aE,aC,aJ];omega
theorem oa.size{x:aw}(h:oa x):x.sz<=30000:=by
 have h1:=aw.cV x;have f2:=lh aG.sz 13000 x.aD fun y hy=>(h.f y hy).size
 have f4:=lh aQ.sz 200 x.Worlds fun y hy=>(h.w y hy).size
 have:=h.n.len;have:=h.v;have:=h.fc;have:=h.wc;omega
end M
namespace M
open Go.V (inB bS ar ae bf)
structure dx (s:aR) (m:Int):Prop where
 c:s.code.length<=1048576
 lo:0<=s.at_
 hi:s.at_<=m
theorem dx.up{s:aR}{m k:Int}(h:dx s m)(hk:m<=k):dx s k:=⟨h.c,h.lo,by have:=h.hi;omega⟩
theorem aiB(x:Int):0<=Go.IntKind.wrap .i64 (Go.V.oD .and .u64 x 255):=by
 have h:(BitVec.ofInt 64 x&&& BitVec.ofInt 64 255).toNat<=255:=by
  rw[BitVec.toNat_and];exact Nat.and_le_right
 have e:Go.V.oD .and .u64 x 255=(((BitVec.ofInt 64 x&&& BitVec.ofInt 64 255).toNat:Nat):Int):=by
  unfold Go.V.oD
  show Go.IntKind.wrap .u64 (((BitVec.ofInt 64 x&&& BitVec.ofInt 64 255).toNat:Nat):Int)=_
  exact Go.IntWalk.u64_in _ ⟨by omega,by omega⟩
 rw[e,wrap_i64 (by omega) (by omega)];omega
theorem aiC{s:aR}{m:Int}(h:dx s m)(hm:m<=1000000000000):∃v s',M.wi s=some (v,s')/\dx s' (m+1)/\0<=v:=by
 obtain⟨hc,hlo,hhi⟩:=h;have hw:Go.IntKind.wrap .i64 (s.at_+1)=s.at_+1:=wrap_i64 (by omega) (by omega);have hin:((inB s.at_ s.code.length&&true)|| !decide (s.at_<((s.code.length:Nat):Int)))=true:=by
  obtain⟨n,hn⟩:=kj hlo;rw[hn,cZ,bM];by_cases hh:n<s.code.length
  ·rw[cN hh];rfl
  ·rw[cY hh,cY (by omega)];rfl
 unfold M.wi;simp only[hw,hin,bj,ad];have hv:(0:Int)<=(bif decide (s.at_<((s.code.length:Nat):Int))then Go.IntKind.wrap .i64 (((s.code.getD s.at_.toNat 0).toNat:Nat):Int)else 0):=by
  cases decide (s.at_<((s.code.length:Nat):Int))with
  |false=>exact Int.le_refl _
  |true=>
   have:=(s.code.getD s.at_.toNat 0).toNat_lt;simp only[ad];rw[wrap_i64 (by omega) (by omega)];omega
 cases decide (s.at_+1<=((s.code.length:Nat):Int))with
 |true=>exact⟨_,_,rfl,⟨hc,by simp only[];omega,by simp only[];omega⟩,hv⟩
 |false=>exact⟨_,_,rfl,⟨hc,by simp only[];omega,by simp only[];omega⟩,aiB _⟩
theorem ky{s:aR}{m:Int}(h:dx s m)(hm:m<=1000000000000)(n:Int)(h1:1<=n)(h2:n<=200):∃v s',M.dj n s=some (v,s')/\dx s' (m+1)/\0<=v/\v<n:=by
 by_cases hn1:n=1
 ·subst hn1;unfold M.dj;rw[cN (show(1:Int)<=1 by omega)];exact⟨0,s,rfl,h.up (by omega),by omega,by omega⟩
 ·obtain⟨v,s',e,g1,g2⟩:=aiC h hm;unfold M.dj;rw[cY (show ¬n<=1 by omega),cY (show ¬(200:Int)<n by omega)];have hn:(n !=0)=true:=by simp;omega
  simp only[e,hn,al,ak,an,bM,bj,ad];exact⟨_,_,rfl,g1,Int.tmod_nonneg _ g2,Int.tmod_lt_of_pos _ (by omega)⟩
theorem mx{s:aR}{m:Int}(h:dx s m)(hm:m<=1000000000000)(n:Int)(h1:1<=n)(h2:n<=200):∃v s',M.jg n s=some (v,s')/\dx s' (m+1):=by
 obtain⟨v,s',e,g1,-⟩:=ky h hm n h1 h2;unfold M.jg;simp only[e,ak,an,bM,ad];exact⟨_,_,rfl,g1⟩
theorem FB{s:aR}{m:Int}(h:dx s m)(hm:m<=1000000000000)(l:List (List UInt8))(h1:1<=l.length)(h2:l.length<=200):∃v s',M.sd s l=some (v,s',l)/\dx s' (m+1)/\v∈l:=by
 obtain⟨v,s',e,g1,g2,g3⟩:=ky h hm (l.length:Int) (by omega) (by omega);unfold M.sd;obtain⟨k,rfl⟩:=kj g2;have hk:k<l.length:=by omega
 have hin:inB (k:Int) l.length=true:=by rw[cZ];simpa using hk
 simp only[e,hin,ak,an,bM,bj,ad,bN,getD_lt hk];exact⟨_,_,rfl,g1,dt hk⟩
theorem TG{s:aR}{m:Int}(h:dx s m)(hm:m<=1000000000000)(l:List Int)(h1:1<=l.length)(h2:l.length<=200):∃v s',M.wk l s=some (v,s')/\dx s' (m+1)/\v∈l:=by
 obtain⟨v,s',e,h',h3,h4⟩:=ky h hm (l.length:Int) (by omega) (by omega);obtain⟨k,rfl⟩:=kj h3;have hk:k<l.length:=by omega
 have hin:inB (k:Int) l.length=true:=by rw[cZ];simpa using hk
 unfold M.wk;simp only[e,ak,an,hin,bN,getD_lt hk,aj,ad];exact⟨l[k],s',rfl,h',dt hk⟩
theorem db{α:Type}(a b:α):(bif true then a else b)=a:=id rfl
theorem fW{α:Type}(a b:α):(bif false then a else b)=b:=id rfl
abbrev yV :=Int->M.aR->(List (List UInt8))->Option (Int×(List UInt8)×M.aR×(List (List UInt8))×(List (List UInt8))×(List M.aa))
def od(t:aa)(s:aR)(n:List (List UInt8)):Int×(List UInt8)×M.aR×(List (List UInt8))×(List (List UInt8))×(List M.aa):=(t.Kind,t.Name,s,n,t.bn,t.Kids)
structure se (n:List (List UInt8)):Prop where
 c:n.length<=20
 n:∀x∈n,x.length<=4
def FC(rec:yV):Prop:=∀(s:aR)(m:Int)(n:List (List UInt8)),dx s m->m<=100000000000->se n->∃t s',rec 1 s n=some (od t s' n)/\dx s' (m+3)/\iD t
theorem aiD(rec:yV)(s:aR)(m:Int)(n:List (List UInt8))(h:dx s m)(hm:m<=100000000000)(hn:se n):∃t s',M.yW rec 1 s n=some (od t s' n)/\dx s' (m+3)/\iD t:=by
 have d1:decide ((1:Int)<=1)=true:=rfl;unfold M.yW;simp only[d1,db];by_cases hl:0<n.length
 ·have d2:decide ((0:Int)<(n.length:Int))=true:=cN (by omega);obtain⟨v,s1,e1,g1⟩:=mx h (by omega) 2 (by omega) (by omega);simp only[d2,e1,ak,an,db];cases v with
  |true=>
   obtain⟨x,s2,e2,g2,hx⟩:=FB g1 (by omega) n hl (by have:=hn.c;omega);simp only[e2,ak,an,db];exact⟨aa.mk 30 x [] [],s2,rfl,g2.up (by omega),⟨rfl,rfl,hn.n x hx⟩⟩
  |false=>
   obtain⟨x,s2,e2,g2,-⟩:=ky g1 (by omega) 10 (by omega) (by omega);simp only[e2,ak,an,db,fW];exact⟨aa.mk _ [] [] [],s2,rfl,g2.up (by omega),⟨rfl,rfl,cM _⟩⟩
 ·have d2:decide ((0:Int)<(n.length:Int))=false:=cY (by omega);obtain⟨x,s2,e2,g2,-⟩:=ky h (by omega) 10 (by omega) (by omega);simp only[d2,e2,ak,an,db,fW];exact⟨aa.mk _ [] [] [],s2,rfl,g2.up (by omega),⟨rfl,rfl,cM _⟩⟩
theorem B8:Go.IntKind.wrap Go.IntKind.i64 ((2:Int)-1)=1:=by decide
theorem uD(t:aa):aa.mk t.Kind t.Name t.bn t.Kids=t:=by cases t;rfl
theorem LS{rec:yV}(hr:FC rec)(t6:Int)(t62:List UInt8)(t:Int)(t2:List UInt8)(o8:List (List UInt8))(o9:List aa)(bJ:List (List UInt8))(names:List (List UInt8))(hn:se names):
 ∀(j f k:Nat)(s:aR)(m:Int)(o:List aa),j<f->k+j=2->dx s m->m+4*(j:Int)<=10000000000->o.length=2->(∀x∈o,iD x)->
  ∃s' o',M.sf rec 2 t6 t62 t t2 o8 o9 bJ f (k:Int) s names o=some (s'.code,s'.at_,s'.seed,names,t6,t62,t,t2,o8,o9,bJ,o')/\dx s' (m+4*(j:Int))/\o'.length=2/\(∀x∈o',iD x)
 |j,0,k,s,m,o,h1,_,_,_,_,_=>by omega
 |0,f+1,k,s,m,o,h1,h2,hs,hm,hl,ho=>by
  rw[M.sf,cY (by omega)];exact⟨s,o,rfl,hs.up (by omega),hl,ho⟩
 |j+1,f+1,k,s,m,o,h1,h2,hs,hm,hl,ho=>by
  obtain⟨v,s1,e1,g1⟩:=mx hs (by omega) 2 (by omega) (by omega);have w:Go.IntKind.wrap .i64 ((k:Int)+1)=((k+1:Nat):Int):=by rw[wrap_i64 (by omega) (by omega)];omega
  rw[M.sf,cN (by omega)];simp only[db,e1,ak,an,w,B8];cases v with
  |true=>
   obtain⟨x,s2,e2,g2,hx⟩:=hr s1 (m+1) names g1 (by omega) hn;have hin:inB (k:Int) o.length=true:=by rw[cZ,hl];simp;omega
   obtain⟨s3,o3,e3,g3,h3,h4⟩:=LS hr t6 t62 t t2 o8 o9 bJ names hn j f (k+1) s2 (m+4) (o.set k x) (by omega) (by omega) (g2.up (by omega)) (by omega) (by simpa using hl) (fun y hy=>by
    rcases List.mem_or_eq_of_mem_set hy with q|q
    ·exact ho y q
    ·rw[q];exact hx)
   simp only[db,e2,hin,od,ak,an,bM,aj,bN,uD,e3];exact⟨s3,o3,rfl,g3.up (by omega),h3,h4⟩
  |false=>
   obtain⟨s3,o3,e3,g3,h3,h4⟩:=LS hr t6 t62 t t2 o8 o9 bJ names hn j f (k+1) s1 (m+4) o (by omega) (by omega) (g1.up (by omega)) (by omega) hl ho;simp only[db,fW,bM,e3];exact⟨s3,o3,rfl,g3.up (by omega),h3,h4⟩
theorem TI{rec:yV}(hr:FC rec)(n:Nat)(hn3:n<=3)(t6:Int)(t62:List UInt8)(t:Int)(t2:List UInt8)(o8:List (List UInt8))(o9:List aa)(bJ:List (List UInt8))(names:List (List UInt8))(hn:se names):
 ∀(j f k:Nat)(s:aR)(m:Int)(o:List aa),j<f->k+j=n->dx s m->m+4*(j:Int)<=10000000000->o.length=k->(∀x∈o,iD x)->
  ∃s' o',M.uE rec 2 (n:Int) t6 t62 t t2 o8 o9 bJ f (k:Int) s names o=some (s'.code,s'.at_,s'.seed,names,t6,t62,t,t2,o8,o9,bJ,o')/\dx s' (m+4*(j:Int))/\o'.length=n/\(∀x∈o',iD x)
 |j,0,k,s,m,o,h1,_,_,_,_,_=>by omega
 |0,f+1,k,s,m,o,h1,h2,hs,hm,hl,ho=>by
  rw[M.uE,cY (by omega)];exact⟨s,o,rfl,hs.up (by omega),by omega,ho⟩
 |j+1,f+1,k,s,m,o,h1,h2,hs,hm,hl,ho=>by
  have w:Go.IntKind.wrap .i64 ((k:Int)+1)=((k+1:Nat):Int):=by rw[wrap_i64 (by omega) (by omega)];omega
  obtain⟨x,s2,e2,g2,hx⟩:=hr s m names hs (by omega) hn;obtain⟨s3,o3,e3,g3,h3,h4⟩:=TI hr n hn3 t6 t62 t t2 o8 o9 bJ names hn j f (k+1) s2 (m+4) (o++[x]) (by omega) (by omega) (g2.up (by omega)) (by omega) (by simp;omega) (fun y hy=>by
   rcases de.1 hy with q|q
   ·exact ho y q
   ·rw[eI.1 q];exact hx)
  have hc:=kZ (a:=o.length) (b:=1) (by omega);rw[M.uE,cN (by omega)];simp only[db,e2,w,B8,od,ak,an,aC,aJ,dC,hc,bM,aj,uD,e3];exact⟨s3,o3,rfl,g3.up (by omega),h3,h4⟩
theorem TJ{rec:yV}(hr:FC rec)(n:Nat)(hn3:n<=3)(t6:Int)(t62:List UInt8)(t:Int)(t2:List UInt8)(o8:List (List UInt8))(o9:List aa)(bJ:List (List UInt8))(names:List (List UInt8))(hn:se names):
 ∀(j f k:Nat)(s:aR)(m:Int)(o:List aa),j<f->k+j=n->dx s m->m+4*(j:Int)<=10000000000->o.length=k->(∀x∈o,iD x)->
  ∃s' o',M.po rec 2 (n:Int) t6 t62 t t2 o8 o9 bJ f (k:Int) s names o=some (s'.code,s'.at_,s'.seed,names,t6,t62,t,t2,o8,o9,bJ,o')/\dx s' (m+4*(j:Int))/\o'.length=n/\(∀x∈o',iD x)
 |j,0,k,s,m,o,h1,_,_,_,_,_=>by omega
 |0,f+1,k,s,m,o,h1,h2,hs,hm,hl,ho=>by
  rw[M.po,cY (by omega)];exact⟨s,o,rfl,hs.up (by omega),by omega,ho⟩
 |j+1,f+1,k,s,m,o,h1,h2,hs,hm,hl,ho=>by
  have w:Go.IntKind.wrap .i64 ((k:Int)+1)=((k+1:Nat):Int):=by rw[wrap_i64 (by omega) (by omega)];omega
  have hc:=kZ (a:=o.length) (b:=1) (by omega);have next:∀(x:aa)(s2:aR),iD x->dx s2 (m+4)->∃s' o',M.po rec 2 (n:Int) t6 t62 t t2 o8 o9 bJ f ((k+1:Nat):Int) s2 names (o++[x])=some (s'.code,s'.at_,s'.seed,names,t6,t62,t,t2,o8,o9,bJ,o')/\dx s' (m+4*((j+1:Nat):Int))/\o'.length=n/\(∀x∈o',iD x):=fun x s2 hx g2=>by
   obtain⟨s3,o3,e3,g3,h3,h4⟩:=TJ hr n hn3 t6 t62 t t2 o8 o9 bJ names hn j f (k+1) s2 (m+4) (o++[x]) (by omega) (by omega) g2 (by omega) (by simp;omega) (fun y hy=>by
    rcases de.1 hy with q|q
    ·exact ho y q
    ·rw[eI.1 q];exact hx)
   exact⟨s3,o3,e3,g3.up (by omega),h3,h4⟩
  rw[M.po,cN (by omega)];cases ht:(t==17)
  ·obtain⟨x,s2,e2,g2,hx⟩:=hr s m names hs (by omega) hn;obtain⟨s3,o3,e3,r⟩:=next x s2 hx (g2.up (by omega))
   simp only[db,fW,e2,w,B8,od,ak,an,aC,aJ,dC,hc,bM,aj,uD,e3,cr];exact⟨s3,o3,rfl,r⟩
  ·obtain⟨v,s1,e1,g1⟩:=mx hs (by omega) 3 (by omega) (by omega);simp only[db,e1,ak,an,w,B8,cr,bM,aj];cases v with
   |true=>
    obtain⟨s3,o3,e3,r⟩:=next (aa.mk 1 [] [] []) s1 ⟨rfl,rfl,cM _⟩ (g1.up (by omega))
    simp only[db,aC,aJ,dC,hc,e3];exact⟨s3,o3,rfl,r⟩
   |false=>
    obtain⟨x,s2,e2,g2,hx⟩:=hr s1 (m+1) names g1 (by omega) hn;obtain⟨s3,o3,e3,r⟩:=next x s2 hx (g2.up (by omega))
    simp only[db,fW,e2,od,ak,an,aC,aJ,dC,hc,bM,aj,uD,e3];exact⟨s3,o3,rfl,r⟩
theorem aiE(j:Int)(h0:0<=j)(h3:j<3):bS (0:Int) (1+j) 3=true/\(List.drop (Int.toNat (0:Int)) (List.take (Int.toNat (1+j)) [[(97:UInt8)],[(98:UInt8)],[(99:UInt8),(45:UInt8),(100:UInt8)]])).length<=3/\∀x∈(List.drop (Int.toNat (0:Int)) (List.take (Int.toNat (1+j)) [[(97:UInt8)],[(98:UInt8)],[(99:UInt8),(45:UInt8),(100:UInt8)]])),x.length<=3:=by
 have:j=0\/j=1\/j=2:=by omega
 rcases this with rfl|rfl|rfl<;>decide
theorem TK{a b:Int}(h:a=b):(a==b)=true:=by rw[h];exact cr b
theorem TL{a b:Int}(h:¬a=b):(a==b)=false:=by rw[cL];exact h
theorem aiF{rec:yV}(hr:FC rec)(s:aR)(m:Int)(n:List (List UInt8))(h:dx s m)(hm:m<=1000000000)(hn:se n):∃t s',M.yW rec 2 s n=some (od t s' n)/\dx s' (m+40)/\mr t:=by
 have d1:decide ((2:Int)<=1)=false:=rfl;have hb:=bf;unfold M.yW;simp only[d1,fW];obtain⟨v,s1,e1,g1⟩:=mx h (by omega) 3 (by omega) (by omega);simp only[e1,ak,an];cases v with
 |true=>
  simp only[db];by_cases hl:0<n.length
  ·have d2:decide ((0:Int)<(n.length:Int))=true:=cN (by omega);obtain⟨v,s2,e2,g2⟩:=mx g1 (by omega) 2 (by omega) (by omega);simp only[d2,e2,ak,an,db];cases v with
   |true=>
    obtain⟨x,s3,e3,g3,hx⟩:=FB g2 (by omega) n hl (by have:=hn.c;omega);simp only[e3,ak,an,db];exact⟨aa.mk 30 x [] [],s3,rfl,g3.up (by omega),iD.term ⟨rfl,rfl,hn.n x hx⟩⟩
   |false=>
    obtain⟨x,s3,e3,g3,-⟩:=ky g2 (by omega) 10 (by omega) (by omega);simp only[e3,ak,an,db,fW];exact⟨aa.mk _ [] [] [],s3,rfl,g3.up (by omega),iD.term ⟨rfl,rfl,cM _⟩⟩
  ·have d2:decide ((0:Int)<(n.length:Int))=false:=cY (by omega);obtain⟨x,s2,e2,g2,-⟩:=ky g1 (by omega) 10 (by omega) (by omega);simp only[d2,e2,ak,an,db,fW];exact⟨aa.mk _ [] [] [],s2,rfl,g2.up (by omega),iD.term ⟨rfl,rfl,cM _⟩⟩
 |false=>
  obtain⟨K,s2,e2,g2,-⟩:=TG g1 (by omega) [(12:Int),(13:Int),(14:Int),(15:Int),(16:Int),(17:Int),(18:Int),(19:Int),(12:Int),(16:Int),(22:Int)] (by decide) (by decide);obtain⟨j,s3,e3,g3,j0,j3⟩:=ky g2 (by omega) 3 (by omega) (by omega);obtain⟨l1,l2,l3⟩:=aiE j j0 j3;have wj:Go.IntKind.wrap Go.IntKind.i64 ((1:Int)+j)=1+j:=wrap_i64 (by omega) (by omega);obtain⟨n3,hn3⟩:=kj (show 0<=1+j by omega);simp only[fW,e2,e3,ak,an,wj,aC,aJ,dC,Nat.reduceAdd,l1];by_cases pY:K=14
  ·obtain⟨s4,o4,e4,g4,q1,q2⟩:=LS hr 0 [] K [] [] [] [] n hn 2 ae 0 s3 (m+3) [aa.mk 1 [] [] [],aa.mk 1 [] [] []] (by omega) rfl (g3.up (by omega)) (by omega) rfl (fun x hx=>by
    rcases eY.1 hx with q|hx
    ·rw[q];exact⟨rfl,rfl,cM _⟩
    ·rw[eI.1 hx];exact⟨rfl,rfl,cM _⟩)
   have e4':M.sf rec 2 0 [] K [] [] [] [] ae 0 s3 n [aa.mk 1 [] [] [],aa.mk 1 [] [] []]=_:=e4;simp only[TK pY,db,e4',bM,aj,cr];exact⟨aa.mk K [] [] o4,s4,rfl,g4.up (by omega),mr.mid (by show o4.length<=3;omega) q2 (cM _) (fun x hx=>by cases hx) rfl⟩
  ·simp only[TL pY,fW];by_cases h15:K=15
   ·obtain⟨s4,o4,e4,g4,q1,q2⟩:=TI hr n3 (by omega) 0 [] K [] [] [] [] n hn n3 ae 0 s3 (m+3) [] (by omega) (by omega) (g3.up (by omega)) (by omega) rfl (fun x hx=>by cases hx);rw[<-hn3]at e4;have e4':M.uE rec 2 (1+j) 0 [] K [] [] [] [] ae 0 s3 n []=_:=e4;simp only[TK h15,db,e4',bM,aj,cr];exact⟨aa.mk K [] [] o4,s4,rfl,g4.up (by omega),mr.mid (by show o4.length<=3;omega) q2 (cM _) (fun x hx=>by cases hx) rfl⟩
   ·simp only[TL h15,fW];cases h16:(bif K==16 then K==16 else K==17)
    ·simp only[fW];cases h18:(bif K==18 then K==18 else K==19)
     ·obtain⟨x,s4,e4,g4,hx⟩:=hr s3 (m+3) n (g3.up (by omega)) (by omega) hn;simp only[fW,B8,e4,od,ak,an,uD,bM,aj,cr,bu,db];exact⟨aa.mk K [] [] [x],s4,rfl,g4.up (by omega),mr.mid (by show 1<=3;omega) (fun y hy=>by rw[eI.1 hy];exact hx) (cM _) (fun x hx=>by cases hx) rfl⟩
     ·have hc:=kZ (a:=0) (b:=(List.drop (Int.toNat (0:Int)) (List.take (Int.toNat (1+j)) [[(97:UInt8)],[(98:UInt8)],[(99:UInt8),(45:UInt8),(100:UInt8)]])).length) (by omega);simp only[db,bM,aj,cr,bu];simp only[dC]at hc;simp only[hc,db,eP];exact⟨aa.mk K [] _ [],s3,rfl,g3.up (by omega),mr.mid (cM _) (fun x hx=>by cases hx) l2 l3 rfl⟩
    ·obtain⟨s4,o4,e4,g4,q1,q2⟩:=TJ hr n3 (by omega) 0 [] K [] [] [] ([]++(List.drop (Int.toNat (0:Int)) (List.take (Int.toNat (1+j)) [[(97:UInt8)],[(98:UInt8)],[(99:UInt8),(45:UInt8),(100:UInt8)]]))) n hn n3 ae 0 s3 (m+3) [] (by omega) (by omega) (g3.up (by omega)) (by omega) rfl (fun x hx=>by cases hx);rw[<-hn3]at e4;have e4':M.po rec 2 (1+j) 0 [] K [] [] [] ([]++(List.drop (Int.toNat (0:Int)) (List.take (Int.toNat (1+j)) [[(97:UInt8)],[(98:UInt8)],[(99:UInt8),(45:UInt8),(100:UInt8)]]))) ae 0 s3 n []=_:=e4;have hc:=kZ (a:=0) (b:=(List.drop (Int.toNat (0:Int)) (List.take (Int.toNat (1+j)) [[(97:UInt8)],[(98:UInt8)],[(99:UInt8),(45:UInt8),(100:UInt8)]])).length) (by omega);simp only[dC]at hc;simp only[db,e4',bM,aj,cr,bu,hc];exact⟨aa.mk K [] _ o4,s4,rfl,g4.up (by omega),mr.mid (by show o4.length<=3;omega) q2 l2 l3 rfl⟩
theorem LU(s:aR)(m:Int)(n:List (List UInt8))(h:dx s m)(hm:m<=1000000000)(hn:se n):∃t s',M.wm 2 s n=some (od t s' n)/\dx s' (m+40)/\mr t:=by
 obtain⟨g,hg⟩:∃g,ae=(g+1)+1:=⟨ae-2,by have:=bf;omega⟩;unfold M.wm;rw[hg];exact aiF (rec:=M.B9 (g+1)) (fun s m n h hm hn=>aiD _ s m n h hm hn) s m n h hm hn
end M
namespace M
open Go.V (inB bS ar ae bf)
theorem LV(k:Nat)(h1:1<=k)(h2:k<=2):∃d,M.wo (k:Int)=some d/\d.length=1:=by
 obtain⟨g,hg⟩:∃g,ae=g+1:=⟨ae-1,by have:=bf;omega⟩;unfold M.wo;rw[hg];have:k=1\/k=2:=by omega
 rcases this with rfl|rfl
 ·exact⟨[49],rfl,rfl⟩
 ·exact⟨[50],rfl,rfl⟩
theorem down(j:Nat)(h:j<=100):Go.IntKind.wrap .i64 (((j+1:Nat):Int)-1)=(j:Int):=by rw[wrap_i64 (by omega) (by omega)];omega
theorem Cb(j:Nat):decide ((0:Int)<((j+1:Nat):Int))=true:=cN (by omega)
theorem Cc:decide ((0:Int)<((0:Nat):Int))=false:=rfl
theorem TM(t8 f:List UInt8)(o7:List ai):∀(j fu:Nat)(s:aR)(m:Int)(n:List (List UInt8))(o:List ai),j<fu->j<=2->dx s m->m+40*(j:Int)<=900000000->n.length+j<=20->(∀x∈n,x.length<=4)->o.length+j<=100->
 ∃s' n' o',M.kz t8 f o7 fu (j:Int) s n o=some (s',t8,f,n',o7,o++o')/\dx s' (m+40*(j:Int))/\n'.length<=n.length+j/\(∀x∈n',x.length<=4)/\o'.length=j/\∀x∈o',mw x
 |j,0,s,m,n,o,h1,_,_,_,_,_,_=>by omega
 |0,fu+1,s,m,n,o,h1,h2,hs,hm,hn,hn4,ho=>by
  rw[M.kz,Cc];exact⟨s,n,[],by simp,hs.up (by omega),by omega,hn4,rfl,fun x hx=>by cases hx⟩
 |j+1,fu+1,s,m,n,o,h1,h2,hs,hm,hn,hn4,ho=>by
  obtain⟨d,ed,ld⟩:=LV (j+1) (by omega) h2;obtain⟨t,s1,e1,g1,ht⟩:=LU s m n hs (by omega) ⟨by omega,hn4⟩;have c1:ar [(116:UInt8),(45:UInt8)] d=true:=bh (by simp only[aC,aJ];omega);have hc:=kZ (a:=o.length) (b:=1) (by omega);have hc2:=kZ (a:=n.length) (b:=1) (by omega);obtain⟨s2,n2,o2,e2,g2,k1,k2,k3,k4⟩:=TM t8 f o7 j fu s1 (m+40) (n++[[116,45]++d]) (o++[ai.mk 2 ([116,45]++d) t [] false (aI.mk [] [] []) []]) (by omega) (by omega) g1 (by omega) (by simp;omega) (fun x hx=>by
   rcases de.1 hx with q|q
   ·exact hn4 x q
   ·rw[eI.1 q];simp;omega) (by simp;omega)
  rw[M.kz,Cb];simp only[db,e1,ed,od,ak,an,uD,aC,aJ,dC,c1,hc,hc2,bM,aj,down j (by omega),e2];refine⟨s2,n2,ai.mk 2 ([116,45]++d) t [] false (aI.mk [] [] []) []::o2,by simp,g2.up (by omega),by simp at k1;omega,k2,by simp[k3],fun x hx=>?_⟩;rcases eY.1 hx with q|q
  ·rw[q];exact mw.of (by simp;omega) jf.zero (cM _) (fun u hu=>by cases hu) (cM _) (fun u hu=>by cases hu) ht
  ·exact k4 x q
theorem TN(k:Int)(t8 f:List UInt8)(i:Int)(i2:List UInt8)(i3:Int)(i4:List UInt8)(i5:Bool)(i6 i7 i8:List UInt8)(kA oe:List ai)(oh:List (List UInt8))(oi:List aa)(oj:List aX)(n:List (List UInt8))(hn:se n):
 ∀(j fu:Nat)(s:aR)(m:Int)(o:List aV),j<fu->j<=2->dx s m->m+40*(j:Int)<=900000000->o.length+j<=100->
 ∃s' o',M.wq k t8 f i i2 i3 i4 i5 i6 i7 i8 kA oe oh oi oj fu (j:Int) s n o=some (k,s',t8,f,i,i2,i3,i4,i5,i6,i7,i8,n,kA,oe,oh,oi,o++o',oj)/\dx s' (m+40*(j:Int))/\o'.length=j/\∀p∈o',p.Name.length<=2/\mr p.Term
 |j,0,s,m,o,h1,_,_,_,_=>by omega
 |0,fu+1,s,m,o,h1,h2,hs,hm,ho=>by
  rw[M.wq,Cc];exact⟨s,[],by simp,hs.up (by omega),rfl,fun x hx=>by cases hx⟩
 |j+1,fu+1,s,m,o,h1,h2,hs,hm,ho=>by
  obtain⟨d,ed,ld⟩:=LV (j+1) (by omega) h2;obtain⟨t,s1,e1,g1,ht⟩:=LU s m n hs (by omega) hn;have c1:ar [(112:UInt8)] d=true:=bh (by simp only[aC,aJ];omega);have hc:=kZ (a:=o.length) (b:=1) (by omega);obtain⟨s2,o2,e2,g2,k3,k4⟩:=TN k t8 f i i2 i3 i4 i5 i6 i7 i8 kA oe oh oi oj n hn j fu s1 (m+40) (o++[aV.mk ([112]++d) t]) (by omega) (by omega) g1 (by omega) (by simp;omega);rw[M.wq,Cb];simp only[db,e1,ed,od,ak,an,uD,aC,aJ,dC,c1,hc,bM,aj,down j (by omega),e2];refine⟨s2,aV.mk ([112]++d) t::o2,by simp,g2.up (by omega),by simp[k3],fun x hx=>?_⟩;rcases eY.1 hx with q|q
  ·rw[q];exact⟨by simp;omega,ht⟩
  ·exact k4 x q
theorem TP(t8 f:List UInt8)(o7:List ai)(n:List (List UInt8))(hn:se n):
 ∀(j fu:Nat)(s:aR)(m:Int)(o:List ai),j<fu->j<=2->dx s m->m+200*(j:Int)<=900000000->o.length+j<=100->
 ∃s' o',M.jM fu (j:Int) s t8 f n o7 o=some (s'.code,s'.at_,s'.seed,t8,f,o7,o++o')/\dx s' (m+200*(j:Int))/\o'.length=j/\∀p∈o',mw p
 |j,0,s,m,o,h1,_,_,_,_=>by omega
 |0,fu+1,s,m,o,h1,h2,hs,hm,ho=>by
  rw[M.jM,Cc];exact⟨s,[],by simp,hs.up (by omega),rfl,fun x hx=>by cases hx⟩
 |j+1,fu+1,s,m,o,h1,h2,hs,hm,ho=>by
  have hb:=bf;obtain⟨d,ed,ld⟩:=LV (j+1) (by omega) h2;obtain⟨a,s1,e1,g1⟩:=mx hs (by omega) 4 (by omega) (by omega);obtain⟨p,s2,e2,g2,p0,p3⟩:=ky g1 (by omega) 3 (by omega) (by omega);obtain⟨pn,rfl⟩:=kj p0;obtain⟨s3,ps,e3,g3,k3,k4⟩:=TN ((j+1:Nat):Int) t8 f 3 ([102]++d) 1 [] a [] [] [] o7 o [] [] [] n hn pn ae s2 (m+2) [] (by omega) (by omega) (g2.up (by omega)) (by omega) (by simp;omega);obtain⟨b,s4,e4,g4⟩:=mx g3 (by omega) 2 (by omega) (by omega);have c1:ar [(102:UInt8)] d=true:=bh (by simp only[aC,aJ];omega);have hc:=kZ (a:=o.length) (b:=1) (by omega);have next:∀(t:aa)(s5:aR),mr t->dx s5 (m+200)->∃s' o',M.jM fu (j:Int) s5 t8 f n o7 (o++[ai.mk 3 ([102]++d) t ps a (aI.mk [] [] []) []])=some (s'.code,s'.at_,s'.seed,t8,f,o7,o++o')/\dx s' (m+200*((j+1:Nat):Int))/\o'.length=j+1/\∀p∈o',mw p:=fun t s5 ht g5=>by
   obtain⟨s6,o6,e6,g6,q1,q2⟩:=TP t8 f o7 n hn j fu s5 (m+200) (o++[ai.mk 3 ([102]++d) t ps a (aI.mk [] [] []) []]) (by omega) (by omega) g5 (by omega) (by simp;omega);refine⟨s6,ai.mk 3 ([102]++d) t ps a (aI.mk [] [] []) []::o6,by rw[e6];simp,g6.up (by omega),by simp[q1],fun x hx=>?_⟩;rcases eY.1 hx with q|q
   ·rw[q];exact mw.of (by simp;omega) jf.zero (cM _) (fun u hu=>by cases hu) (by show ps.length<=2;omega) k4 ht
   ·exact q2 x q
  rw[M.jM,Cb];simp only[db,ed,e1,e2,e3,e4,ak,an,eP];cases b with
  |true=>
   obtain⟨t,s5,e5,g5,ht⟩:=LU s4 (m+90) n (g4.up (by omega)) (by omega) hn;obtain⟨s6,o6,e6,r⟩:=next t s5 ht (g5.up (by omega))
   simp only[db,e5,od,ak,an,uD,aC,aJ,dC,c1,hc,bM,aj,down j (by omega),e6];exact⟨s6,o6,rfl,r⟩
  |false=>
   obtain⟨s6,o6,e6,r⟩:=next (aa.mk 1 [] [] []) s4 (iD.term ⟨rfl,rfl,cM _⟩) (g4.up (by omega))
   simp only[db,fW,ak,an,aC,aJ,dC,c1,hc,bM,aj,down j (by omega),e6];exact⟨s6,o6,rfl,r⟩
theorem qB(name:List UInt8)(hname:name.length<=5)(s:aR)(m:Int)(h:dx s m)(hm:m<=100000000)(n0:List (List UInt8))(hn:n0.length<=5)(hn4:∀x∈n0,x.length<=4)(i0:List ai)(hi:i0.length<=2)(hI:∀x∈i0,mw x):
 ∃v s1,M.dj 3 s=some (v,s1)/\∃y,M.kz [] name [] ae v s1 n0 i0=some y/\∃w s3,M.dj 3 y.1=some (w,s3)/\∃z,M.jM ae w s3 y.2.1 y.2.2.1 y.2.2.2.1 y.2.2.2.2.1 y.2.2.2.2.2=some z/\uC (aG.mk z.2.2.2.2.1 z.2.2.2.2.2.2)/\dx (aR.mk z.1 z.2.1 z.2.2.1) (m+500):=by
 have hb:=bf;obtain⟨v,s1,e1,g1,v0,v3⟩:=ky h (by omega) 3 (by omega) (by omega);obtain⟨vn,rfl⟩:=kj v0;obtain⟨s2,n2,o2,e2,g2,k1,k2,k3,k4⟩:=TM [] name [] vn ae s1 (m+1) n0 i0 (by omega) (by omega) g1 (by omega) (by omega) hn4 (by omega);obtain⟨w,s3,e3,g3,w0,w3⟩:=ky g2 (by omega) 3 (by omega) (by omega);obtain⟨wn,rfl⟩:=kj w0;obtain⟨s4,o4,e4,g4,q1,q2⟩:=TP [] name [] n2 ⟨by omega,k2⟩ wn ae s3 (m+90) (i0++o2) (by omega) (by omega) (g3.up (by omega)) (by omega) (by simp;omega);refine⟨_,s1,e1,_,e2,_,s3,e3,_,e4,⟨hname,?_,fun x hx=>?_⟩,g4.up (by omega)⟩
 ·simp only[aE];omega
 ·simp only[de]at hx;rcases hx with(hx|hx)|hx
  ·exact hI x hx
  ·exact k4 x hx
  ·exact q2 x hx
def aiG:ai:=ai.mk 1 [98,101,100] (aa.mk 0 [] [] []) [] false (aI.mk [] [] []) []
theorem aiH:mw aiG:=mw.of (by decide) jf.zero (cM _) (fun u hu=>by cases hu) (cM _) (fun u hu=>by cases hu) (iD.term ⟨rfl,rfl,cM _⟩)
theorem FD(u:aX)(p:aI)(hp:jf p)(h1:u.Name.length<=3)(h2:u.As.length<=4):mw (ai.mk 4 [] (aa.mk 0 [] [] []) [] false p [u]):=
 mw.of (cM _) hp (cu _) (fun v hv=>by rw[eI.1 hv];exact⟨h1,h2⟩) (cM _) (fun u hu=>by cases hu) (iD.term ⟨rfl,rfl,cM _⟩)
theorem TQ(n:List UInt8):M.nP (aX.mk n [117,115,101,100])=some [117,115,101,100]:=rfl
theorem FG(n:List UInt8):M.nP (aX.mk n [])=some n:=rfl
theorem TR{l:List aI}(h:∀x∈l,jf x)(k:Nat)(hk:k<l.length):jf (l.getD k aI.zero):=by rw[getD_lt hk];exact h _ (dt hk)
theorem Cd:∀x∈([]++[ai.mk 1 [(98:UInt8),(101:UInt8),(100:UInt8)] (aa.mk 0 [] [] []) [] false (aI.mk [] [] []) []]:List ai),mw x:=fun x hx=>by
 rw[eP]at hx;rw[eI.1 hx];exact aiH
theorem TS(name:List UInt8)(hname:name.length<=5)(s:aR)(m:Int)(h:dx s m)(hm:m<=10000000)(from_:List aI)(hfc:from_.length<=20)(TU:∀x∈from_,jf x)(given:List (List UInt8))(hgc:given.length<=5)(TV:∀x∈given,x.length<=3):
 ∃f s',M.yX name s from_ given=some (f,s',from_,given)/\dx s' (m+600)/\uC f:=by
 obtain⟨a,s1,e1,g1⟩:=mx h (by omega) 2 (by omega) (by omega);unfold M.yX;simp only[e1,ak,an];cases a with
 |true=>
  simp only[db];cases hq:(decide ((0:Int)<(from_.length:Int))&&decide ((0:Int)<(given.length:Int)))
  ·obtain⟨v,s2,e2,y,e3,w,s3,e4,z,e5,hF,hS⟩:=qB name hname s1 (m+1) g1 (by omega) ([]++[[(98:UInt8),(101:UInt8),(100:UInt8)]]) (by simp) (by simp) ([]++[ai.mk 1 [(98:UInt8),(101:UInt8),(100:UInt8)] (aa.mk 0 [] [] []) [] false (aI.mk [] [] []) []]) (by simp) Cd;simp only[fW,e2,e3,e4,e5,ak,an,cr,aj,bM,db];exact⟨_,_,rfl,hS.up (by omega),hF⟩
  ·have hfl:1<=from_.length/\1<=given.length:=by simp only[bz,ct]at hq;omega
   obtain⟨b,s2,e2,g2⟩:=mx g1 (by omega) 2 (by omega) (by omega);simp only[db,e2,ak,an];cases b with
   |false=>
    obtain⟨v,s3,e3,y,e4,w,s4,e5,z,e6,hF,hS⟩:=qB name hname s2 (m+2) (g2.up (by omega)) (by omega) ([]++[[(98:UInt8),(101:UInt8),(100:UInt8)]]) (by simp) (by simp) ([]++[ai.mk 1 [(98:UInt8),(101:UInt8),(100:UInt8)] (aa.mk 0 [] [] []) [] false (aI.mk [] [] []) []]) (by simp) Cd;simp only[fW,e3,e4,e5,e6,ak,an,cr,aj,bM,db];exact⟨_,_,rfl,hS.up (by omega),hF⟩
   |true=>
    obtain⟨x,s3,e3,g3,hx⟩:=FB g2 (by omega) given hfl.2 (by omega);obtain⟨c,s4,e4,g4⟩:=mx g3 (by omega) 2 (by omega) (by omega);simp only[db,e3,e4,ak,an];have hx3:=TV x hx;obtain⟨p,s5,e5,g5,p0,p1⟩:=ky g4 (by omega) (from_.length:Int) (by omega) (by omega);obtain⟨pn,rfl⟩:=kj p0;have hin:inB (pn:Int) from_.length=true:=by rw[cZ];simp;omega
    have hP:=TR TU pn (by omega);cases c with
    |true=>
     obtain⟨v,s6,e6,y,e7,w,s7,e8,z,e9,hF,hS⟩:=qB name hname s5 (m+5) (g5.up (by omega)) (by omega) (([]++[[(98:UInt8),(101:UInt8),(100:UInt8)]])++[[117,115,101,100]]) (by simp) (fun y hy=>by simp at hy;first|(rcases hy with rfl|rfl<;>(first|decide|omega))|(rw[hy];first|decide|omega)) (([]++[ai.mk 1 [(98:UInt8),(101:UInt8),(100:UInt8)] (aa.mk 0 [] [] []) [] false (aI.mk [] [] []) []])++[ai.mk 4 [] (aa.mk 0 [] [] []) [] false (from_.getD pn aI.zero) [aX.mk x [117,115,101,100]]]) (by simp) (fun y hy=>by
      rcases de.1 hy with q|q
      ·exact Cd _ q
      ·rw[eI.1 q];exact FD _ _ hP hx3 (by simp))
     simp only[db,TQ,e5,e6,bN,hin,e7,e8,e9,ak,an,cr,aj,bM];exact⟨_,_,rfl,hS.up (by omega),hF⟩
    |false=>
     simp only[fW,FG,ak,an];cases aiI:(!(x==[(98:UInt8),(101:UInt8),(100:UInt8)]))
     ·obtain⟨v,s6,e6,y,e7,w,s7,e8,z,e9,hF,hS⟩:=qB name hname s4 (m+5) (g4.up (by omega)) (by omega) ([]++[[(98:UInt8),(101:UInt8),(100:UInt8)]]) (by simp) (by simp) ([]++[ai.mk 1 [(98:UInt8),(101:UInt8),(100:UInt8)] (aa.mk 0 [] [] []) [] false (aI.mk [] [] []) []]) (by simp) Cd;simp only[fW,e6,e7,e8,e9,ak,an,cr,aj,bM,db];exact⟨_,_,rfl,hS.up (by omega),hF⟩
     ·obtain⟨v,s6,e6,y,e7,w,s7,e8,z,e9,hF,hS⟩:=qB name hname s5 (m+5) (g5.up (by omega)) (by omega) (([]++[[(98:UInt8),(101:UInt8),(100:UInt8)]])++[x]) (by simp) (fun y hy=>by simp at hy;first|(rcases hy with rfl|rfl<;>(first|decide|omega))|(rw[hy];first|decide|omega)) (([]++[ai.mk 1 [(98:UInt8),(101:UInt8),(100:UInt8)] (aa.mk 0 [] [] []) [] false (aI.mk [] [] []) []])++[ai.mk 4 [] (aa.mk 0 [] [] []) [] false (from_.getD pn aI.zero) [aX.mk x []]]) (by simp) (fun y hy=>by
      rcases de.1 hy with q|q
      ·exact Cd _ q
      ·rw[eI.1 q];exact FD _ _ hP hx3 (by simp))
      simp only[db,FG,e5,e6,bN,hin,e7,e8,e9,ak,an,cr,aj,bM];exact⟨_,_,rfl,hS.up (by omega),hF⟩
 |false=>
  simp only[fW];cases hq:(decide ((0:Int)<(from_.length:Int))&&decide ((0:Int)<(given.length:Int)))
  ·obtain⟨v,s2,e2,y,e3,w,s3,e4,z,e5,hF,hS⟩:=qB name hname s1 (m+1) g1 (by omega) [] (by simp) (by simp) [] (by simp) (fun x hx=>by cases hx);simp only[fW,e2,e3,e4,e5,ak,an,cr,aj,bM,db];exact⟨_,_,rfl,hS.up (by omega),hF⟩
  ·have hfl:1<=from_.length/\1<=given.length:=by simp only[bz,ct]at hq;omega
   obtain⟨b,s2,e2,g2⟩:=mx g1 (by omega) 2 (by omega) (by omega);simp only[db,e2,ak,an];cases b with
   |false=>
    obtain⟨v,s3,e3,y,e4,w,s4,e5,z,e6,hF,hS⟩:=qB name hname s2 (m+2) (g2.up (by omega)) (by omega) [] (by simp) (by simp) [] (by simp) (fun x hx=>by cases hx);simp only[fW,e3,e4,e5,e6,ak,an,cr,aj,bM,db];exact⟨_,_,rfl,hS.up (by omega),hF⟩
   |true=>
    obtain⟨x,s3,e3,g3,hx⟩:=FB g2 (by omega) given hfl.2 (by omega);obtain⟨c,s4,e4,g4⟩:=mx g3 (by omega) 2 (by omega) (by omega);simp only[db,e3,e4,ak,an];have hx3:=TV x hx;obtain⟨p,s5,e5,g5,p0,p1⟩:=ky g4 (by omega) (from_.length:Int) (by omega) (by omega);obtain⟨pn,rfl⟩:=kj p0;have hin:inB (pn:Int) from_.length=true:=by rw[cZ];simp;omega
    have hP:=TR TU pn (by omega);cases c with
    |true=>
     obtain⟨v,s6,e6,y,e7,w,s7,e8,z,e9,hF,hS⟩:=qB name hname s5 (m+5) (g5.up (by omega)) (by omega) ([]++[[117,115,101,100]]) (by simp) (fun y hy=>by simp at hy;first|(rcases hy with rfl|rfl<;>(first|decide|omega))|(rw[hy];first|decide|omega)) ([]++[ai.mk 4 [] (aa.mk 0 [] [] []) [] false (from_.getD pn aI.zero) [aX.mk x [117,115,101,100]]]) (by simp) (fun y hy=>by
      rcases de.1 hy with q|q
      ·cases q
      ·rw[eI.1 q];exact FD _ _ hP hx3 (by simp))
     simp only[db,TQ,e5,e6,bN,hin,e7,e8,e9,ak,an,cr,aj,bM];exact⟨_,_,rfl,hS.up (by omega),hF⟩
    |false=>
     simp only[fW,FG,ak,an];cases aiI:(!(x==[(98:UInt8),(101:UInt8),(100:UInt8)]))
     ·obtain⟨v,s6,e6,y,e7,w,s7,e8,z,e9,hF,hS⟩:=qB name hname s4 (m+5) (g4.up (by omega)) (by omega) [] (by simp) (by simp) [] (by simp) (fun x hx=>by cases hx);simp only[fW,e6,e7,e8,e9,ak,an,cr,aj,bM,db];exact⟨_,_,rfl,hS.up (by omega),hF⟩
     ·obtain⟨v,s6,e6,y,e7,w,s7,e8,z,e9,hF,hS⟩:=qB name hname s5 (m+5) (g5.up (by omega)) (by omega) ([]++[x]) (by simp) (fun y hy=>by simp at hy;first|(rcases hy with rfl|rfl<;>(first|decide|omega))|(rw[hy];first|decide|omega)) ([]++[ai.mk 4 [] (aa.mk 0 [] [] []) [] false (from_.getD pn aI.zero) [aX.mk x []]]) (by simp) (fun y hy=>by
      rcases de.1 hy with q|q
      ·cases q
      ·rw[eI.1 q];exact FD _ _ hP hx3 (by simp))
      simp only[db,FG,e5,e6,bN,hin,e7,e8,e9,ak,an,cr,aj,bM];exact⟨_,_,rfl,hS.up (by omega),hF⟩
end M
namespace M
open Go.V (inB bS ar ae bf)
theorem Ce{s:aR}{m:Int}(h:dx s m)(hm:m<=1000000000000)(l:List (List UInt8))(h1:1<=l.length)(h2:l.length<=200):∃v s',M.mX l s=some (v,s')/\dx s' (m+1)/\v∈l:=by
 obtain⟨v,s',e,g1,g2,g3⟩:=ky h hm (l.length:Int) (by omega) (by omega);unfold M.mX;obtain⟨k,rfl⟩:=kj g2;have hk:k<l.length:=by omega
 have hin:inB (k:Int) l.length=true:=by rw[cZ];simpa using hk
 simp only[e,hin,ak,an,bM,bj,ad,bN,getD_lt hk];exact⟨_,_,rfl,g1,dt hk⟩
theorem up1(j:Nat)(h:j<=1000):Go.IntKind.wrap .i64 ((j:Int)+1)=((j+1:Nat):Int):=by rw[wrap_i64 (by omega) (by omega)];omega
theorem TW(k:Int)(x x2:List UInt8)(out:List aw)(ho:out.length<=3)(hO:∀y∈out,oa y)(o8:List aG)(o9:List aQ):
 ∀(j fu i:Nat)(s:aR)(m:Int)(o:List aI),j<fu->i+j=out.length->dx s m->m+(j:Int)<=900000000->o.length+j<=10->(∀p∈o,jf p)->
 ∃s' o',M.uF k x x2 out o8 o9 fu (i:Int) s o=some (k,s',x,x2,out,o',o8,o9)/\dx s' (m+(j:Int))/\o'.length<=10/\∀p∈o',jf p
 |j,0,i,s,m,o,h1,_,_,_,_,_=>by omega
 |0,fu+1,i,s,m,o,h1,h2,hs,hm,hc,hp=>by
  rw[M.uF,cY (by omega)];exact⟨s,o,rfl,hs.up (by omega),by omega,hp⟩
 |j+1,fu+1,i,s,m,o,h1,h2,hs,hm,hc,hp=>by
  have hi:i<out.length:=by omega
  obtain⟨v,s1,e1,g1,hv⟩:=Ce hs (by omega) [(out.getD i aw.zero).Version,[49,46,48,46,48],[]] (by simp) (by simp);have hq:=hO _ (dt hi);have hv5:v.length<=5:=by
   rw[getD_lt hi]at hv;simp only[eY,sH,sL]at hv;rcases hv with rfl|rfl|rfl
   ·exact hq.v
   ·decide
   ·decide
  have hP:jf (aI.mk (out.getD i aw.zero).Name [116,121,112,101,115] v):=by
   rw[getD_lt hi];exact⟨by have:=hq.n.len;show out[i].Name.length<=5;omega,by simp,hv5⟩
  obtain⟨s2,o2,e2,g2,k1,k2⟩:=TW k x x2 out ho hO o8 o9 j fu (i+1) s1 (m+1) (o++[aI.mk (out.getD i aw.zero).Name [116,121,112,101,115] v]) (by omega) (by omega) g1 (by omega) (by simp;omega) (fun p hpp=>by
   rcases de.1 hpp with q|q
   ·exact hp p q
   ·rw[eI.1 q];exact hP)
  have hc1:=kZ (a:=o.length) (b:=1) (by omega);have hin:inB (i:Int) out.length=true:=by rw[cZ];simpa using hi
  rw[M.uF,cN (by omega)];simp only[db,bN,e1,ak,an,aC,aJ,dC,hc1,hin,bM,aj,up1 i (by omega),e2];exact⟨s2,o2,rfl,g2.up (by omega),k1,k2⟩
theorem main5:jf (aI.mk [] [109,97,105,110] []):=⟨by decide,by decide,by decide⟩
theorem TX(k:Int)(x x2 w:List UInt8)(out:List aw)(ho:out.length<=3)(hO:∀y∈out,oa y)(o8:List aG)(o9:List aQ):
 ∀(j fu:Nat)(s:aR)(m:Int)(o:List aO),j<fu->j<=3->dx s m->m+10*(j:Int)<=900000000->o.length+j<=3->(∀p∈o,yU p)->
 ∃s' o',M.kB k x x2 w out o8 o9 fu (j:Int) s o=some (k,s',x,x2,w,out,o8,o9,o')/\dx s' (m+10*(j:Int))/\o'.length<=3/\∀p∈o',yU p
 |j,0,s,m,o,h1,_,_,_,_,_=>by omega
 |0,fu+1,s,m,o,h1,h2,hs,hm,hc,hp=>by
  rw[M.kB,Cc];exact⟨s,o,rfl,hs.up (by omega),by omega,hp⟩
 |j+1,fu+1,s,m,o,h1,h2,hs,hm,hc,hp=>by
  obtain⟨nm,s1,e1,g1,hnm⟩:=Ce hs (by omega) [[(116:UInt8),(121:UInt8),(112:UInt8),(101:UInt8),(115:UInt8)],[(109:UInt8),(111:UInt8),(114:UInt8),(101:UInt8)]] (by simp) (by simp);have LW:nm.length<=5:=by
   simp only[eY,sH,sL]at hnm;rcases hnm with rfl|rfl<;>decide
  obtain⟨K,s2,e2,g2,-⟩:=TG g1 (by omega) [(1:Int),(2:Int),(3:Int)] (by decide) (by decide);have hc1:=kZ (a:=o.length) (b:=1) (by omega);have next:∀(p:aI)(s5:aR),jf p->dx s5 (m+10)->∃s' o',M.kB k x x2 w out o8 o9 fu (j:Int) s5 (o++[aO.mk K p])=some (k,s',x,x2,w,out,o8,o9,o')/\dx s' (m+10*((j+1:Nat):Int))/\o'.length<=3/\∀p∈o',yU p:=fun p s5 hP g5=>by
   obtain⟨s6,o6,e6,g6,q1,q2⟩:=TX k x x2 w out ho hO o8 o9 j fu s5 (m+10) (o++[aO.mk K p]) (by omega) (by omega) g5 (by omega) (by simp;omega) (fun y hy=>by
    rcases de.1 hy with q|q
    ·exact hp y q
    ·rw[eI.1 q];exact⟨hP⟩)
   exact⟨s6,o6,e6,g6.up (by omega),q1,q2⟩
  have TY:∀(nm:List UInt8)(s3:aR),nm.length<=5->1<=out.length->dx s3 (m+3)->∃(pn:Nat)(s4:aR),M.dj (out.length:Int) s3=some ((pn:Int),s4)/\inB (pn:Int) out.length=true/\∃v s5,M.mX [[],[(49:UInt8),(46:UInt8),(48:UInt8),(46:UInt8),(48:UInt8)],[(49:UInt8),(46:UInt8),(49:UInt8),(46:UInt8),(48:UInt8)]] s4=some (v,s5)/\dx s5 (m+10)/\jf (aI.mk (out.getD pn aw.zero).Name nm v):=fun nm s3 hnm h1 g3=>by
   obtain⟨p,s4,e4,g4,p0,p1⟩:=ky g3 (by omega) (out.length:Int) (by omega) (by omega);obtain⟨pn,rfl⟩:=kj p0;have hpn:pn<out.length:=by omega
   obtain⟨v,s5,e5,g5,hv⟩:=Ce g4 (by omega) [[],[(49:UInt8),(46:UInt8),(48:UInt8),(46:UInt8),(48:UInt8)],[(49:UInt8),(46:UInt8),(49:UInt8),(46:UInt8),(48:UInt8)]] (by simp) (by simp);have hq:=hO _ (dt hpn);refine⟨pn,s4,e4,by rw[cZ];simpa using hpn,v,s5,e5,g5.up (by omega),?_⟩;rw[getD_lt hpn];refine⟨by have:=hq.n.len;show out[pn].Name.length<=5;omega,hnm,?_⟩;simp only[eY,sH,sL]at hv;rcases hv with rfl|rfl|rfl<;>simp
  rw[M.kB,Cb];simp only[db,e1,e2,ak,an,down j (by omega)];by_cases hl:1<=out.length
  ·have d2:decide ((0:Int)<(out.length:Int))=true:=cN (by omega);obtain⟨b,s3,e3,g3⟩:=mx g2 (by omega) 2 (by omega) (by omega);simp only[d2,db,e3,ak,an];cases hK:(K==3)
   ·simp only[fW,cJ,lT];cases b with
    |true=>
     obtain⟨pn,s4,e4,hin,v,s5,e5,g5,hP⟩:=TY nm s3 LW hl (g3.up (by omega));obtain⟨s6,o6,e6,r⟩:=next _ s5 hP g5
     simp only[db,e4,hin,e5,bN,ak,an,aC,aJ,dC,hc1,bM,aj,cr,e6];exact⟨s6,o6,rfl,r⟩
    |false=>
     obtain⟨s6,o6,e6,r⟩:=next (aI.mk [] nm []) s3 ⟨cM _,LW,cM _⟩ (g3.up (by omega))
     simp only[fW,db,ak,an,aC,aJ,dC,hc1,bM,aj,cr,e6];exact⟨s6,o6,rfl,r⟩
   ·obtain⟨pn,s4,e4,hin,v,s5,e5,g5,hP⟩:=TY [109,97,105,110] s3 (by decide) hl (g3.up (by omega));obtain⟨s6,o6,e6,r⟩:=next _ s5 hP g5
    simp only[db,bj,ek,e4,hin,e5,bN,ak,an,aC,aJ,dC,hc1,bM,aj,cr,e6];exact⟨s6,o6,rfl,r⟩
  ·have d2:decide ((0:Int)<(out.length:Int))=false:=cY (by omega);simp only[d2,fW,Bool.and_false,cr];cases hK:(K==3)
   ·obtain⟨s6,o6,e6,r⟩:=next (aI.mk [] nm []) s2 ⟨cM _,LW,cM _⟩ (g2.up (by omega))
    simp only[fW,db,ak,an,aC,aJ,dC,hc1,bM,aj,cr,e6];exact⟨s6,o6,rfl,r⟩
   ·obtain⟨s6,o6,e6,r⟩:=next (aI.mk [] [109,97,105,110] []) s2 main5 (g2.up (by omega))
    simp only[fW,db,ak,an,aC,aJ,dC,hc1,bM,aj,cr,e6];exact⟨s6,o6,rfl,r⟩
theorem TZ:∀(j fu:Nat)(s:aR)(m:Int)(out:List aw),j<fu->j<=3->dx s m->m+2000*(j:Int)<=1000000->out.length+j<=3->(∀p∈out,oa p)->
 ∃(s':aR)(o':List aw),M.sg fu (j:Int) s out=some (s'.code,s'.at_,s'.seed,o')/\o'.length=out.length+j/\∀p∈o',oa p
 |j,0,s,m,out,h1,_,_,_,_,_=>by omega
 |0,fu+1,s,m,out,h1,h2,hs,hm,hc,hp=>by
  rw[M.sg,Cc];exact⟨s,out,rfl,rfl,hp⟩
 |j+1,fu+1,s,m,out,h1,h2,hs,hm,hc,hp=>by
  have hb:=bf;obtain⟨nm,s1,e1,g1,hnm⟩:=Ce hs (by omega) [[(98:UInt8),(97:UInt8),(115:UInt8),(101:UInt8)],[(98:UInt8),(97:UInt8),(115:UInt8),(101:UInt8)],[(119:UInt8),(97:UInt8),(114:UInt8),(100:UInt8)],[(108:UInt8),(97:UInt8),(98:UInt8)]] (by simp) (by simp);have hnd:B7 nm:=by
   simp only[eY,sH,sL]at hnm;rcases hnm with rfl|rfl|rfl|rfl
   ·exact .inl rfl
   ·exact .inl rfl
   ·exact .inr (.inl rfl)
   ·exact .inr (.inr rfl)
  obtain⟨vr,s2,e2,g2,T0⟩:=Ce g1 (by omega) [[(49:UInt8),(46:UInt8),(48:UInt8),(46:UInt8),(48:UInt8)],[(49:UInt8),(46:UInt8),(49:UInt8),(46:UInt8),(48:UInt8)],[(49:UInt8),(46:UInt8),(50:UInt8),(46:UInt8),(53:UInt8)],[(50:UInt8),(46:UInt8),(48:UInt8),(46:UInt8),(48:UInt8)],[(48:UInt8),(46:UInt8),(49:UInt8),(46:UInt8),(48:UInt8)]] (by simp) (by simp);have hv5:vr.length<=5:=by
   simp only[eY,sH,sL]at T0;rcases T0 with rfl|rfl|rfl|rfl|rfl<;>decide
  obtain⟨s3,fr,e3,g3,k1,k2⟩:=TW ((j+1:Nat):Int) nm vr out (by omega) hp [] [] out.length ae 0 s2 (m+2) [] (by omega) (by omega) (g2.up (by omega)) (by omega) (by simp;omega) (fun p hpp=>by cases hpp);have e3':M.uF ((j+1:Nat):Int) nm vr out [] [] ae 0 s2 []=_:=e3;obtain⟨f1,s4,e4,g4,hf1⟩:=TS [116,121,112,101,115] (by decide) s3 (m+10) (g3.up (by omega)) (by omega) fr (by omega) k2 [[(116:UInt8),(45:UInt8),(49:UInt8)],[(116:UInt8),(45:UInt8),(50:UInt8)]] (by decide) (by decide);obtain⟨b,s5,e5,g5⟩:=mx g4 (by omega) 2 (by omega) (by omega);have next:∀(fs:List aG)(s6:aR),fs.length<=2->(∀f∈fs,uC f)->dx s6 (m+1500)->∃(p:Int)(s7:aR),M.dj 4 s6=some (p,s7)/\∃s8 ws,M.kB ((j+1:Nat):Int) nm vr [109,97,105,110] out fs [] ae p s7 []=some (((j+1:Nat):Int),s8,nm,vr,[109,97,105,110],out,fs,[],ws)/\
   ∃(s':aR)(o':List aw),M.sg fu (j:Int) s8 (out++[aw.mk nm vr fs [aQ.mk [109,97,105,110] ws]])=some (s'.code,s'.at_,s'.seed,o')/\o'.length=out.length+(j+1)/\∀p∈o',oa p:=fun fs s6 hf1 hf2 g6=>by
   obtain⟨p,s7,e7,g7,p0,p1⟩:=ky g6 (by omega) 4 (by omega) (by omega);obtain⟨pn,rfl⟩:=kj p0;obtain⟨s8,ws,e8,g8,w1,w2⟩:=TX ((j+1:Nat):Int) nm vr [109,97,105,110] out (by omega) hp fs [] pn ae s7 (m+1501) [] (by omega) (by omega) (g7.up (by omega)) (by omega) (by simp;omega) (fun p hpp=>by cases hpp);obtain⟨s9,o9,e9,q1,q2⟩:=TZ j fu s8 (m+2000) (out++[aw.mk nm vr fs [aQ.mk [109,97,105,110] ws]]) (by omega) (by omega) (g8.up (by omega)) (by omega) (by simp;omega) (fun y hy=>by
    rcases de.1 hy with q|q
    ·exact hp y q
    ·rw[eI.1 q];exact⟨hnd,hv5,hf1,hf2,cu _,fun z hz=>by rw[eI.1 hz];exact⟨cu _,w1,w2⟩⟩)
   exact⟨_,s7,e7,s8,ws,e8,s9,o9,e9,by rw[q1];simp;omega,q2⟩
  have hc1:=kZ (a:=out.length) (b:=1) (by omega);rw[M.sg,Cb];simp only[db,e1,e2,e3',e4,e5,ak,an];cases b with
  |true=>
   obtain⟨f2,s6,e6,g6,hf2⟩:=TS [109,111,114,101] (by decide) s5 (m+700) (g5.up (by omega)) (by omega) (fr++[aI.mk [] [116,121,112,101,115] []]) (by simp;omega) (fun p hpp=>by
    rcases de.1 hpp with q|q
    ·exact k2 p q
    ·rw[eI.1 q];exact⟨by decide,by decide,by decide⟩) [[(116:UInt8),(45:UInt8),(49:UInt8)],[(116:UInt8),(45:UInt8),(50:UInt8)],[(98:UInt8),(101:UInt8),(100:UInt8)]] (by decide) (by decide)
   obtain⟨p,s7,e7,s8,ws,e8,s9,o9,e9,r⟩:=next ([f1]++[f2]) s6 (by simp) (fun f hf=>by
    rcases de.1 hf with q|q
    ·rw[eI.1 q];exact hf1
    ·rw[eI.1 q];exact hf2) (g6.up (by omega))
   have hc2:=kZ (a:=fr.length) (b:=1) (by omega);simp only[db,e6,e7,e8,ak,an,aC,aJ,dC,hc1,hc2,bM,aj,down j (by omega),e9];exact⟨s9,o9,rfl,r⟩
  |false=>
   obtain⟨p,s7,e7,s8,ws,e8,s9,o9,e9,r⟩:=next [f1] s5 (by simp) (fun f hf=>by rw[eI.1 hf];exact hf1) (g5.up (by omega))
   simp only[fW,db,e7,e8,ak,an,aC,aJ,dC,hc1,bM,aj,down j (by omega),e9];exact⟨s9,o9,rfl,r⟩
theorem aiK(code:List UInt8)(h:code.length<=1048576):∃l s',M.Cf (aR.mk code 0 0)=some (l,s')/\1<=l.length/\l.length<=3/\∀x∈l,oa x:=by
 have hb:=bf;obtain⟨v,s1,e1,g1,v0,v3⟩:=ky (s:=aR.mk code 0 0) (m:=0) ⟨h,by show(0:Int)<=0;omega,by show(0:Int)<=0;omega⟩ (by omega) 3 (by omega) (by omega);obtain⟨vn,rfl⟩:=kj v0;have w:Go.IntKind.wrap Go.IntKind.i64 ((1:Int)+(vn:Int))=((vn+1:Nat):Int):=by rw[wrap_i64 (by omega) (by omega)];omega
 obtain⟨s2,l,e2,q1,q2⟩:=TZ (vn+1) ae s1 1 [] (by omega) (by omega) g1 (by omega) (by simp;omega) (fun p hp=>by cases hp);unfold M.Cf;simp only[e1,ak,an,w,e2,bM,aj,db];exact⟨l,_,rfl,by rw[q1];simp,by rw[q1];simp;omega,q2⟩
theorem aiL:oa uB:=⟨.inl rfl,by decide,by decide,(fun f hf=>by cases hf),by decide,(fun f hf=>by cases hf)⟩
theorem aiM(code:List UInt8)(h:code.length<=1048576):∃x,M.Ci code=some x/\oa x/\g9 x (fj cz x)=true:=by
 obtain⟨l,s',e,h1,h3,hl⟩:=aiK code h;have w:Go.IntKind.wrap Go.IntKind.i64 (((l.length:Nat):Int)-1)=((l.length-1:Nat):Int):=by rw[wrap_i64 (by omega) (by omega)];omega
 have hk:l.length-1<l.length:=by omega
 have hq:=hl _ (dt hk);have hin:inB ((l.length-1:Nat):Int) l.length=true:=by rw[cZ];simpa using hk
 have hs:=hq.size;obtain⟨-,ho,-⟩:=ah4 l[l.length-1] (by omega);unfold M.Ci;simp only[e,ak,an,w,bN,getD_lt hk,ho,hin,bM,aj,db];cases hb:g9 l[l.length-1] (fj cz l[l.length-1])
 ·simp only[bo,db];exact⟨uB,rfl,aiL,aip⟩
 ·simp only[b9,fW];exact⟨_,rfl,hq,hb⟩
end M
namespace M
open Go.V (inB bS ar ae bf)
theorem aiN{x:aw}{t:List UInt8}(hx:x.sz<=1048576)(h:g9 x t=true)(hi:M.nW x=some true):M.yY x x=some true:=by
 have hd:BH x:=by
  have:=Su t;rw[(FA h).1]at this;exact this
 have e:lM (fO 5) x x=true:=(Ss x x hd).2 rfl;unfold M.yY;simp only[R9 x x hx,hi,e,ak,an,bu,aj,ad]
theorem aiO{n:List UInt8}(h:B7 n):∀y∈[(32:UInt8),111,102,32]++n,(y.toNat:Int)≠10:=by
 rcases h with rfl|rfl|rfl<;>decide
theorem aiP(code:List UInt8):M.Cj code=some true:=by
 unfold M.Cj;by_cases hc:code.length<=1048576
 ·rw[cY (show ¬(1048576:Int)<((code.length:Nat):Int) by omega)];obtain⟨x,e0,hq,hb⟩:=aiM code hc;have hs:x.sz<=1048576:=by have:=hq.size;omega
  have hT:=hq.text;have hn:=hq.n.len;have ht:=SZ x hs;have eT:M.Cm x=some (fj cz x):=by
   unfold M.Cm;simp only[Sv x _ hs ht,hb,ak,an,b9,al,aj,ad]
  have eO:M.nW x=some true:=by rw[Sz x _ hs ht,hb]
  have eS:=aiN hs hb eO;have eR:M.nQ (fj cz x)=some (x,0,0):=by rw[EW,(FA hb).1]
  have eC:M.nQ ((([(47:UInt8),47,32,111,102,32]++x.Name)++[10])++fj cz x)=some (x,0,0):=by
   have h:=aiy ([32,111,102,32]++x.Name) hb (aiO hq.n) (by simp only[aE,aC,aJ];omega);rw[EW,<-h];congr 2;simp
  obtain⟨n,hn1,hR⟩:=aiz cz hb hT;have eD:M.nQ (fj cz x++[59])=some (noPack,n,6):=by rw[EW,hR]
  have c1:ar [(47:UInt8),47,32,111,102,32] x.Name=true:=bh (by simp only[aC,aJ];omega);have c2:ar ([(47:UInt8),47,32,111,102,32]++x.Name) [10]=true:=bh (by simp only[aE,aC,aJ];omega);have c3:ar (([(47:UInt8),47,32,111,102,32]++x.Name)++[10]) (fj cz x)=true:=bh (by simp only[aE,aC,aJ];omega);have c4:ar (fj cz x) [59]=true:=bh (by simp only[aC,aJ];omega);simp only[al,e0,ak,eT,eC,eR,eD,eS,eO,c1,c2,c3,c4,an,bu,aj,bM,ad,cr,cN hn1]
 ·rw[cN (show(1048576:Int)<((code.length:Nat):Int) by omega)];rfl
end M
