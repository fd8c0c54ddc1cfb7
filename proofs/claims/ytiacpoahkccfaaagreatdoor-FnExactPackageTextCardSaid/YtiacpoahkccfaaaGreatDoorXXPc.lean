/-
  EQUALITY of terms, on both sides.
-/
import Derived.Test.YtiacpoahkccfaaaGreatDoorXXPb
import Derived.Test.YtiacpoahkccfaaaGreatDoorXXRH
import Derived.Lib.Join
set_option linter.unusedVariables false
set_option linter.unusedSimpArgs false
namespace M
open Go.V (inB bS ad bA)
def fL:Nat->aa->aa->Bool
 |0,_,_=>false
 |n+1,a,b=>((a.Kind==b.Kind)&&(a.Name==b.Name))&&(dQ (· ==·) a.bj b.bj&&dQ (fL n) a.Kids b.Kids)
def kT:Nat->aa->Prop
 |0,_=>False
 |n+1,t=>∀x∈t.Kids,kT n x
theorem qV{α:Type}{p:α->α->Bool}:∀(a b:List α),(∀x∈a,∀y,p x y=true->x=y)->dQ p a b=true->a=b
 |[],[],_,_=>rfl
 |[],_::_,_,h=>by cases h
 |_::_,[],_,h=>by cases h
 |x::a,y::b,hp,h=>by
  rw[dQ,cC]at h;rw[hp x (by simp) y h.1,qV a b (fun z hz=>hp z (by simp[hz])) h.2]
theorem Lp:∀(n:Nat)(a b:aa),fL n a b=true->a=b
 |0,_,_,h=>by cases h
 |n+1,a,b,h=>by
  rw[fL,cC,cC,cC]at h;obtain⟨⟨h1,h2⟩,h3,h4⟩:=h;have e3:=qV _ _ (fun x _ y q=>dJ.1 q) h3;have e4:=qV _ _ (fun x _ y q=>Lp n x y q) h4;have e1:=dJ.1 h1;have e2:=dJ.1 h2;cases a;cases b;cases e1;cases e2;cases e3;cases e4;rfl
theorem EU:∀(n:Nat)(a:aa),kT n a->fL n a a=true
 |0,_,h=>h.elim
 |n+1,a,h=>by
  rw[fL,de,de,qW a.bj (fun x _=>de x),qW a.Kids (fun x hx=>EU n x (h x hx))];rfl
theorem aa.AQ{a x:aa}(h:x∈a.Kids):x.sz<a.sz:=by
 rw[aa.cF a];have:=EV aa.sz _ _ h;omega
theorem Lq:∀(n:Nat)(a:aa),a.sz<n->kT n a
 |0,_,h=>absurd h (wz _)
 |n+1,a,h=>fun x hx=>Lq n x (by have:=aa.AQ hx;omega)
theorem aa.RN{a:aa}{N:Nat}(h:a.sz<=N):a.bj.length<=N:=by
 rw[aa.cF]at h;have:=dk List.length a.bj;omega
theorem aa.EW{a:aa}{N:Nat}(h:a.sz<=N):a.Kids.length<=N:=by
 rw[aa.cF]at h;have:=dk aa.sz a.Kids;omega
theorem ah1(a b:List (List UInt8))(ha:a.length<=1048576):M.AS a b=some (dQ (· ==·) a b):=by
 unfold M.AS;exact sM a b ha (fun f k hl h h'=>by
  rw[M.x5];simp only[getD_lt h,getD_lt h',cg,dH,gV,h,h',cA h (eJ ha),eO,eB,ae];cases a[k]==b[k]<;>rfl) (fun f=>by rw[M.x5];simp)
theorem RO:∀(m:Nat)(a b:aa)(n:Nat),n<=100->n<m->a.sz<=1048576->M.vt m a b (n:Int)=some (fL n a b)
 |0,a,b,n,h1,h2,h3=>absurd h2 (wz _)
 |m+1,a,b,n,h1,h2,h3=>by
  show M.EX (M.vt m) a b _=_
  unfold M.EX;rw[ah1 _ _ (aa.RN h3)];cases n with
  |zero=>rfl
  |succ n=>
   have hk:a.Kids.length<=1048576:=aa.EW h3;have d:(((n+1:Nat):Int)==0)=false:=by rw[bE];omega
   have hw:Go.IntKind.wrap .i64 (((n+1:Nat):Int)-1)=(n:Int):=by rw[wrap_i64 (by omega) (by omega)];omega
   have kids:M.AT (M.vt m) a.Kids b.Kids ((n+1:Nat):Int)=some (dQ (fL n) a.Kids b.Kids):=by
    unfold M.AT;exact sM a.Kids b.Kids hk (fun f k hl h h'=>by
     rw[M.x6];have hx:=aa.AQ (dM h);have:=RO m a.Kids[k] b.Kids[k] n (by omega) (by omega) (by omega);unfold M.EY;simp only[aa.aD,getD_lt h,getD_lt h',cg,dH,gV,h,h',cA h (eJ hk),hw,this,eO,eB,ae,al,aw];cases fL n a.Kids[k] b.Kids[k]<;>rfl) (fun f=>by rw[M.x6];simp)
   simp only[d,kids,fL,bne,aw,al,l6,du,ak,ae];cases (a.Kind==b.Kind)<;>cases (a.Name==b.Name)<;>cases dQ (· ==·) a.bj b.bj<;>rfl
end M
namespace M
open Go.V (inB bS ad bA)
theorem sN{α β:Type}(a:List α)(b:List β):(((a.length:Nat):Int) !=((b.length:Nat):Int))= !decide (a.length=b.length):=by
 by_cases h:a.length=b.length
 ·rw[h,aO rfl];simp
 ·have:(((a.length:Nat):Int) !=((b.length:Nat):Int))=true:=by rw[zj];omega
  rw[this,db h];rfl
theorem RP:∀(m:Nat)(a b:aa)(n:Nat),kT n a->n<=m->a.sz<=1048576->M.sO m a b=some (fL n a b)
 |0,a,b,n,h1,h2,h3=>by
  cases n with
  |zero=>exact h1.elim
  |succ n=>omega
 |m+1,a,b,n,h1,h2,h3=>by
  cases n with
  |zero=>exact h1.elim
  |succ n=>
   show M.EZ (M.sO m) a b=_
   have hk:a.Kids.length<=1048576:=aa.EW h3;have hl:a.bj.length<=1048576:=aa.RN h3;have labels:a.bj.length=b.bj.length->M.sP ad 0 a b=some (if dQ (· ==·) a.bj b.bj then .inr (a,b)else .inl false):=fun hle=>
    qX (p:=(· ==·)) (F:=fun f i=>M.sP f i a b) (e:=(a,b)) a.bj b.bj hl hle (fun f k h h'=>by
     rw[M.sP];simp only[aa.aD,getD_lt h,getD_lt h',cg,dH,gV,h,h',cA h (eJ hl),eO,eB,ae];cases a.bj[k]==b.bj[k]<;>rfl) (fun f=>by rw[M.sP];simp[aa.aD])
   have kids:a.Kids.length=b.Kids.length->M.sQ (M.sO m) ad 0 a b=some (if dQ (fL n) a.Kids b.Kids then .inr ()else .inl false):=fun hle=>
    qX (p:=fL n) (F:=fun f i=>M.sQ (M.sO m) f i a b) (e:=()) a.Kids b.Kids hk hle (fun f k h h'=>by
     rw[M.sQ];have hx:=aa.AQ (dM h);have:=RP m a.Kids[k] b.Kids[k] n (h1 _ (dM h)) (by omega) (by omega);simp only[aa.aD,getD_lt h,getD_lt h',cg,dH,gV,h,h',cA h (eJ hk),this,eO,eB,ae,al,aw];cases fL n a.Kids[k] b.Kids[k]<;>rfl) (fun f=>by rw[M.sQ];simp)
   unfold M.EZ;rw[fL,sN,sN];by_cases hle:a.bj.length=b.bj.length
   ·by_cases hke:a.Kids.length=b.Kids.length
    ·rw[aO hle,aO hke];simp only[bne,cO,rI,aa.aD,labels hle];cases (a.Kind==b.Kind)<;>cases (a.Name==b.Name)<;>cases hA:dQ (· ==·) a.bj b.bj<;>simp[kids hke]<;>cases hB:dQ (fL n) a.Kids b.Kids<;>simp
    ·rw[db hke,oY _ _ _ hke];simp only[bq,iz,ae,Bool.and_false]
   ·rw[db hle,oY _ _ _ hle];simp only[bq,iz,du,ae,Bool.and_false,cr]
end M
namespace M
open Go.V (inB bS ad bA)
def mW(te:aa->aa->Bool)(x y:ax):Bool:=(x.Name==y.Name)&&te x.Term y.Term
def oZ(x y:aK):Bool:=(x.Name==y.Name)&&(x.As==y.As)
def mX(x y:bf):Bool:=(x.bo==y.bo)&&((x.Name==y.Name)&&(x.Version==y.Version))
def kU(te:aa->aa->Bool)(a b:ah):Bool:=((((((a.Kind==b.Kind)&&(a.Name==b.Name))&&te a.Term b.Term)&&(a.Async==b.Async))&&mX a.From b.From)&&dQ oZ a.Uses b.Uses)&&dQ (mW te) a.Params b.Params
def mY(te:aa->aa->Bool)(a b:aE):Bool:=(a.Name==b.Name)&&dQ (kU te) a.Items b.Items
def pd(a b:aG):Bool:=(a.Kind==b.Kind)&&mX a.Path b.Path
def mZ(a b:aJ):Bool:=(a.Name==b.Name)&&dQ pd a.Items b.Items
def lR(te:aa->aa->Bool)(a b:aA):Bool:=(((a.Name==b.Name)&&(a.Version==b.Version))&&dQ (mY te) a.aF b.aF)&&dQ mZ a.Worlds b.Worlds
theorem ah2(a b:List aK)(ha:a.length<=1048576):M.AU a b=some (dQ oZ a b):=by
 unfold M.AU;exact sM a b ha (fun f k hl h h'=>by
  rw[M.x7];unfold oZ;simp only[getD_lt h,getD_lt h',cg,dH,gV,h,h',cA h (eJ ha),eO,eB,ae];cases ((a[k].Name==b[k].Name)&&(a[k].As==b[k].As))<;>rfl) (fun f=>by rw[M.x7];simp)
theorem ah3(a b:List aG)(ha:a.length<=1048576):M.AW a b=some (dQ pd a b):=by
 unfold M.AW;exact sM a b ha (fun f k hl h h'=>by
  rw[M.x8];unfold pd mX;simp only[getD_lt h,getD_lt h',cg,dH,gV,h,h',cA h (eJ ha),eO,eB,ae];cases ((a[k].Kind==b[k].Kind)&&((a[k].Path.bo==b[k].Path.bo)&&((a[k].Path.Name==b[k].Path.Name)&&(a[k].Path.Version==b[k].Path.Version))))<;>rfl) (fun f=>by rw[M.x8];simp)
theorem RQ(a b:aa)(h:a.sz<=1048576):M.x9 a b 5=some (fL 5 a b):=RO ad a b 5 (by omega) (by have:=bA;omega) h
theorem ah4(x y:ax)(h:x.Term.sz<=1048576):M.AX x y=some (mW (fL 5) x y):=by
 unfold M.AX mW;simp only[aa.aD,RQ _ _ h,aw,al,du,ak,ae]
theorem ah5(a b:List ax)(ha:a.length<=1048576)(hs:∀x∈a,x.Term.sz<=1048576):M.AY a b=some (dQ (mW (fL 5)) a b):=by
 unfold M.AY;exact sM a b ha (fun f k hl h h'=>by
  rw[M.ya];simp only[ax.aD,getD_lt h,getD_lt h',cg,dH,gV,h,h',cA h (eJ ha),ah4 _ _ (hs _ (dM h)),eO,eB,ae,al,aw];cases mW (fL 5) a[k] b[k]<;>rfl) (fun f=>by rw[M.ya];simp)
theorem ah6(a b:ah)(h:a.sz<=1048576):M.AZ a b=some (kU (fL 5) a b):=by
 have hs:=ah.cF a;have l1:=dk ax.sz a.Params;have l2:=dk aK.sz a.Uses;unfold M.AZ kU mX;simp only[aa.aD,RQ a.Term b.Term (by omega),ah2 a.Uses b.Uses (by omega),ah5 a.Params b.Params (by omega) (fun x hx=>by
  have:=dX ax.sz a.Params x hx;have:=ax.cF x;omega),aw,al,du,ak,eB,ae]
theorem ah7(a b:List ah)(ha:a.length<=1048576)(hs:∀x∈a,x.sz<=1048576):M.A2 a b=some (dQ (kU (fL 5)) a b):=by
 unfold M.A2;exact sM a b ha (fun f k hl h h'=>by
  rw[M.yb];simp only[ah.aD,getD_lt h,getD_lt h',cg,dH,gV,h,h',cA h (eJ ha),ah6 _ _ (hs _ (dM h)),eO,eB,ae,al,aw];cases kU (fL 5) a[k] b[k]<;>rfl) (fun f=>by rw[M.yb];simp)
theorem ah8(a b:aE)(h:a.sz<=1048576):M.A3 a b=some (mY (fL 5) a b):=by
 have hs:=aE.cF a;have l1:=dk ah.sz a.Items;unfold M.A3 mY;simp only[ah7 a.Items b.Items (by omega) (fun x hx=>by have:=dX ah.sz a.Items x hx;omega),aw,al,du,ak,ae]
theorem ah9(a b:List aE)(ha:a.length<=1048576)(hs:∀x∈a,x.sz<=1048576):M.A4 a b=some (dQ (mY (fL 5)) a b):=by
 unfold M.A4;exact sM a b ha (fun f k hl h h'=>by
  rw[M.yc];simp only[getD_lt h,getD_lt h',cg,dH,gV,h,h',cA h (eJ ha),ah8 _ _ (hs _ (dM h)),eO,eB,ae,al,aw];cases mY (fL 5) a[k] b[k]<;>rfl) (fun f=>by rw[M.yc];simp)
theorem aia(a b:aJ)(h:a.sz<=1048576):M.A5 a b=some (mZ a b):=by
 have hs:=aJ.cF a;have l1:=dk aG.sz a.Items;unfold M.A5 mZ;simp only[ah3 a.Items b.Items (by omega),aw,al,du,ak,ae]
theorem aib(a b:List aJ)(ha:a.length<=1048576)(hs:∀x∈a,x.sz<=1048576):M.A6 a b=some (dQ mZ a b):=by
 unfold M.A6;exact sM a b ha (fun f k hl h h'=>by
  rw[M.yd];simp only[getD_lt h,getD_lt h',cg,dH,gV,h,h',cA h (eJ ha),aia _ _ (hs _ (dM h)),eO,eB,ae,al,aw];cases mZ a[k] b[k]<;>rfl) (fun f=>by rw[M.yd];simp)
theorem aic(a b:aA)(h:a.sz<=1048576):M.A7 a b=some (lR (fL 5) a b):=by
 have hs:=aA.cF a;have l1:=dk aE.sz a.aF;have l2:=dk aJ.sz a.Worlds;unfold M.A7 lR;simp only[ah9 a.aF b.aF (by omega) (fun x hx=>by have:=dX aE.sz a.aF x hx;omega),aib a.Worlds b.Worlds (by omega) (fun x hx=>by have:=dX aJ.sz a.Worlds x hx;omega),aw,al,du,ak,ae]
end M
namespace M
open Go.V (inB bS ad bA)
def jh(a b:aa):Bool:=fL (a.sz+1) a b
theorem Lr(a b:aa):jh a b=true↔a=b:=⟨Lp _ _ _,fun h=>by subst h;exact EU _ _ (Lq _ _ (by omega))⟩
theorem RR(a b:aa)(h:a.sz<=1048576):M.A8 a b=some (jh a b):=RP ad a b (a.sz+1) (Lq _ _ (by omega)) (by have:=bA;omega) h
theorem aid(a b:ah)(h:a.sz<=1048576):M.A9 a b=some (kU jh a b):=by
 have hs:=ah.cF a;have l1:=dk ax.sz a.Params;have l2:=dk aK.sz a.Uses;have hp:a.Params.length<=1048576:=by omega
 have hu:a.Uses.length<=1048576:=by omega
 have params:a.Params.length=b.Params.length->M.sR ad 0 a b=some (if dQ (mW jh) a.Params b.Params then .inr (a,b)else .inl false):=fun hle=>
  qX (p:=mW jh) (F:=fun f i=>M.sR f i a b) (e:=(a,b)) a.Params b.Params hp hle (fun f k h h'=>by
   have z1:=dX ax.sz a.Params _ (dM h);have z2:=ax.cF a.Params[k];rw[M.sR];unfold mW;simp only[ah.aD,aa.aD,getD_lt h,getD_lt h',cg,dH,gV,h,h',cA h (eJ hp),RR _ _ (show a.Params[k].Term.sz<=1048576 by omega),eO,eB,du,ae,al,aw];cases (a.Params[k].Name==b.Params[k].Name)<;>cases jh a.Params[k].Term b.Params[k].Term<;>rfl) (fun f=>by rw[M.sR];simp[ah.aD])
 have uses:a.Uses.length=b.Uses.length->M.sS ad 0 a b=some (if dQ oZ a.Uses b.Uses then .inr ()else .inl false):=fun hle=>
  qX (p:=oZ) (F:=fun f i=>M.sS f i a b) (e:=()) a.Uses b.Uses hu hle (fun f k h h'=>by
   rw[M.sS];unfold oZ;simp only[ah.aD,getD_lt h,getD_lt h',cg,dH,gV,h,h',cA h (eJ hu),eO,eB,ae];cases (a.Uses[k].Name==b.Uses[k].Name)<;>cases (a.Uses[k].As==b.Uses[k].As)<;>rfl) (fun f=>by rw[M.sS];simp)
 unfold M.A9 kU;rw[sN,sN];have aie:(((a.From.bo==b.From.bo)&&((a.From.Name==b.From.Name)&&((a.From.Version==b.From.Version)&&true))))=mX a.From b.From:=by unfold mX;rw[eB]
 simp only[aa.aD,ah.aD,RR a.Term b.Term (by omega),aw,al,aie,bne,du,ak];by_cases hle:a.Params.length=b.Params.length
 ·by_cases hue:a.Uses.length=b.Uses.length
  ·rw[aO hle,aO hue,params hle];cases hA:dQ (mW jh) a.Params b.Params<;>cases hB:dQ oZ a.Uses b.Uses<;>simp[uses hue,hB,ah.aD]<;>cases (a.Kind==b.Kind)<;>cases (a.Name==b.Name)<;>cases jh a.Term b.Term<;>cases (a.Async==b.Async)<;>cases mX a.From b.From<;>rfl
  ·rw[db hue,oY _ _ _ hue];simp only[bq,iz,ae,Bool.and_false,cr]
 ·rw[db hle,oY _ _ _ hle];simp only[bq,iz,du,ae,Bool.and_false,cr]
end M
namespace M
open Go.V (inB bS ad bA)
theorem aif(a b:aA)(h:a.sz<=1048576)(hle:a.aF.length=b.aF.length):M.sU ad 0 a b=some (if dQ (mY jh) a.aF b.aF then .inr (a,b)else .inl false):=by
 have hs:=aA.cF a;have l1:=dk aE.sz a.aF;have hf:a.aF.length<=1048576:=by omega
 refine qX (p:=mY jh) (F:=fun f i=>M.sU f i a b) (e:=(a,b)) a.aF b.aF hf hle (fun f k h1 h2=>?_) (fun f=>by rw[M.sU];simp);have z1:=dX aE.sz a.aF _ (dM h1);have z2:=aE.cF a.aF[k];have z3:=dk ah.sz a.aF[k].Items;have hi:a.aF[k].Items.length<=1048576:=by omega
 have inner:a.aF[k].Items.length=b.aF[k].Items.length->M.sV (k:Int) a b ad 0=some (if dQ (kU jh) a.aF[k].Items b.aF[k].Items then .inr ((k:Int),a,b)else .inl false):=fun gC=>
  qX (p:=kU jh) (F:=fun f j=>M.sV (k:Int) a b f j) (e:=((k:Int),a,b)) a.aF[k].Items b.aF[k].Items hi gC (fun f j g1 g2=>by
   have y1:=dX ah.sz a.aF[k].Items _ (dM g1);rw[M.sV];simp only[ah.aD,getD_lt h1,getD_lt h2,getD_lt g1,getD_lt g2,cg,dH,gV,h1,h2,g1,g2,cA g1 (eJ hi),aid _ _ (show(a.aF[k].Items[j]).sz<=1048576 by omega),eO,eB,ae,al,aw];cases kU jh a.aF[k].Items[j] b.aF[k].Items[j]<;>rfl) (fun f=>by rw[M.sV];simp[getD_lt h1,dH,h1])
 rw[M.sU];unfold mY;simp only[getD_lt h1,getD_lt h2,cg,dH,gV,h1,h2,sN,eO,bu,du,eB,ae,ak];by_cases gC:a.aF[k].Items.length=b.aF[k].Items.length
 ·rw[aO gC,inner gC];cases (a.aF[k].Name==b.aF[k].Name)<;>cases dQ (kU jh) a.aF[k].Items b.aF[k].Items<;>simp[cA h1 (eJ hf)]
 ·rw[db gC,oY _ _ _ gC];simp only[bq,iz,ae,Bool.and_false,aj]
theorem aih(a b:aA)(h:a.sz<=1048576)(hle:a.Worlds.length=b.Worlds.length):M.sW ad 0 a b=some (if dQ mZ a.Worlds b.Worlds then .inr ()else .inl false):=by
 have hs:=aA.cF a;have l1:=dk aJ.sz a.Worlds;have hf:a.Worlds.length<=1048576:=by omega
 refine qX (p:=mZ) (F:=fun f i=>M.sW f i a b) (e:=()) a.Worlds b.Worlds hf hle (fun f k h1 h2=>?_) (fun f=>by rw[M.sW];simp);have z1:=dX aJ.sz a.Worlds _ (dM h1);have z2:=aJ.cF a.Worlds[k];have z3:=dk aG.sz a.Worlds[k].Items;have hi:a.Worlds[k].Items.length<=1048576:=by omega
 have inner:a.Worlds[k].Items.length=b.Worlds[k].Items.length->M.sX (k:Int) a b ad 0=some (if dQ pd a.Worlds[k].Items b.Worlds[k].Items then .inr ((k:Int),a,b)else .inl false):=fun gC=>
  qX (p:=pd) (F:=fun f j=>M.sX (k:Int) a b f j) (e:=((k:Int),a,b)) a.Worlds[k].Items b.Worlds[k].Items hi gC (fun f j g1 g2=>by
   rw[M.sX];unfold pd mX;simp only[getD_lt h1,getD_lt h2,getD_lt g1,getD_lt g2,cg,dH,gV,h1,h2,g1,g2,cA g1 (eJ hi),eO,eB,ae];cases ((a.Worlds[k].Items[j].Kind==b.Worlds[k].Items[j].Kind)&&((a.Worlds[k].Items[j].Path.bo==b.Worlds[k].Items[j].Path.bo)&&((a.Worlds[k].Items[j].Path.Name==b.Worlds[k].Items[j].Path.Name)&&(a.Worlds[k].Items[j].Path.Version==b.Worlds[k].Items[j].Path.Version))))<;>rfl) (fun f=>by rw[M.sX];simp[getD_lt h1,dH,h1])
 rw[M.sW];unfold mZ;simp only[getD_lt h1,getD_lt h2,cg,dH,gV,h1,h2,sN,eO,bu,du,eB,ae,ak];by_cases gC:a.Worlds[k].Items.length=b.Worlds[k].Items.length
 ·rw[aO gC,inner gC];cases (a.Worlds[k].Name==b.Worlds[k].Name)<;>cases dQ pd a.Worlds[k].Items b.Worlds[k].Items<;>simp[cA h1 (eJ hf)]
 ·rw[db gC,oY _ _ _ gC];simp only[bq,iz,ae,Bool.and_false,aj]
theorem aii(a b:aA)(h:a.sz<=1048576):M.Ba a b=some (lR jh a b):=by
 unfold M.Ba lR;rw[sN,sN];by_cases hf:a.aF.length=b.aF.length
 ·by_cases hw:a.Worlds.length=b.Worlds.length
  ·rw[aO hf,aO hw,aif a b h hf];cases (a.Name==b.Name)<;>cases (a.Version==b.Version)<;>cases hA:dQ (mY jh) a.aF b.aF<;>cases hB:dQ mZ a.Worlds b.Worlds<;>simp[aih a b h hw,hB]
  ·rw[db hw,oY _ _ _ hw];simp only[bq,iz,ae,Bool.and_false]
 ·rw[db hf,oY _ _ _ hf];simp only[bq,iz,du,ae,Bool.and_false,cr]
end M
namespace M
open Go.V (inB bS ad bA)
theorem RS(a b:bf)(h:mX a b=true):a=b:=by
 unfold mX at h;rw[cC,cC]at h;obtain⟨h1,h2,h3⟩:=h;cases a;cases b;cases dJ.1 h1;cases dJ.1 h2;cases dJ.1 h3;rfl
theorem aij(a b:aK)(h:oZ a b=true):a=b:=by
 unfold oZ at h;rw[cC]at h;cases a;cases b;cases dJ.1 h.1;cases dJ.1 h.2;rfl
theorem aik{te:aa->aa->Bool}(ht:∀a b,te a b=true->a=b)(a b:ax)(h:mW te a b=true):a=b:=by
 unfold mW at h;rw[cC]at h;cases a;cases b;cases dJ.1 h.1;cases ht _ _ h.2;rfl
theorem ail{te:aa->aa->Bool}(ht:∀a b,te a b=true->a=b)(a b:ah)(h:kU te a b=true):a=b:=by
 unfold kU at h;simp only[cC]at h;obtain⟨⟨⟨⟨⟨⟨h1,h2⟩,h3⟩,h4⟩,h5⟩,h6⟩,h7⟩:=h;have e1:=dJ.1 h1;have e2:=dJ.1 h2;have e3:=ht _ _ h3;have e4:=dJ.1 h4;have e5:=RS _ _ h5;have e6:=qV _ _ (fun x _ y q=>aij x y q) h6;have e7:=qV _ _ (fun x _ y q=>aik ht x y q) h7;cases a;cases b;cases e1;cases e2;cases e3;cases e4;cases e5;cases e6;cases e7;rfl
theorem aim{te:aa->aa->Bool}(ht:∀a b,te a b=true->a=b)(a b:aE)(h:mY te a b=true):a=b:=by
 unfold mY at h;rw[cC]at h;have e1:=dJ.1 h.1;have e2:=qV _ _ (fun x _ y q=>ail ht x y q) h.2;cases a;cases b;cases e1;cases e2;rfl
theorem ain(a b:aG)(h:pd a b=true):a=b:=by
 unfold pd at h;rw[cC]at h;have e1:=dJ.1 h.1;have e2:=RS _ _ h.2;cases a;cases b;cases e1;cases e2;rfl
theorem aio(a b:aJ)(h:mZ a b=true):a=b:=by
 unfold mZ at h;rw[cC]at h;have e1:=dJ.1 h.1;have e2:=qV _ _ (fun x _ y q=>ain x y q) h.2;cases a;cases b;cases e1;cases e2;rfl
theorem RU{te:aa->aa->Bool}(ht:∀a b,te a b=true->a=b)(a b:aA)(h:lR te a b=true):a=b:=by
 unfold lR at h;simp only[cC]at h;obtain⟨⟨⟨h1,h2⟩,h3⟩,h4⟩:=h;have e1:=dJ.1 h1;have e2:=dJ.1 h2;have e3:=qV _ _ (fun x _ y q=>aim ht x y q) h3;have e4:=qV _ _ (fun x _ y q=>aio x y q) h4;cases a;cases b;cases e1;cases e2;cases e3;cases e4;rfl
theorem RV(a:bf):mX a a=true:=by unfold mX;simp
theorem aip{te:aa->aa->Bool}(a:ah)(h1:te a.Term a.Term=true)(h2:∀p∈a.Params,te p.Term p.Term=true):kU te a a=true:=by
 unfold kU;rw[h1,RV,qW a.Uses (fun x _=>by unfold oZ;simp),qW a.Params (fun x hx=>by unfold mW;rw[h2 x hx];simp)];simp
theorem RX{te:aa->aa->Bool}(a:aA)(h:∀f∈a.aF,∀x∈f.Items,te x.Term x.Term=true/\∀p∈x.Params,te p.Term p.Term=true):lR te a a=true:=by
 unfold lR;rw[qW a.aF (fun f hf=>by unfold mY;rw[qW f.Items (fun x hx=>aip x (h f hf x hx).1 (h f hf x hx).2)];simp),qW a.Worlds (fun w _=>by unfold mZ;rw[qW w.Items (fun x _=>by unfold pd;rw[RV];simp)];simp)];simp
theorem RY(a b:aA):lR jh a b=true↔a=b:=⟨RU (fun x y h=>(Lr x y).1 h) a b,fun h=>by
 subst h;exact RX a fun f _ x _=>⟨(Lr _ _).2 rfl,fun p _=>(Lr _ _).2 rfl⟩⟩
def E0(a:aA):Prop:=∀f∈a.aF,∀x∈f.Items,kT 5 x.Term/\∀p∈x.Params,kT 5 p.Term
theorem aiq(a b:aA)(hb:E0 b):lR (fL 5) a b=true↔a=b:=⟨RU (fun x y h=>Lp 5 x y h) a b,fun h=>by
 subst h;exact RX a fun f hf x hx=>⟨EU 5 _ (hb f hf x hx).1,fun p hp=>EU 5 _ ((hb f hf x hx).2 p hp)⟩⟩
end M
namespace M
open Go.V (inB bS ad bA)
theorem Ls(d:Nat):kT (d+1) dK:=fun x hx=>by cases hx
theorem Lt(d:Nat)(K:Int)(nm:List UInt8)(ls:List (List UInt8)):kT (d+1) (aa.mk K nm ls []):=fun x hx=>by cases hx
theorem air{l:List ai}{K:Int}{g:Nat->PR aa}{P:aa->Prop}(hu:P dK)(hg:∀k t k',g k=.ok t k'->P t){k k':Nat}{v:List UInt8×List aa}(h:gK l K g k=.ok v k'):∀t∈v.2,P t:=by
 unfold gK at h;obtain⟨w,k1,_,h⟩:=bind_ok h;cases h16:(K==(16:Int))<;>rw[h16]at h
 ·cases h17:(K==(17:Int))<;>rw[h17]at h
  ·cases h;intro t ht;cases ht
  ·simp only[aj,ae]at h;cases hc:aH l [40] k1<;>rw[hc]at h
   ·cases h;intro t ht;rw[iE.1 ht];exact hu
   ·obtain⟨t0,_,h0,h⟩:=bind_ok h;obtain⟨_,_,_,h⟩:=bind_ok h;cases h;intro t ht;rw[iE.1 ht];exact hg _ _ _ h0
 ·obtain⟨_,_,_,h⟩:=bind_ok h;obtain⟨t0,_,h0,h⟩:=bind_ok h;cases h;intro t ht;rw[iE.1 ht];exact hg _ _ _ h0
theorem ais{l:List ai}{g:Nat->PR aa}{P:aa->Prop}(hu:P dK)(hg:∀k t k',g k=.ok t k'->P t){k k':Nat}{v:List aa}(h:nI l g k=.ok v k'):∀t∈v,P t:=by
 unfold nI at h;cases h60:aH l [60] k<;>rw[h60]at h
 ·cases h;intro t ht;simp only[fF,my,or_false]at ht;rcases ht with q|q<;>(rw[q];exact hu)
 ·simp only[ae]at h;obtain⟨a,k1,ha,h⟩:=bind_ok h;obtain⟨b,k2,hb,h⟩:=bind_ok h;obtain⟨_,_,_,h⟩:=bind_ok h;cases h;have pa:P a:=by
   cases h95:aH l [95] (k+1)<;>rw[h95]at ha
   ·exact hg _ _ _ ha
   ·cases ha;exact hu
  have pb:P b:=by
   cases iV:aH l [44] k1<;>rw[iV]at hb
   ·cases hb;exact hu
   ·exact hg _ _ _ hb
  intro t ht;simp only[fF,my,or_false]at ht;rcases ht with q|q<;>(rw[q];assumption)
theorem E1(l:List ai):∀(d k:Nat)(t:aa)(k':Nat),d5 l d k=.ok t k'->kT (d+1) t
 |0,k,t,k',h=>by cases h
 |d+1,k,t,k',h=>by
  rw[d5]at h;obtain⟨w,k1,_,h⟩:=bind_ok h;have ih:=E1 l d;generalize dO w=K at h;cases c0:(K==0)<;>rw[c0]at h
  ·simp only[aj]at h;cases c1:((K==12)||((K==13)||((K==22)||(K==23))))<;>rw[c1]at h
   ·simp only[aj]at h;cases c2:(K==15)<;>rw[c2]at h
    ·simp only[aj]at h;cases c3:((K==20)||(K==21))<;>rw[c3]at h
     ·simp only[aj]at h;cases c4:(K==14)<;>rw[c4]at h
      ·simp only[aj]at h;cases c5:((K==16)||((K==17)||((K==18)||(K==19))))<;>rw[c5]at h
       ·cases h;exact Lt _ _ _ _
       ·simp only[ae]at h;obtain⟨_,_,_,h⟩:=bind_ok h;obtain⟨ps,_,hp,h⟩:=bind_ok h;obtain⟨_,_,_,h⟩:=bind_ok h;cases h;have:=(vr (P:=fun v:List UInt8×List aa=>∀t∈v.2,kT (d+1) t) l _ (fun k v k' hv=>air (Ls d) ih hv) 15 [] _ ps _ (fun v hv=>by cases hv) hp).2;intro x hx;obtain⟨q,hq,hx⟩:=List.mem_flatten.1 hx;obtain⟨v,hv,rfl⟩:=List.mem_map.1 hq;exact this v hv x hx
      ·simp only[ae]at h;obtain⟨ts,_,hp,h⟩:=bind_ok h;cases h;exact ais (Ls d) ih hp
     ·simp only[ae]at h;obtain⟨_,_,_,h⟩:=bind_ok h;obtain⟨_,_,_,h⟩:=bind_ok h;obtain⟨_,_,_,h⟩:=bind_ok h;cases h;exact Lt _ _ _ _
    ·simp only[ae]at h;obtain⟨_,_,_,h⟩:=bind_ok h;obtain⟨ts,_,hp,h⟩:=bind_ok h;obtain⟨_,_,_,h⟩:=bind_ok h;cases h;exact(vr (P:=fun v=>kT (d+1) v) l _ ih 5 [] _ ts _ (fun v hv=>by cases hv) hp).2
   ·simp only[ae]at h;obtain⟨_,_,_,h⟩:=bind_ok h;obtain⟨t0,_,h0,h⟩:=bind_ok h;obtain⟨_,_,_,h⟩:=bind_ok h;cases h;intro x hx;rw[iE.1 hx];exact ih _ _ _ h0
  ·cases h;exact Lt _ _ _ _
end M
namespace M
open Go.V (inB bS ad bA)
def vu(x:ah):Prop:=kT 5 x.Term/\∀p∈x.Params,kT 5 p.Term
theorem ait{l:List ai}{k k':Nat}{v:ax}(h:kn l k=.ok v k'):kT 5 v.Term:=by
 unfold kn at h;obtain⟨_,_,_,h⟩:=bind_ok h;obtain⟨_,_,_,h⟩:=bind_ok h;obtain⟨t,_,ht,h⟩:=bind_ok h;cases h;exact E1 l 4 _ _ _ ht
theorem aiu(l:List ai)(nm:List UInt8)(k:Nat)(v:ah)(k':Nat)(h:nL l nm k=.ok v k'):vu v:=by
 have:∀as k,qO l nm as k=.ok v k'->vu v:=fun as k h=>by
  unfold qO at h;obtain⟨_,_,_,h⟩:=bind_ok h;obtain⟨ps,k1,hp,h⟩:=bind_ok h;obtain⟨t,k2,ht,h⟩:=bind_ok h;cases h;refine⟨?_,?_⟩
  ·unfold Aw at ht;cases hc:aH l [45,62] k1<;>rw[hc]at ht
   ·cases ht;exact Ls 4
   ·exact E1 l 4 _ _ _ ht
  ·unfold xF at hp;obtain⟨_,k3,_,hp⟩:=bind_ok hp;cases hc:aH l [41] k3<;>rw[hc]at hp
   ·simp only[aj]at hp;obtain⟨qs,_,hq,hp⟩:=bind_ok hp;obtain⟨_,_,_,hp⟩:=bind_ok hp;cases hp;exact(vr (P:=fun v:ax=>kT 5 v.Term) l _ (fun _ _ _ hv=>ait hv) 5 [] _ _ _ (fun v hv=>by cases hv) hq).2
   ·cases hp;intro p hp;cases hp
 unfold nL at h;cases hc:aH l qN k<;>rw[hc]at h<;>exact this _ _ h
theorem aiv(l:List ai)(k:Nat)(v:ah)(k':Nat)(h:ko l k=.ok v k'):vu v:=by
 have hn:∀(K:Int)(n:List UInt8)(p:bf)(us:List aK),vu (ah.mk K n lQ [] false p us):=fun K n p us=>⟨(fun x hx=>by cases hx),(fun p hp=>by cases hp)⟩
 unfold ko nM at h;obtain⟨x,k1,hx,h⟩:=bind_ok h;obtain⟨_,_,_,h⟩:=bind_ok h;cases h;obtain⟨nm,k2,_,hx⟩:=bind_ok hx;unfold kR at hx;cases jD:aH l [58] k2<;>rw[jD]at hx
 ·cases hR:(nm==mU)<;>rw[hR]at hx
  ·cases hY:(nm==oS)<;>rw[hY]at hx
   ·cases hU:(nm==oU)<;>rw[hU]at hx
    ·cases hx
    ·simp only[ae,aj]at hx;unfold xG at hx;obtain⟨_,_,_,hx⟩:=bind_ok hx;obtain⟨_,_,_,hx⟩:=bind_ok hx;obtain⟨_,_,_,hx⟩:=bind_ok hx;obtain⟨us,_,hu,hx⟩:=bind_ok hx;obtain⟨_,_,_,hx⟩:=bind_ok hx;cases hx;exact hn _ _ _ _
   ·simp only[ae,aj]at hx;obtain⟨_,_,_,hx⟩:=bind_ok hx;obtain⟨_,_,_,hx⟩:=bind_ok hx;obtain⟨t,_,ht,hx⟩:=bind_ok hx;cases hx;exact⟨E1 l 4 _ _ _ ht,(fun p hp=>by cases hp)⟩
  ·simp only[ae,aj]at hx;obtain⟨_,_,_,hx⟩:=bind_ok hx;cases hx;exact hn _ _ _ _
 ·exact aiu l _ _ _ _ hx
theorem aiw(l:List ai)(k:Nat)(p:aA)(k':Nat)(h:je l k=.ok p k'):E0 p:=by
 unfold je at h;obtain⟨_,_,_,h⟩:=bind_ok h;obtain⟨_,_,_,h⟩:=bind_ok h;obtain⟨_,_,_,h⟩:=bind_ok h;obtain⟨_,_,_,h⟩:=bind_ok h;obtain⟨_,_,_,h⟩:=bind_ok h;obtain⟨q,k6,h6,h⟩:=bind_ok h;cases h;have hf:∀k v k',mi l k=.ok v k'->∀x∈v.Items,vu x:=fun k v k' h=>by
  unfold mi at h;obtain⟨_,_,_,h⟩:=bind_ok h;obtain⟨_,_,_,h⟩:=bind_ok h;obtain⟨xs,_,hx,h⟩:=bind_ok h;cases h;exact(AN (P:=vu) l (ko l) (aiv l) 16 [] _ xs _ (fun v hv=>by cases hv) hx).2
 exact(AO (P:=fun f=>∀x∈f.Items,vu x) (Q:=fun _=>True) l hf (fun _ _ _ _=>trivial) 16 [] [] _ q _ (by simp) (by simp) (by simp) (by simp) h6).2.2.1
theorem aix(s:List UInt8):E0 (mV s).1:=by
 unfold mV ix;have h0:E0 noPack:=fun f hf=>by cases hf
 split
 ·exact h0
 ·rename_i p hp;split at hp
  ·split at hp
   ·cases hp
   ·rename_i hq;cases hp;cases qU p
    ·exact h0
    ·exact aiw _ _ _ _ hq
  ·cases hp
end M
namespace M
open Go.V (inB bS ad bA)
noncomputable def kr(x:aA)(t:List UInt8):Bool:=((mV t).2.2==0)&&lR jh x (mV t).1
theorem aiy(x:aA)(t:List UInt8):(((mV t).2.2==(0:Int))&&lR (fL 5) x (mV t).1)=kr x t:=by
 unfold kr;have e:lR (fL 5) x (mV t).1=lR jh x (mV t).1:=by
  rw[mz,aiq x _ (aix t),RY]
 rw[e]
theorem RZ(x:aA)(t:List UInt8)(h:kr x t=true):ix t=.inr x:=by
 unfold kr at h;rw[cC,RY]at h;obtain⟨h1,h2⟩:=h;have h1:=dJ.1 h1;unfold mV at h1 h2;cases hw:ix t with
 |inl e=>
  rw[hw]at h1;have:=Rx t;rw[hw]at this;exact absurd h1 this.1
 |inr p=>
  rw[hw]at h1 h2;cases hc:qU p
  ·simp only[hc,aj]at h1;exact absurd h1 (by decide)
  ·simp only[hc,ae]at h2;rw[h2]
theorem aiz(x:aA)(t:List UInt8)(hx:x.sz<=1048576)(ht:M.sY x=some t):M.Bc x=some (t,kr x t):=by
 unfold M.Bc;rw[<-aiy];simp only[ht,ah0,aic x _ hx,aw,al,du,ak,ae]
theorem aiA(x:aA)(t:List UInt8)(hx:x.sz<=1048576)(ht:M.sY x=some t):M.sZ x=some (kr x t):=by
 unfold M.sZ;rw[aiz x t hx ht];rfl
theorem aiB(x:aA)(hs:M.s6 x=some false):M.pe x=some false:=by
 unfold M.pe;simp only[hs,aw,al,bq,ae,ak]
theorem R7(x:aA)(t:List UInt8)(hx:x.sz<=1048576)(hs:M.s6 x=some true)(ht:M.pf x=some t):M.pe x=some (kr x t):=by
 unfold M.pe kr;simp only[hs,ht,ahZ,aii x _ hx,aw,al,cO,aj,du,ak,ae]
end M
namespace M
open Go.V (inB bS ad bA)
theorem att(x:aA)(ok:x.Ok)(h:x.sz<=1048576->∃r,M.aB x=some r/\M.f6 x=some r):M.aee x=some true:=by
 unfold M.aee;have e:=aiD x 1048576 ok (by omega) (by omega);by_cases hs:(x.sz:Int)<=1048576
 ·have hx:x.sz<=1048576:=by omega
  rw[dP hs]at e;obtain⟨r,h1,h2⟩:=h hx;have ex:aA.mk x.Name x.Version x.aF x.Worlds=x:=rfl;simp only[e,aw,al,db (show ¬(1048576:Int)-(x.sz:Int)<0 by omega),aj,aiE x hx,ex,h1,h2,de,cO,aiF x hx,ak,ae]
 ·rw[gq hs]at e;simp only[e,aw,al,ak,ae];rfl
end M
namespace M
open Go.V (inB bS ad bA)
theorem atu(x:aA)(hx:x.sz<=1048576)(t:List UInt8)(ht:M.sY x=some t)(s1:M.pe x=some (kr x t))(h1:kr x t=true->M.pf x=some t):
 ∃r,M.aB x=some r/\M.f6 x=some r:=by
 refine⟨bif kr x t then t else[],?_,?_⟩
 ·unfold M.aB;simp only[aiz x t hx ht,aw,al,ak,ae];cases kr x t<;>rfl
 ·unfold M.f6;simp only[s1,aw,al];cases hb:kr x t
  ·rfl
  ·simp only[h1 hb,aw,al,cO,aj,ak,ae]
end M
namespace M
open Go.V (inB bS ad bA)
theorem R9(x:aA)(h:¬∃t,ix t=.inr x)(t:List UInt8):kr x t=false:=by
 cases hb:kr x t with
 |false=>rfl
 |true=>exact absurd ⟨t,RZ x t hb⟩ h
theorem aiG(x:aA)(ti:List UInt8)(hx:x.sz<=1048576)(hi:M.sY x=some ti)(sh:Bool)(hs:M.s6 x=some sh)
 (h0:sh=true->∃ts,M.pf x=some ts) (h1:(∃t,ix t=.inr x)->sh=true/\M.pf x=some ti):
 M.sZ x=some (kr x ti)/\M.pe x=some (kr x ti)/\(kr x ti=true->M.pf x=some ti):=by
 refine⟨aiA x ti hx hi,?_,fun h=>(h1 ⟨ti,RZ x ti h⟩).2⟩;by_cases hw:∃t,ix t=.inr x
 ·obtain⟨e1,e2⟩:=h1 hw;rw[e1]at hs;exact R7 x ti hx hs e2
 ·rw[R9 x hw ti];cases sh with
  |false=>exact aiB x hs
  |true=>
   obtain⟨ts,e⟩:=h0 rfl;rw[R7 x ts hx hs e,R9 x hw ts]
end M
namespace M
open Go.V (inB bS ad bA)
theorem bz{a b:List UInt8}(h:a.length+b.length<=4611686018427387904):Go.V.av a b=true:=aO h
def dw(p:bf):List UInt8:=bif p.bo==[]then p.Name else bif p.Version==[]then(p.bo++[47])++p.Name else(((p.bo++[47])++p.Name)++[64])++p.Version
def eK(p:bf):List UInt8:=
 let q:=bif !(p.bo==[])then(p.bo++[47])++p.Name else p.Name
 bif !(p.Version==[])then q++([64]++p.Version)else q
theorem Si(p:bf)(h:p.sz<=1048576):M.s7 p=some (dw p):=by
 have hs:=bf.cF p;unfold M.s7 dw;cases (p.bo==[])
 ·have c1:Go.V.av p.bo [47]=true:=bz (by simp;omega);have c2:Go.V.av (p.bo++[47]) p.Name=true:=bz (by simp;omega);have c3:Go.V.av ((p.bo++[47])++p.Name) [64]=true:=bz (by simp;omega);have c4:Go.V.av (((p.bo++[47])++p.Name)++[64]) p.Version=true:=bz (by simp;omega);simp only[c1,c2,c3,c4,aj,ak,ae];cases (p.Version==[])<;>rfl
 ·rfl
theorem Sj(p:bf)(h:p.sz<=1048576):M.s8 p=some (eK p):=by
 have hs:=bf.cF p;unfold M.s8 eK;have c1:Go.V.av p.bo [47]=true:=bz (by simp;omega);have c2:Go.V.av (p.bo++[47]) p.Name=true:=bz (by simp;omega);have c3:Go.V.av [64] p.Version=true:=bz (by simp;omega);have c4:Go.V.av (bif !(p.bo==[])then(p.bo++[47])++p.Name else p.Name) ([64]++p.Version)=true:=bz (by cases (p.bo==[])<;>simp<;>omega);simp only[c1,c2,c3,c4,ak,du,ae]
theorem Sl(p:bf)(h:p.bo=[]->p.Version=[]):eK p=dw p:=by
 unfold eK dw;cases hp:(p.bo==[])
 ·cases (p.Version==[])
  ·simp
  ·rfl
 ·rw[h (dJ.1 hp)];rfl
end M
namespace M
open Go.V (inB bS ad bA)
theorem aiH{α:Type}{l:List α}{x:α}(h:l.length<=4000000):decide (l.length+[x].length<=1073741824)=true:=by
 rw[cz,List.length_singleton];omega
theorem wrapM{k:Nat}(h:k<=4000000):Go.IntKind.wrap .i64 ((k:Int)+1)=((k+1:Nat):Int):=by rw[wrap_i64 (by omega) (by omega)];omega
theorem Sm{rec:aa->Int->Option (List UInt8)}{lv:Int}{word:List UInt8}{t:aa}(tt:aa->List UInt8)(xs:List aa)(hX:xs.length<=1048576)(hr:∀x∈xs,rec x (Go.IntKind.wrap .i64 (lv-1))=some (tt x)):∀(n k:Nat)(acc:List (List UInt8)),xs.length-k<n->k<=xs.length->acc.length+(xs.length-k)<=2000000->
 M.s9 rec lv word xs ((xs.length:Nat):Int) n (k:Int) t acc=some (word,t,acc++(xs.drop k).map tt)
 |0,k,_,h,_,_=>by omega
 |n+1,k,acc,h,hk,hb=>by
  rw[M.s9];rcases cP k xs.length with q|q
  ·have ih:=Sm (word:=word) (t:=t) tt xs hX hr n (k+1) (acc++[tt xs[k]]) (by omega) (by omega) (by rw[aM,List.length_singleton];omega);simp only[fK q,cg,dV _ q,aa.aD,hr _ (dM q),aw,al,ae,dU q,ak,wrapM (show k<=4000000 by omega),aiH (show acc.length<=4000000 by omega),ih];rw[jV q,fy,fw,List.singleton_append]
  ·simp only[kS q,aj,aa.aD];rw[List.drop_eq_nil_of_le q];simp
end M
namespace M
open Go.V (inB bS av ad bA)
def jn(l:List (List UInt8)):List UInt8:=Go.Lib.join l [44,32]
theorem Lu:jn []=[]:=rfl
theorem E2(x:List UInt8)(r:List (List UInt8)):jn (x::r)=x++Go.Lib.joinTail [44,32] r:=Go.Lib.join_cons x r [44,32]
theorem Sr:Go.Lib.joinTail [44,32] []=[]:=rfl
theorem Ss(x:List UInt8)(r:List (List UInt8)):Go.Lib.joinTail [44,32] (x::r)=44::32::(x++Go.Lib.joinTail [44,32] r):=by simp[Go.Lib.joinTail]
theorem aiI(a b:List (List UInt8)):Go.Lib.joinTail [44,32] (a++b)=Go.Lib.joinTail [44,32] a++Go.Lib.joinTail [44,32] b:=by simp[Go.Lib.joinTail]
theorem aiJ(l:List (List UInt8))(x:List UInt8):jn (l++[x])=(if 0<l.length then jn l++[44,32]else[])++x:=by
 cases l with
 |nil=>simp[E2,Sr]
 |cons y r=>rw[zk,E2,E2,aiI];simp[Ss,Sr]
theorem kV:∀(l:List (List UInt8)),(jn l).length<=aW List.length l+l.length
 |[]=>by simp[Lu]
 |x::r=>by
  rw[E2,aM];have:∀r:List (List UInt8),(Go.Lib.joinTail [44,32] r).length=aW List.length r+r.length:=fun r=>by
   induction r with
   |nil=>rfl
   |cons y t ih=>rw[Ss];simp only[aU,aM,ih,aW];omega
  rw[this];simp only[aW,aU];omega
theorem E3(l:List (List UInt8))(h:aW List.length l<=536870912):M.strings_Join l [44,32]=some (jn l):=by
 have h1:=kV l;have h2:=dk List.length l;unfold M.strings_Join;have e1:decide (l.length<=1073741824)=true:=by rw[cz];omega
 have e2:decide ((Go.Lib.join l [44,32]).length<=1073741824)=true:=by rw[cz];unfold jn at h1;omega
 rw[e1,e2];rfl
theorem E4{a b:Nat}(h:a+b<=1073741824):decide (a+b<=1073741824)=true:=by rw[cz];exact h
theorem E5{a b:Bool}:(bif a then a else b)=(a||b):=by cases a<;>rfl
def fX(K:Int):List UInt8:=bif decide (1<=K)&&decide (K<=23)then List.getD ([]::words) K.toNat []else[]
theorem Lx(K:Int):(fX K).length<=7:=by
 unfold fX;have h:∀w∈([]::words),w.length<=7:=by
  have:((([]:List UInt8)::words).all fun w=>decide (w.length<=7))=true:=by decide
  intro w hw;simpa using fb.1 this w hw
 cases decide (1<=K)&&decide (K<=23)
 ·simp
 ·rw[ae];rcases cP K.toNat (List.length ([]::words))with hk|hk
  ·rw[getD_lt hk];exact h _ (dM hk)
  ·rw[fh,f8 hk];simp
def E6(K:Int):Bool:=(K==12)||((K==13)||((K==22)||((K==23)||(K==15))))
def E7(K:Int):Bool:=(K==16)||((K==17)||((K==18)||(K==19)))
def labT(K:Int):List (List UInt8)->List aa->List (List UInt8)->List (List UInt8)
 |[],_,_=>[]
 |l::r,c::cs,x::xs=>(bif K==16 then l++([58,32]++x)else bif(K==17)&&(c.Kind !=1)then l++(([40]++x)++[41])else l)::labT K r cs xs
 |l::r,_,_=>l::labT K r [] []
def ta(t:aa)(ks:List (List UInt8)):List UInt8:=
 bif((ks.length:Nat):Int) !=2 then[]
 else bif((List.getD t.Kids 0 aa.zero).Kind==1)&&((List.getD t.Kids 1 aa.zero).Kind==1)then[]
 else bif(List.getD t.Kids 1 aa.zero).Kind==1 then([60]++List.getD ks 0 [])++[62]
 else bif(List.getD t.Kids 0 aa.zero).Kind==1 then([60,95,44,32]++List.getD ks 1 [])++[62]
 else((([60]++List.getD ks 0 [])++[44,32])++List.getD ks 1 [])++[62]
def bodyT(t:aa)(ks:List (List UInt8)):List UInt8:=
 bif t.Kind==30 then t.Name
 else bif(t.Kind==20)||(t.Kind==21)then((fX t.Kind++[60])++t.Name)++[62]
 else bif E6 t.Kind then((fX t.Kind++[60])++jn ks)++[62]
 else bif t.Kind==14 then fX t.Kind++ta t ks
 else bif E7 t.Kind then((fX t.Kind++[32,123,32])++jn (labT t.Kind t.bj t.Kids ks))++[32,125]
 else fX t.Kind
def cQ:Nat->aa->List UInt8
 |0,_=>[]
 |n+1,t=>bodyT t (t.Kids.map (cQ n))
theorem vv(K:Int):∀(ls:List (List UInt8))(cs:List aa)(xs:List (List UInt8)),aW List.length (labT K ls cs xs)<=aW List.length ls+2*ls.length+aW List.length xs
 |[],_,_=>by simp[labT,aW]
 |l::r,[],xs=>by
  have:=vv K r [] [];have e:aW List.length ([]:List (List UInt8))=0:=rfl;cases xs<;>simp only[labT,aW,aU]at*<;>omega
 |l::r,c::cs,[]=>by
  have:=vv K r [] [];simp only[labT,aW,aU]at*;omega
 |l::r,c::cs,x::xs=>by
  have:=vv K r cs xs;simp only[labT,aW,aU];cases (K==16)
  ·cases ((K==17)&&(c.Kind !=1))<;>simp only[ae,aj,aM,aU,cu]<;>omega
  ·simp only[ae,aM,aU,cu];omega
theorem m5(K:Int):∀(ls:List (List UInt8))(cs:List aa)(xs:List (List UInt8)),(labT K ls cs xs).length=ls.length
 |[],_,_=>by simp[labT]
 |l::r,[],xs=>by cases xs<;>simp[labT,m5 K r [] []]
 |l::r,c::cs,[]=>by simp[labT,m5 K r [] []]
 |l::r,c::cs,x::xs=>by simp[labT,m5 K r cs xs]
theorem E8(K:Int)(f:aa->List UInt8):∀(ls:List (List UInt8))(cs:List aa)(k:Nat),k<ls.length->(labT K ls cs (cs.map f)).getD k []=if h:k<cs.length then(bif K==16 then ls.getD k []++([58,32]++f cs[k])else bif(K==17)&&(cs[k].Kind !=1)then ls.getD k []++(([40]++f cs[k])++[41])else ls.getD k [])else ls.getD k []
 |[],_,k,h=>by simp at h
 |l::r,[],k,h=>by
  cases k with
  |zero=>simp[labT]
  |succ k=>
   have:=E8 K f r [] k (by simpa using h);simpa [labT]using this
 |l::r,x::cs,k,h=>by
  cases k with
  |zero=>simp[labT]
  |succ k=>
   have:=E8 K f r cs k (by simpa using h);simp only[fy,labT,List.getD_cons_succ,this,aU,Nat.add_lt_add_iff_right,List.getElem_cons_succ]
theorem Su(t:aa)(ks:List (List UInt8)):(ta t ks).length<=aW List.length ks+5:=by
 unfold ta;cases hc:(((ks.length:Nat):Int) !=2)
 ·have h2:ks.length=2:=by have:=bne_eq_false_iff_eq.1 hc;omega
  obtain⟨a,b,rfl⟩:∃a b,ks=[a,b]:=by
   match ks,h2 with
   |[a,b],_=>exact⟨a,b,rfl⟩
  simp only[aj,aW];cases (((List.getD t.Kids 0 aa.zero).Kind==1)&&((List.getD t.Kids 1 aa.zero).Kind==1))
  ·cases ((List.getD t.Kids 1 aa.zero).Kind==1)
   ·cases ((List.getD t.Kids 0 aa.zero).Kind==1)<;>simp<;>omega
   ·simp;omega
  ·simp
 ·simp
theorem tc:∀(n:Nat)(t:aa),(cQ n t).length<=16*t.sz+14
 |0,t=>by simp[cQ]
 |n+1,t=>by
  have hs:=aa.cF t;have hk:=Lx t.Kind;have hx:aW List.length (t.Kids.map (cQ n))+(t.Kids.map (cQ n)).length<=16*aW aa.sz t.Kids:=by
   have key:∀l:List aa,aW List.length (l.map (cQ n))+(l.map (cQ n)).length<=16*aW aa.sz l:=fun l=>by
    induction l with
    |nil=>simp[aW]
    |cons y r ih=>
     have h1:=tc n y;simp only[fy,aW,aU]at ih⊢;omega
   exact key _
  have hj:=kV (t.Kids.map (cQ n));have hl:=vv t.Kind t.bj t.Kids (t.Kids.map (cQ n));have hll:=m5 t.Kind t.bj t.Kids (t.Kids.map (cQ n));have hle:=dk List.length t.bj;have hj2:=kV (labT t.Kind t.bj t.Kids (t.Kids.map (cQ n)));have hr:=Su t (t.Kids.map (cQ n));rw[cQ];unfold bodyT;cases (t.Kind==30)
  ·cases ((t.Kind==20)||(t.Kind==21))
   ·cases (E6 t.Kind)
    ·cases (t.Kind==14)
     ·cases (E7 t.Kind)
      ·simp only[aj];omega
      ·simp only[aj,ae,aM,aU,cu];omega
     ·simp only[aj,ae,aM];omega
    ·simp only[aj,ae,aM,aU,cu];omega
   ·simp only[aj,ae,aM,aU,cu];omega
  ·simp only[ae];omega
theorem Sv(n:Nat)(l:List aa):aW List.length (l.map (cQ n))<=16*aW aa.sz l:=by
 induction l with
 |nil=>simp[aW]
 |cons y r ih=>
  have h1:=tc n y;simp only[fy,aW];omega
theorem Ly{α β Y:Type}{F:Nat->Int->List β->Option Y}{h:List β->Option Y}(g:α->β)(l:List α)(hn:l.length<=2097152)(Bd:List β)
 (step:∀f k out,∀hk:k<l.length,out.length=Bd.length+k->F (f+1) (k:Int) out=F f ((k+1:Nat):Int) (out++[g l[k]]))
 (stop:∀f out,F (f+1) (l.length:Int) out=h out):F ad 0 Bd=h (Bd++l.map g):=by
 have key:∀f k out,k<=l.length->l.length-k<f->out.length=Bd.length+k->F f (k:Int) out=h (out++(l.drop k).map g):=by
  intro f
  induction f with
  |zero=>intro k out h1 h2;omega
  |succ f ih=>
   intro k out h1 h2 ho;rcases cP k l.length with hk|hk
   ·rw[step f k out hk ho,ih (k+1) _ (by omega) (by omega) (by simp[ho];omega),sj hk];simp only[fy,fw,List.singleton_append]
   ·have:k=l.length:=by omega
    subst this;rw[stop,l7];simp
 have:=key ad 0 Bd (jr _) (by have:=bA;omega) rfl;simpa using this
theorem LA{α:Type}(f:α->Nat):∀(l:List α)(k:Nat),aW f (l.take k)<=aW f l
 |[],k=>by simp[aW]
 |x::r,0=>by simp[aW]
 |x::r,k+1=>by have:=LA f r k;simp only[List.take_succ_cons,aW];omega
theorem E9{Y:Type}{F:Nat->List UInt8->Int->Option Y}{h:List UInt8->Option Y}(L:List (List UInt8))(hn:L.length<=2097152)(s0:List UInt8)
 (step:∀f k s,∀hk:k<L.length,s.length<=s0.length+2*aW List.length L->F (f+1) s (k:Int)=F f ((bif decide ((0:Int)<(k:Int))then s++[44,32]else s)++L[k]) ((k+1:Nat):Int))
 (stop:∀f s,F (f+1) s (L.length:Int)=h s):F ad s0 0=h (s0++jn L):=by
 have key:∀f k,k<=L.length->L.length-k<f->F f (s0++jn (L.take k)) (k:Int)=h (s0++jn L):=by
  intro f
  induction f with
  |zero=>intro k h1 h2;omega
  |succ f ih=>
   intro k h1 h2;rcases cP k L.length with hk|hk
   ·have hj:=kV (L.take k);have ht:=LA List.length L k;have hl:=dk List.length L;have hm:(L.take k).length<=L.length:=by rw[qe];omega
    rw[step f k _ hk (by rw[aM];omega)];have e:(bif decide ((0:Int)<(k:Int))then s0++jn (L.take k)++[44,32]else s0++jn (L.take k))++L[k]=s0++jn (L.take (k+1)):=by
     rw[zl,bB hk,Option.toList_some,aiJ,qe,Nat.min_eq_left (by omega)];by_cases hz:0<k
     ·rw[dP hz,aO (by omega),ae];simp only[fw]
     ·have:k=0:=by omega
      subst this;simp[Lu]
    rw[e];exact ih (k+1) (by omega) (by omega)
   ·have:k=L.length:=by omega
    subst this;rw[stop,zf]
 have:=key ad 0 (jr _) (by have:=bA;omega);simpa [Lu]using this
end M
namespace M
open Go.V (inB bS av ad bA)
theorem aiK(t:aa)(ks:List (List UInt8))(hl:ks.length=t.Kids.length)(hb:aW List.length ks<=536870912):M.yg t ks=some (ta t ks):=by
 unfold M.yg ta;cases hc:(((ks.length:Nat):Int) !=2)
 ·have h2:ks.length=2:=by have:=bne_eq_false_iff_eq.1 hc;omega
  obtain⟨a,b,rfl⟩:∃a b,ks=[a,b]:=by
   match ks,h2 with
   |[a,b],_=>exact⟨a,b,rfl⟩
  simp only[aW]at hb;have i0:inB (0:Int) t.Kids.length=true:=by rw[<-hl];rfl
  have i1:inB (1:Int) t.Kids.length=true:=by rw[<-hl];rfl
  have j0:inB (0:Int) [a,b].length=true:=rfl;have j1:inB (1:Int) [a,b].length=true:=rfl;have c1:av [60] (List.getD [a,b] 0 [])=true:=bz (by simp;omega);have c2:av ([60]++List.getD [a,b] 0 []) [62]=true:=bz (by simp;omega);have c3:av [60,95,44,32] (List.getD [a,b] 1 [])=true:=bz (by simp;omega);have c4:av ([60,95,44,32]++List.getD [a,b] 1 []) [62]=true:=bz (by simp;omega);have c5:av ([60]++List.getD [a,b] 0 []) [44,32]=true:=bz (by simp;omega);have c6:av (([60]++List.getD [a,b] 0 [])++[44,32]) (List.getD [a,b] 1 [])=true:=bz (by simp;omega);have c7:av ((([60]++List.getD [a,b] 0 [])++[44,32])++List.getD [a,b] 1 []) [62]=true:=bz (by simp;omega);have n0:Int.toNat (0:Int)=0:=rfl;have n1:Int.toNat (1:Int)=1:=rfl;simp only[aj,i0,i1,j0,j1,c1,c2,c3,c4,c5,c6,c7,n0,n1,ak,ae];cases (List.getD t.Kids 0 aa.zero).Kind==1<;>cases (List.getD t.Kids 1 aa.zero).Kind==1<;>rfl
 ·rfl
theorem aiL(f:aa->List UInt8)(t:aa)(hL:t.bj.length<=1048576)(hb:aW List.length t.bj+aW List.length (t.Kids.map f)<=268435456):M.yh t (t.Kids.map f)=some (labT t.Kind t.bj t.Kids (t.Kids.map f)):=by
 unfold M.yh;have e:=Ly (F:=fun n i o=>M.qY (t.Kids.map f) t.bj ((t.bj.length:Nat):Int) n i t o) (h:=fun o=>some o) id (labT t.Kind t.bj t.Kids (t.Kids.map f)) (by rw[m5];omega) [] (fun n k out hk ho=>by
  have hk':=hk;rw[m5]at hk;have hg:=E8 t.Kind f t.bj t.Kids k hk;rw[getD_lt hk']at hg
  show M.qY (t.Kids.map f) t.bj ((t.bj.length:Nat):Int) (n+1) (k:Int) t out=_
  rw[M.qY];have hc:∀y:List UInt8,decide (out.length+[y].length<=1073741824)=true:=fun y=>E4 (by simp at ho⊢;omega)
  have hml:=dX List.length t.bj t.bj[k] (dM hk);simp only[aa.aD,fK hk,ae,cg,dU hk,hc,bu,eB,cA hk (by omega:t.bj.length<2^62),id,dV _ hk];by_cases hkk:k<t.Kids.length
  ·rw[dif_pos hkk]at hg;have Sz:k<(t.Kids.map f).length:=by rw[dD];exact hkk
   have hmx:=dX List.length (t.Kids.map f) (f t.Kids[k]) (List.mem_map_of_mem (dM hkk));have e1:List.getD (t.Kids.map f) k []=f t.Kids[k]:=by rw[getD_lt Sz,wV]
   have e2:decide ((((t.Kids.map f).length:Nat):Int)<=(k:Int))=false:=db (by omega);have c1:av [58,32] (f t.Kids[k])=true:=bz (by simp;omega);have c2:av t.bj[k] ([58,32]++f t.Kids[k])=true:=bz (by simp;omega);have c3:av [40] (f t.Kids[k])=true:=bz (by simp;omega);have c4:av ([40]++f t.Kids[k]) [41]=true:=bz (by simp;omega);have c5:av t.bj[k] (([40]++f t.Kids[k])++[41])=true:=bz (by simp;omega);rw[dV _ hk]at hg;simp only[e1,e2,dU hkk,dU Sz,c1,c2,c3,c4,c5,dV _ hkk,aj,bq,iz,du,ak,rI,bu,Bool.or_not_self,Bool.not_or_self];cases h16:(t.Kind==16)<;>cases h17:((t.Kind==17)&&(t.Kids[k].Kind !=1))<;>rw[h16,h17]at hg<;>rw[hg]<;>rfl
  ·rw[dif_neg hkk,dV _ hk]at hg;have e2:decide ((((t.Kids.map f).length:Nat):Int)<=(k:Int))=true:=aO (by rw[dD];omega);simp only[e2,ae,iz,cO,rI,ak,hg]) (fun n out=>by
  show M.qY (t.Kids.map f) t.bj ((t.bj.length:Nat):Int) (n+1) _ t out=_
  rw[m5,M.qY];simp)
 simp only[lp,List.map_id]at e;rw[aa.aD,e]
theorem SA{K:Int}(h:(decide (1<=K)&&decide (K<=23))=true):fX K=List.getD ([]::words) K.toNat []:=by
 unfold fX;rw[h,ae]
theorem aiM{K:Int}(h:(decide (1<=K)&&decide (K<=23))=false):fX K=[]:=by
 unfold fX;rw[h,aj]
theorem aiN{K:Int}(h:(decide (1<=K)&&decide (K<=23))=true):inB K (List.length ([]::words))=true:=by
 simp only[cC,cz]at h;obtain⟨n,rfl⟩:=Dz (show 0<=K by omega);rw[dH,cz,show List.length (([]:List UInt8)::words)=24 from rfl];omega
theorem SB:∀(m n:Nat)(t:aa),n<m->n<=100->t.sz<=1048576->M.td m t (n:Int)=some (cQ n t)
 |0,n,t,h,_,_=>by omega
 |m+1,0,t,h,_,_=>rfl
 |m+1,n+1,t,h,hn,hs=>by
  show M.Fa (M.td m) t _=_
  have hz:=aa.cF t;have hw:Go.IntKind.wrap .i64 (((n+1:Nat):Int)-1)=(n:Int):=by rw[wrap_i64 (by omega) (by omega)];omega
  have hrec:∀x∈t.Kids,M.td m x (Go.IntKind.wrap .i64 (((n+1:Nat):Int)-1))=some (cQ n x):=fun x hx=>by
   rw[hw];exact SB m n x (by omega) (by omega) (by have:=aa.AQ hx;omega)
  have hk:=aa.EW hs;have e0:∀word,M.s9 (M.td m) ((n+1:Nat):Int) word t.Kids ((t.Kids.length:Nat):Int) ad 0 t []=some (word,t,t.Kids.map (cQ n)):=fun word=>by
   have:=Sm (word:=word) (t:=t) (cQ n) t.Kids hk hrec ad 0 [] (by have:=bA;omega) (by omega) (by simp;omega);simpa using this
  have hkl:=Sv n t.Kids;have hkw:=Lx t.Kind;have hj:=kV (t.Kids.map (cQ n));have hl:=vv t.Kind t.bj t.Kids (t.Kids.map (cQ n));have hll:=m5 t.Kind t.bj t.Kids (t.Kids.map (cQ n));have hle:=dk List.length t.bj;have hj2:=kV (labT t.Kind t.bj t.Kids (t.Kids.map (cQ n)));have hr:=Su t (t.Kids.map (cQ n));have hsk:=dk aa.sz t.Kids;have hmk:(t.Kids.map (cQ n)).length=t.Kids.length:=dD _;have d:(((n+1:Nat):Int)==0)=false:=by rw[bE];omega
  have r1:=aiK t (t.Kids.map (cQ n)) hmk (by omega);have r2:=aiL (cQ n) t (by omega) (by omega);have r3:=E3 (t.Kids.map (cQ n)) (by omega);have r4:=E3 (labT t.Kind t.bj t.Kids (t.Kids.map (cQ n))) (by omega);rw[cQ];unfold M.Fa bodyT E6 E7;have c1:av (fX t.Kind) [60]=true:=bz (by simp only[aM,aU,cu];omega);have c2:av (fX t.Kind++[60]) t.Name=true:=bz (by simp only[aM,aU,cu];omega);have c3:av ((fX t.Kind++[60])++t.Name) [62]=true:=bz (by simp only[aM,aU,cu];omega);have c4:av (fX t.Kind++[60]) (jn (t.Kids.map (cQ n)))=true:=bz (by simp only[aM,aU,cu];omega);have c5:av ((fX t.Kind++[60])++jn (t.Kids.map (cQ n))) [62]=true:=bz (by simp only[aM,aU,cu];omega);have c6:av (fX t.Kind) (ta t (t.Kids.map (cQ n)))=true:=bz (by omega);have c7:av (fX t.Kind) [32,123,32]=true:=bz (by simp only[aM,aU,cu];omega);have c8:av (fX t.Kind++[32,123,32]) (jn (labT t.Kind t.bj t.Kids (t.Kids.map (cQ n))))=true:=bz (by simp only[aM,aU,cu];omega);have c9:av ((fX t.Kind++[32,123,32])++jn (labT t.Kind t.bj t.Kids (t.Kids.map (cQ n)))) [32,125]=true:=bz (by simp only[aM,aU,cu];omega);cases hK:decide (1<=t.Kind)&&decide (t.Kind<=23)
  ·rw[aiM hK]at c1 c2 c3 c4 c5 c6 c7 c8 c9⊢;simp only[d,hK,aj,aa.aD,e0];simp only[E5,r1,r2,r3,r4,c1,c2,c3,c4,c5,c6,c7,c8,c9,aw,al,ak,ae];cases (t.Kind==30)<;>cases ((t.Kind==20)||(t.Kind==21))<;>cases ((t.Kind==12)||((t.Kind==13)||((t.Kind==22)||((t.Kind==23)||(t.Kind==15)))))<;>cases (t.Kind==14)<;>cases ((t.Kind==16)||((t.Kind==17)||((t.Kind==18)||(t.Kind==19))))<;>rfl
  ·simp only[d,hK,aj,ae,aa.aD,e0,EA,aw,al,aiN hK,ak,du,bu,eB];simp only[<-SA hK,E5,r1,r2,r3,r4,c1,c2,c3,c4,c5,c6,c7,c8,c9,aw,al,ak,ae];cases (t.Kind==30)<;>cases ((t.Kind==20)||(t.Kind==21))<;>cases ((t.Kind==12)||((t.Kind==13)||((t.Kind==22)||((t.Kind==23)||(t.Kind==15)))))<;>cases (t.Kind==14)<;>cases ((t.Kind==16)||((t.Kind==17)||((t.Kind==18)||(t.Kind==19))))<;>rfl
theorem SC(t:aa)(hs:t.sz<=1048576):M.tf t 5=some (cQ 5 t):=SB ad 5 t (by have:=bA;omega) (by omega) hs
end M
namespace M
open Go.V (inB bS av ad bA)
def Be(K:Int):Bool:=(K==12)||((K==13)||((K==22)||(K==23)))
def dt(K:Int):Bool:=(K==14)||(K==17)
def lS(K:Int)(n:Int):Int:=bif Be K then 1 else bif K==14 then 2 else bif K==15 then 1 else bif(K==16)||(K==17)then n else 0
def kt(K:Int)(n:Int):Int:=bif Be K then 1 else bif K==14 then 2 else bif K==15 then 6 else bif(K==16)||(K==17)then n else 0
def nS(K:Int):Bool:= !((!(decide (1<=K)&&decide (K<=23)))&&(K !=30))
def kW(g:aa->Int)(u:Bool):List aa->Int->Int
 |[],s=>s
 |x::r,s=>bif u&&(x.Kind==1)then kW g u r (s+1)else bif decide (g x<0)||decide (12000<s)then -1 else kW g u r (s+g x)
def cf:Nat->aa->Int
 |0,_=> -1
 |d+1,t=>bif(decide ((16:Int)<((t.bj.length:Nat):Int))||decide ((16:Int)<((t.Kids.length:Nat):Int)))||decide ((12:Int)<((t.Name.length:Nat):Int))then -1
  else bif(!nS t.Kind)|| !(decide (lS t.Kind ((t.bj.length:Nat):Int)<=((t.Kids.length:Nat):Int))&&decide (((t.Kids.length:Nat):Int)<=kt t.Kind ((t.bj.length:Nat):Int)))then -1
  else kW (cf d) (dt t.Kind) t.Kids 1
theorem LC(g:aa->Int)(u:Bool)(B:Int)(hB:0<=B):∀(l:List aa)(s:Int),(∀x∈l,g x<=B)->l.length<=16->s+l.length<=12016+B->kW g u l s<=12016+B
 |[],s,_,_,h=>by rw[kW];simpa using h
 |x::r,s,hg,hl,h=>by
  simp only[aU]at hl h;rw[kW];cases (u&&(x.Kind==1))
  ·rw[aj];cases hc:(decide (g x<0)||decide (12000<s))
   ·rw[aj];rw[ox,dR,dR]at hc;have:=hg x (by simp);exact LC g u B hB r _ (fun y hy=>hg y (by simp[hy])) (by omega) (by omega)
   ·rw[ae];omega
  ·rw[ae];exact LC g u B hB r _ (fun y hy=>hg y (by simp[hy])) (by omega) (by omega)
theorem SD:∀(d:Nat)(t:aa),cf d t<=12016*(d:Int)
 |0,t=>by show(-1:Int)<=_;omega
 |d+1,t=>by
  rw[cf];cases hc:((decide ((16:Int)<((t.bj.length:Nat):Int))||decide ((16:Int)<((t.Kids.length:Nat):Int)))||decide ((12:Int)<((t.Name.length:Nat):Int)))
  ·rw[aj];simp only[ox,dR]at hc;have h1:=LC (cf d) (dt t.Kind) (12016*(d:Int)) (by omega) t.Kids 1 (fun x _=>SD d x) (by omega) (by omega);have key:∀q:Bool,(bif q then -1 else kW (cf d) (dt t.Kind) t.Kids 1)<=12016*((d+1:Nat):Int):=fun q=>by
    cases q<;>simp only[ae,aj]<;>omega
   exact key _
  ·rw[ae];omega
theorem LD{rec:aa->Int->Option Int}{deep:Int}{g:aa->Int}{t:aa}{B:Int}(hk:t.Kids.length<=16)(hr:∀x∈t.Kids,rec x (Go.IntKind.wrap .i64 (deep-1))=some (g x))(hB:∀x∈t.Kids,g x<=B)(h0:0<=B)(h1:B<=1000000):
 ∀(f k:Nat)(s:Int),t.Kids.length-k<f->k<=t.Kids.length->0<=s->s+((t.Kids.length-k:Nat):Int)<=12016+B->∃y,M.vx rec deep f s (k:Int) t=some y/\Sum.elim id id y=kW g (dt t.Kind) (t.Kids.drop k) s
 |0,k,s,h,_,_,_=>by omega
 |f+1,k,s,h,hkl,hs,hsb=>by
  rw[M.vx];rcases cP k t.Kids.length with q|q
  ·have hm:=dM q;rw[jV q,kW];simp only[fK q,cg,dV _ q,aa.aD,hr _ hm,aw,al,ae,dU q,ak,du,cA q (by omega:t.Kids.length<2^62)]
   show ∃y,(bif dt t.Kind&&_ then _ else _)=some y/\_
   cases hu:(dt t.Kind&&(t.Kids[k].Kind==1))
   ·simp only[aj];cases hc:(decide (g t.Kids[k]<0)||decide (12000<s))
    ·simp only[aj];rw[ox,dR,dR]at hc;have:=hB _ hm;rw[wrap_i64 (show -9223372036854775808<=s+g t.Kids[k] by omega) (by omega)];exact LD hk hr hB h0 h1 f (k+1) _ (by omega) (by omega) (by omega) (by omega)
    ·simp only[ae];exact⟨_,rfl,rfl⟩
   ·simp only[ae];rw[wrap_i64 (show -9223372036854775808<=s+1 by omega) (by omega)];exact LD hk hr hB h0 h1 f (k+1) _ (by omega) (by omega) (by omega) (by omega)
  ·simp only[kS q,aj];rw[List.drop_eq_nil_of_le q,kW];exact⟨_,rfl,rfl⟩
theorem aiO{α:Type}(q:Bool)(a b:α):(bif q then some a else some b)=some (bif q then a else b):=by cases q<;>rfl
theorem SE:∀(m d:Nat)(t:aa),d<m->d<=10->M.vy m t (d:Int)=some (cf d t)
 |0,d,t,h,_=>by omega
 |m+1,0,t,h,_=>rfl
 |m+1,d+1,t,h,hd=>by
  show M.Fb (M.vy m) t _=_
  have e0:(((d+1:Nat):Int)==0)=false:=by rw[bE];omega
  have hw:Go.IntKind.wrap .i64 (((d+1:Nat):Int)-1)=(d:Int):=by rw[wrap_i64 (by omega) (by omega)];omega
  unfold M.Fb;rw[cf];simp only[e0,l6,E5,aa.aD];cases hc:((decide ((16:Int)<((t.bj.length:Nat):Int))||decide ((16:Int)<((t.Kids.length:Nat):Int)))||decide ((12:Int)<((t.Name.length:Nat):Int)))
  ·simp only[aj];simp only[ox,dR]at hc;have e1:(!nS t.Kind)=((!(decide (1<=t.Kind)&&decide (t.Kind<=23)))&&(t.Kind !=30)):=by unfold nS;rw[Bool.not_not]
   rw[e1];unfold lS kt Be;obtain⟨y,hy,hv⟩:=LD (rec:=M.vy m) (deep:=((d+1:Nat):Int)) (g:=cf d) (t:=t) (B:=12016*(d:Int)) (by omega) (fun x hx=>by rw[hw];exact SE m d x (by omega) (by omega)) (fun x _=>SD d x) (by omega) (by omega) ad 0 1 (by have:=bA;omega) (by omega) (by omega) (by omega);rw[show((0:Nat):Int)=0 from rfl]at hy;rw[ll]at hv;simp only[hy,<-hv];cases y<;>exact aiO _ _ _
  ·rfl
theorem SG(t:aa):M.Bf t 4=some (cf 4 t):=SE ad 4 t (by have:=bA;omega) (by omega)
structure aiP (d:Nat) (t:aa):Prop where
 kin:(1<=t.Kind/\t.Kind<=23)\/t.Kind=30
 res:t.Kind=14->t.Kids.length=2
 lab:(t.Kind=16\/t.Kind=17)->t.Kids.length=t.bj.length
 non:(t.Kind=18\/t.Kind=19)->t.Kids.length=0
 kid:∀x∈t.Kids,(dt t.Kind&&(x.Kind==1))=true\/0<=cf d x
theorem LF(g:aa->Int)(u:Bool):∀(l:List aa)(s:Int),0<=kW g u l s->∀x∈l,(u&&(x.Kind==1))=true\/0<=g x
 |[],s,_,x,hx=>by cases hx
 |y::r,s,h,x,hx=>by
  rw[kW]at h;cases hu:(u&&(y.Kind==1))<;>rw[hu]at h
  ·rw[aj]at h;cases hc:(decide (g y<0)||decide (12000<s))<;>rw[hc]at h
   ·rw[aj]at h;rw[ox,dR,dR]at hc;rcases fF.1 hx with q|q
    ·rw[q];right;omega
    ·exact LF g u r _ h x q
   ·rw[ae]at h;omega
  ·rw[ae]at h;rcases fF.1 hx with q|q
   ·rw[q];left;exact hu
   ·exact LF g u r _ h x q
theorem aiQ{d:Nat}{t:aa}(h:0<=cf (d+1) t):aiP d t:=by
 rw[cf]at h;cases hc:((decide ((16:Int)<((t.bj.length:Nat):Int))||decide ((16:Int)<((t.Kids.length:Nat):Int)))||decide ((12:Int)<((t.Name.length:Nat):Int)))<;>rw[hc]at h
 ·rw[aj]at h;cases hq:((!nS t.Kind)|| !(decide (lS t.Kind ((t.bj.length:Nat):Int)<=((t.Kids.length:Nat):Int))&&decide (((t.Kids.length:Nat):Int)<=kt t.Kind ((t.bj.length:Nat):Int))))<;>rw[hq]at h
  ·rw[aj]at h;simp only[ox,Bool.not_eq_false',cC,cz]at hq;obtain⟨h1,h2,h3⟩:=hq;refine⟨?_,?_,?_,?_,LF _ _ _ _ h⟩
   ·unfold nS at h1;simp only[fE,Bool.and_eq_false_iff,Bool.not_eq_false',cC,cz,bne_eq_false_iff_eq]at h1;exact h1
   ·intro e;rw[e]at h2 h3;have a:lS 14 ((t.bj.length:Nat):Int)=2:=rfl;have b:kt 14 ((t.bj.length:Nat):Int)=2:=rfl;rw[a]at h2;rw[b]at h3;omega
   ·intro e;rcases e with e|e<;>rw[e]at h2 h3
    ·have a:lS 16 ((t.bj.length:Nat):Int)=((t.bj.length:Nat):Int):=rfl;have b:kt 16 ((t.bj.length:Nat):Int)=((t.bj.length:Nat):Int):=rfl;rw[a]at h2;rw[b]at h3;omega
    ·have a:lS 17 ((t.bj.length:Nat):Int)=((t.bj.length:Nat):Int):=rfl;have b:kt 17 ((t.bj.length:Nat):Int)=((t.bj.length:Nat):Int):=rfl;rw[a]at h2;rw[b]at h3;omega
   ·intro e;rcases e with e|e<;>rw[e]at h3
    ·have b:kt 18 ((t.bj.length:Nat):Int)=0:=rfl;rw[b]at h3;omega
    ·have b:kt 19 ((t.bj.length:Nat):Int)=0:=rfl;rw[b]at h3;omega
  ·rw[ae]at h;omega
 ·rw[ae]at h;omega
end M
namespace M
open Go.V (inB bS av ad bA)
theorem aiR:Option.getD M.jz default++Option.getD M.jA default=words:=by decide
theorem aiS:Option.isSome M.jz=true:=by decide
theorem aiT:Option.isSome M.jA=true:=by decide
theorem kwS{K:Int}(h1:1<=K)(h2:K<=23):List.getD words (Int.toNat (Go.IntKind.wrap .i64 (K-1))) []=fX K/\inB (Go.IntKind.wrap .i64 (K-1)) words.length=true:=by
 rw[wrap_i64 (by omega) (by omega)];obtain⟨n,hn⟩:=Dz (show 0<=K-1 by omega);have hK:K=((n+1:Nat):Int):=by omega
 subst hK;rw[hn,SA (by rw[cC,cz,cz];exact⟨h1,h2⟩),cg,cg,dH,cz,show words.length=23 from rfl];exact⟨rfl,by omega⟩
theorem Fe(k:Nat)(s:List UInt8):(bif decide ((0:Int)<(k:Int))then s++[(44:UInt8),32]else s).length<=s.length+2:=by
 cases decide ((0:Int)<(k:Int))<;>simp
theorem Ff(k:Nat){s:List UInt8}(h:s.length<=2000000000):av s [(44:UInt8),32]=true:=bz (by simp only[aU,cu];omega)
theorem aiV{rec:aa->Option (List UInt8)}(f:aa->List UInt8)(l:List aa)(hl:l.length<=1048576)(hb:aW List.length (l.map f)<=268435456)(hr:∀x∈l,rec x=some (f x)):M.Bg rec l=some (jn (l.map f)):=by
 unfold M.Bg;have e:=E9 (F:=fun n s i=>M.qZ rec l n s i) (h:=some) (l.map f) (by rw[dD];omega) [] (fun n k s hk hs=>by
  rw[dD]at hk
  show M.qZ rec l (n+1) s (k:Int)=_
  rw[M.qZ];have hm:=dM hk;have hx:=dX List.length (l.map f) (f l[k]) (List.mem_map_of_mem hm);have hc:=Fe k s;simp only[cu]at hs;have c1:av (bif decide ((0:Int)<(k:Int))then s++[44,32]else s) (f l[k])=true:=bz (by omega);simp only[fK hk,cg,dV _ hk,aa.aD,hr _ hm,aw,al,ae,dU hk,Ff k (show s.length<=2000000000 by omega),c1,ak,du,cA hk (by omega:l.length<2^62),wV]) (fun n s=>by
  show M.qZ rec l (n+1) s _=_
  rw[dD,M.qZ];simp)
 simp only[lp]at e;rw[e]
theorem aiW{rec:aa->Option (List UInt8)}(f:aa->List UInt8)(t:aa)(hL:t.bj.length<=1048576)(hb:aW List.length t.bj+aW List.length (t.Kids.map f)<=134217728)(hlab:(t.Kind=16\/t.Kind=17)->t.Kids.length=t.bj.length)(SH:(t.Kind=18\/t.Kind=19)->t.Kids.length=0)
 (hK:t.Kind=16\/t.Kind=17\/t.Kind=18\/t.Kind=19) (hr:∀x∈t.Kids,(dt t.Kind&&(x.Kind==1))=true\/rec x=some (f x)):M.Bh rec t=some (([32,123,32]++jn (labT t.Kind t.bj t.Kids (t.Kids.map f)))++[32,125]):=by
 have hs1:=vv t.Kind t.bj t.Kids (t.Kids.map f);have hs2:=m5 t.Kind t.bj t.Kids (t.Kids.map f);have hle:=dk List.length t.bj;have hj:=kV (labT t.Kind t.bj t.Kids (t.Kids.map f));unfold M.Bh;have e:=E9 (F:=fun n s i=>M.rf rec n s i t) (h:=some) (labT t.Kind t.bj t.Kids (t.Kids.map f)) (by omega) [] (fun n k s hk hs=>by
  have hk':=hk;rw[m5]at hk;have hg:=E8 t.Kind f t.bj t.Kids k hk;rw[getD_lt hk',dV _ hk]at hg
  show M.rf rec (n+1) s (k:Int) t=_
  rw[M.rf];have hml:=dX List.length t.bj t.bj[k] (dM hk);have hc:=Fe k s;simp only[cu]at hs;have c1:av (bif decide ((0:Int)<(k:Int))then s++[44,32]else s) t.bj[k]=true:=bz (by omega);simp only[fK hk,cg,dV _ hk,aa.aD,ae,dU hk,Ff k (show s.length<=2000000000 by omega),c1,ak,du,cA hk (by omega:t.bj.length<2^62),hg];generalize hq:(bif decide ((0:Int)<(k:Int))then s++[44,32]else s)=q at*;rcases hK with h|h|h|h
  ·have hkk:k<t.Kids.length:=by rw[hlab (.inl h)];exact hk
   have hm:=dM hkk;have hx:=dX List.length (t.Kids.map f) (f t.Kids[k]) (List.mem_map_of_mem hm);have er:rec t.Kids[k]=some (f t.Kids[k]):=(hr _ hm).resolve_left (by rw[h,show dt 16=false from rfl,cr];decide);have c2:av [58,32] (f t.Kids[k])=true:=bz (by simp only[aU,cu];omega);have c3:av (q++t.bj[k]) ([58,32]++f t.Kids[k])=true:=bz (by simp only[aM,aU,cu];omega);rw[dif_pos hkk];simp only[h,dV _ hkk,er,aw,al,dU hkk,c2,c3,ak,de,iz,du,ae];simp only[fw]
  ·have hkk:k<t.Kids.length:=by rw[hlab (.inr h)];exact hk
   have hm:=dM hkk;have n16:((17:Int)==16)=false:=rfl;rw[dif_pos hkk];cases h1:(t.Kids[k].Kind==1)
   ·have hx:=dX List.length (t.Kids.map f) (f t.Kids[k]) (List.mem_map_of_mem hm);have er:rec t.Kids[k]=some (f t.Kids[k]):=(hr _ hm).resolve_left (by rw[h1,Bool.and_false];decide);have c2:av [40] (f t.Kids[k])=true:=bz (by simp only[aU,cu];omega);have c3:av ([40]++f t.Kids[k]) [41]=true:=bz (by simp only[aM,aU,cu];omega);have c4:av (q++t.bj[k]) (([40]++f t.Kids[k])++[41])=true:=bz (by simp only[aM,aU,cu];omega);simp only[h,n16,yi,h1,dV _ hkk,er,aw,al,dU hkk,c2,c3,c4,ak,de,iz,du,bq,cO,rI,eB,bu,ae,aj];simp only[fw]
   ·simp only[h,n16,yi,h1,dV _ hkk,dU hkk,ak,de,iz,du,bq,cO,rI,eB,bu,Bool.and_false,ae,aj]
  ·have hkk:¬k<t.Kids.length:=by rw[SH (.inl h)];omega
   have n16:((18:Int)==16)=false:=rfl;have n17:((18:Int)==17)=false:=rfl;have ft:(false==true)=false:=rfl;rw[dif_neg hkk];simp only[h,n16,n17,ft,cr,bq,iz,rI,ak,ae,aj]
  ·have hkk:¬k<t.Kids.length:=by rw[SH (.inr h)];omega
   have n16:((19:Int)==16)=false:=rfl;have n17:((19:Int)==17)=false:=rfl;have ft:(false==true)=false:=rfl;rw[dif_neg hkk];simp only[h,n16,n17,ft,cr,bq,iz,rI,ak,ae,aj]) (fun n s=>by
  show M.rf rec (n+1) s _ t=_
  rw[m5,M.rf];simp)
 simp only[lp]at e;rw[aa.aD,e];have c1:av [32,123,32] (jn (labT t.Kind t.bj t.Kids (t.Kids.map f)))=true:=bz (by simp only[aU,cu];omega);have c2:av ([32,123,32]++jn (labT t.Kind t.bj t.Kids (t.Kids.map f))) [32,125]=true:=bz (by simp only[aM,aU,cu];omega);simp only[c1,c2,ak,ae]
theorem aiX:fX 14=[114,101,115,117,108,116]:=by decide
theorem aiY{rec:aa->Option (List UInt8)}(f:aa->List UInt8)(t:aa)(x y:aa)(hxy:t.Kids=[x,y])(hb:(f x).length+(f y).length<=134217728)(hx:(x.Kind==1)=true\/rec x=some (f x))(hy:(y.Kind==1)=true\/rec y=some (f y)):M.Bi rec x y=some (fX 14++ta t (t.Kids.map f)):=by
 unfold M.Bi ta;rw[hxy,aiX];simp only[fy,List.map_nil,aU,cu,List.getD_cons_zero,List.getD_cons_succ,aa.aD,yi];have e2:((((0+1+1:Nat)):Int)==2)=true:=rfl;rw[e2];simp only[cO,aj];cases h1:(x.Kind==1)<;>cases h2:(y.Kind==1)
 ·have ex:=hx.resolve_left (by rw[h1];decide);have ey:=hy.resolve_left (by rw[h2];decide);have c1:av [44,32] (f y)=true:=bz (by simp only[aU,cu];omega);have c2:av (f x) ([44,32]++f y)=true:=bz (by simp only[aM,aU,cu];omega);have c3:av [114,101,115,117,108,116,60] (f x++([44,32]++f y))=true:=bz (by simp only[aM,aU,cu];omega);have c4:av ([114,101,115,117,108,116,60]++(f x++([44,32]++f y))) [62]=true:=bz (by simp only[aM,aU,cu];omega);simp only[ex,ey,bq,cO,ak,ae,aj,aw,al,du,iz,c1,c2,c3,c4];simp
 ·have ex:=hx.resolve_left (by rw[h1];decide);have c3:av [114,101,115,117,108,116,60] (f x)=true:=bz (by simp only[aM,aU,cu];omega);have c4:av ([114,101,115,117,108,116,60]++f x) [62]=true:=bz (by simp only[aM,aU,cu];omega);simp only[ex,bq,cO,ak,Bool.and_false,eB,ae,aj,aw,al,du,iz,rI,c3,c4];simp
 ·have ey:=hy.resolve_left (by rw[h2];decide);have c1:av [44,32] (f y)=true:=bz (by simp only[aU,cu];omega);have c2:av [95] ([44,32]++f y)=true:=bz (by simp only[aM,aU,cu];omega);have c3:av [114,101,115,117,108,116,60] ([95]++([44,32]++f y))=true:=bz (by simp only[aM,aU,cu];omega);have c4:av ([114,101,115,117,108,116,60]++([95]++([44,32]++f y))) [62]=true:=bz (by simp only[aM,aU,cu];omega);simp only[ey,bq,cO,ak,Bool.and_false,eB,cr,ae,aj,aw,al,du,iz,rI,c1,c2,c3,c4];simp
 ·simp
theorem SI:∀(m n:Nat)(t:aa),n<m->t.sz<=1048576->0<=cf n t->M.m6 m t=some (cQ (n+1) t)
 |0,n,t,h,_,_=>by omega
 |m+1,0,t,h,_,h0=>absurd h0 (by show ¬(0:Int)<= -1;omega)
 |m+1,n+1,t,h,hs,h0=>by
  show M.Fg (M.m6 m) t=_
  have hS:=aiQ h0;have hz:=aa.cF t;have hrec:∀x∈t.Kids,0<=cf n x->M.m6 m x=some (cQ (n+1) x):=fun x hx h=>SI m n x (by omega) (by have:=aa.AQ hx;omega) h
  have hrk:∀x∈t.Kids,(dt t.Kind&&(x.Kind==1))=true\/M.m6 m x=some (cQ (n+1) x):=fun x hx=>(hS.kid x hx).imp id (hrec x hx)
  have hk:=aa.EW hs;have hkl:=Sv (n+1) t.Kids;have hkw:=Lx t.Kind;have hj:=kV (t.Kids.map (cQ (n+1)));have hle:=dk List.length t.bj;have hsk:=dk aa.sz t.Kids;have hmk:(t.Kids.map (cQ (n+1))).length=t.Kids.length:=dD _;have hl:=vv t.Kind t.bj t.Kids (t.Kids.map (cQ (n+1)));have hll:=m5 t.Kind t.bj t.Kids (t.Kids.map (cQ (n+1)));have hj2:=kV (labT t.Kind t.bj t.Kids (t.Kids.map (cQ (n+1))));rw[cQ];unfold M.Fg bodyT E6 E7;cases h30:(t.Kind==30)
  ·have hK:1<=t.Kind/\t.Kind<=23:=hS.kin.resolve_right (fun e=>by rw[e]at h30;exact absurd h30 (by decide));obtain⟨w1,w2⟩:=kwS hK.1 hK.2;simp only[aj,E5,aiR,aiS,aiT,w1,w2,ak,du,bu,aa.aD];have c1:av (fX t.Kind) [60]=true:=bz (by simp only[aM,aU,cu];omega);have c2:av (fX t.Kind++[60]) t.Name=true:=bz (by simp only[aM,aU,cu];omega);have c3:av ((fX t.Kind++[60])++t.Name) [62]=true:=bz (by simp only[aM,aU,cu];omega);have c4:av (fX t.Kind++[60]) (jn (t.Kids.map (cQ (n+1))))=true:=bz (by simp only[aM,aU,cu];omega);have c5:av ((fX t.Kind++[60])++jn (t.Kids.map (cQ (n+1)))) [62]=true:=bz (by simp only[aM,aU,cu];omega);cases hW:((t.Kind==12)||((t.Kind==13)||((t.Kind==22)||((t.Kind==23)||(t.Kind==15)))))
   ·simp only[aj];cases vd:(t.Kind==14)
    ·simp only[aj];cases h20:((t.Kind==20)||(t.Kind==21))
     ·simp only[aj];cases hL:((t.Kind==16)||((t.Kind==17)||((t.Kind==18)||(t.Kind==19))))
      ·simp only[aj,ae]
      ·have hL':t.Kind=16\/t.Kind=17\/t.Kind=18\/t.Kind=19:=by simpa only[fG,dJ]using hL
       have r:=aiW (rec:=M.m6 m) (cQ (n+1)) t (by omega) (by omega) hS.lab hS.non hL' hrk;have c6:av (fX t.Kind) (([32,123,32]++jn (labT t.Kind t.bj t.Kids (t.Kids.map (cQ (n+1)))))++[32,125])=true:=bz (by simp only[aM,aU,cu];omega);simp only[r,c6,ae,aw,al,ak];simp only[fw]
     ·simp only[c1,c2,c3,ae,ak]
    ·have e14:t.Kind=14:=dJ.1 vd;have h2:=hS.res e14;obtain⟨x,y,hxy⟩:∃x y,t.Kids=[x,y]:=by
      match hh:t.Kids,h2 with
      |[x,y],_=>exact⟨x,y,rfl⟩
     have h20:((t.Kind==20)||(t.Kind==21))=false:=by rw[e14];rfl
     have u:∀z∈t.Kids,(z.Kind==1)=true\/M.m6 m z=some (cQ (n+1) z):=fun z hz=>(hrk z hz).imp (fun q=>(Bool.and_eq_true_iff.1 q).2) id
     have hkl':=hkl;rw[hxy]at hkl';simp only[fy,List.map_nil,aW]at hkl';have hsz:=hz;rw[hxy]at hsz;simp only[aW]at hsz;have r:=aiY (rec:=M.m6 m) (cQ (n+1)) t x y hxy (by omega) (u x (by rw[hxy];simp)) (u y (by rw[hxy];simp));have i0:inB (0:Int) t.Kids.length=true:=by rw[hxy];rfl
     have i1:inB (1:Int) t.Kids.length=true:=by rw[hxy];rfl
     have g0:List.getD t.Kids (Int.toNat 0) aa.zero=x:=by rw[hxy];rfl
     have g1:List.getD t.Kids (Int.toNat 1) aa.zero=y:=by rw[hxy];rfl
     simp only[g0,g1,i0,i1,r,h20,e14,ae,aj,aw,al,ak];rfl
   ·have hW':t.Kind=12\/t.Kind=13\/t.Kind=22\/t.Kind=23\/t.Kind=15:=by simpa only[fG,dJ]using hW
    have h20:((t.Kind==20)||(t.Kind==21))=false:=by rcases hW' with e|e|e|e|e<;>rw[e]<;>rfl
    have hun:dt t.Kind=false:=by rcases hW' with e|e|e|e|e<;>rw[e]<;>rfl
    have r:=aiV (rec:=M.m6 m) (cQ (n+1)) t.Kids hk (by omega) (fun x hx=>(hrk x hx).resolve_left (by rw[hun,cr];decide));simp only[h20,r,c1,c4,c5,ae,aj,aw,al,ak]
  ·simp only[ae]
theorem LG(t:aa)(hs:t.sz<=1048576)(h:0<=cf 4 t):M.yj t=some (cQ 5 t):=SI ad 4 t (by have:=bA;omega) hs h
end M
namespace M
open Go.V (inB bS av ad bA)
def ji(u:aK):List UInt8:=bif !(u.As==[])then u.Name++([32,97,115,32]++u.As)else u.Name
def iL(p:ax):List UInt8:=(p.Name++[58,32])++cQ 5 p.Term
def pg(x:ah):List UInt8:=bif x.Async then(x.Name++[58,32])++[97,115,121,110,99,32]else x.Name++[58,32]
def vz(x:ah):List UInt8:=pg x++(([102,117,110,99,40]++jn (x.Params.map iL))++[41])
def ku(pt:bf->List UInt8)(x:ah):List UInt8:=
 bif x.Kind==1 then[114,101,115,111,117,114,99,101,32]++x.Name
 else bif x.Kind==2 then(([116,121,112,101,32]++x.Name)++[32,61,32])++cQ 5 x.Term
 else bif x.Kind==4 then((([117,115,101,32]++pt x.From)++[46,123])++jn (x.Uses.map ji))++[125]
 else bif x.Term.Kind !=1 then vz x++([32,45,62,32]++cQ 5 x.Term)else vz x
theorem aiZ(u:aK):(ji u).length<=u.sz+4:=by
 have:=aK.cF u;unfold ji;cases (u.As==[])<;>simp<;>omega
theorem Bj:∀l:List aK,aW List.length (l.map ji)<=20*aW aK.sz l
 |[]=>by simp[aW]
 |u::r=>by have:=aiZ u;have:=Bj r;simp only[fy,aW];omega
theorem ai0(p:ax):(iL p).length<=16*p.sz+16:=by
 have:=ax.cF p;have:=tc 5 p.Term;unfold iL;simp only[aM,aU,cu];omega
theorem Bl:∀l:List ax,aW List.length (l.map iL)<=20*aW ax.sz l
 |[]=>by simp[aW]
 |u::r=>by have:=ai0 u;have:=Bl r;simp only[fy,aW];omega
theorem LH(x:ah):(pg x).length<=x.Name.length+8:=by
 unfold pg;cases x.Async<;>simp
theorem m7(p:bf):(dw p).length<=p.sz+2:=by
 have:=bf.cF p;unfold dw;cases (p.bo==[])<;>cases (p.Version==[])<;>simp<;>omega
theorem pj(p:bf):(eK p).length<=p.sz+2:=by
 have:=bf.cF p;unfold eK;cases (p.bo==[])<;>cases (p.Version==[])<;>simp<;>omega
theorem LI(pt:bf->List UInt8)(hp:∀p,(pt p).length<=p.sz+2)(x:ah):(ku pt x).length<=40*x.sz+40:=by
 have hz:=ah.cF x;have h1:=tc 5 x.Term;have h2:=Bj x.Uses;have h3:=Bl x.Params;have h4:=LH x;have h5:=hp x.From;have j1:=kV (x.Uses.map ji);have j2:=kV (x.Params.map iL);have l1:=dk List.length (x.Uses.map ji);have l2:=dk List.length (x.Params.map iL);unfold ku vz;cases (x.Kind==1)<;>cases (x.Kind==2)<;>cases (x.Kind==4)<;>cases (x.Term.Kind !=1)<;>simp only[ae,aj,aM,aU,cu]<;>omega
theorem ai1(x:ah)(h:x.sz<=1048576):M.pn x.Uses ((x.Uses.length:Nat):Int) ad 0 x []=some (x,x.Uses.map ji):=by
 have hz:=ah.cF x;have hl:=dk aK.sz x.Uses;have e:=Ly (F:=fun n i o=>M.pn x.Uses ((x.Uses.length:Nat):Int) n i x o) (h:=fun o=>some (x,o)) ji x.Uses (by omega) [] (fun n k out hk ho=>by
  show M.pn x.Uses ((x.Uses.length:Nat):Int) (n+1) (k:Int) x out=_
  rw[M.pn];have hm:=dX aK.sz x.Uses x.Uses[k] (dM hk);have hu:=aK.cF x.Uses[k];have hc:∀y:List UInt8,decide (out.length+[y].length<=1073741824)=true:=fun y=>E4 (by simp at ho⊢;omega)
  have c1:av [32,97,115,32] x.Uses[k].As=true:=bz (by simp only[aU,cu];omega);have c2:av x.Uses[k].Name ([32,97,115,32]++x.Uses[k].As)=true:=bz (by simp only[aM,aU,cu];omega);simp only[fK hk,cg,dV _ hk,ae,dU hk,hc,c1,c2,ak,du,ah.aD,cA hk (by omega:x.Uses.length<2^62)];rfl) (fun n out=>by
  show M.pn x.Uses ((x.Uses.length:Nat):Int) (n+1) _ x out=_
  rw[M.pn];simp only[Int.lt_irrefl,mC,aj,ah.aD])
 simpa using e
theorem ai2(text:List UInt8)(x:ah)(h:x.sz<=1048576):M.po text x.Params ((x.Params.length:Nat):Int) ad 0 x []=some (text,x,x.Params.map iL):=by
 have hz:=ah.cF x;have hl:=dk ax.sz x.Params;have e:=Ly (F:=fun n i o=>M.po text x.Params ((x.Params.length:Nat):Int) n i x o) (h:=fun o=>some (text,x,o)) iL x.Params (by omega) [] (fun n k out hk ho=>by
  show M.po text x.Params ((x.Params.length:Nat):Int) (n+1) (k:Int) x out=_
  rw[M.po];have hm:=dX ax.sz x.Params x.Params[k] (dM hk);have hu:=ax.cF x.Params[k];have ht:=tc 5 x.Params[k].Term;have hc:∀y:List UInt8,decide (out.length+[y].length<=1073741824)=true:=fun y=>E4 (by simp at ho⊢;omega)
  have c1:av x.Params[k].Name [58,32]=true:=bz (by simp only[aU,cu];omega);have c2:av (x.Params[k].Name++[58,32]) (cQ 5 x.Params[k].Term)=true:=bz (by simp only[aM,aU,cu];omega);have et:M.tf x.Params[k].Term 5=some (cQ 5 x.Params[k].Term):=SC _ (by omega);simp only[fK hk,cg,dV _ hk,ae,aa.aD,et,aw,al,dU hk,hc,c1,c2,ak,ah.aD,cA hk (by omega:x.Params.length<2^62)];rfl) (fun n out=>by
  show M.po text x.Params ((x.Params.length:Nat):Int) (n+1) _ x out=_
  rw[M.po];simp only[Int.lt_irrefl,mC,aj,ah.aD])
 simpa using e
theorem ai3(x:ah)(h:x.sz<=1048576):M.Bm x=some (ku dw x):=by
 have hz:=ah.cF x;have h1:=tc 5 x.Term;have h2:=Bj x.Uses;have h3:=Bl x.Params;have h4:=LH x;have h5:=m7 x.From;have j1:=kV (x.Uses.map ji);have j2:=kV (x.Params.map iL);have l1:=dk List.length (x.Uses.map ji);have l2:=dk List.length (x.Params.map iL);have et:M.tf x.Term 5=some (cQ 5 x.Term):=SC _ (by omega);have ep:M.s7 x.From=some (dw x.From):=Si _ (by omega);have ej1:=E3 (x.Uses.map ji) (by omega);have ej2:=E3 (x.Params.map iL) (by omega);have ex:ah.re x=x:=ah.aD x;unfold M.Bm ku;cases hK1:(x.Kind==1)
 ·cases hK2:(x.Kind==2)
  ·cases hK4:(x.Kind==4)
   ·have c1:av x.Name [58,32]=true:=bz (by simp only[aM,aU,cu];omega);have c2:av (x.Name++[58,32]) [97,115,121,110,99,32]=true:=bz (by simp only[aM,aU,cu];omega);have c3:av [102,117,110,99,40] (jn (x.Params.map iL))=true:=bz (by simp only[aM,aU,cu];omega);have c4:av ([102,117,110,99,40]++jn (x.Params.map iL)) [41]=true:=bz (by simp only[aM,aU,cu];omega);have c5:av (pg x) (([102,117,110,99,40]++jn (x.Params.map iL))++[41])=true:=bz (by simp only[aM,aU,cu];omega);have c6:av [32,45,62,32] (cQ 5 x.Term)=true:=bz (by simp only[aM,aU,cu];omega);have c7:av (vz x) ([32,45,62,32]++cQ 5 x.Term)=true:=bz (by unfold vz;simp only[aM,aU,cu];omega);simp only[aj,ex,ai2 _ x h,aa.aD,et,ej2,aw,al];rw[show(bif x.Async then(x.Name++[58,32])++[97,115,121,110,99,32]else x.Name++[58,32])=pg x from rfl];rw[show pg x++(([102,117,110,99,40]++jn (x.Params.map iL))++[41])=vz x from rfl];simp only[c1,c2,c3,c4,c5,c6,c7,ak,du,ae]
   ·have c1:av [117,115,101,32] (dw x.From)=true:=bz (by simp only[aM,aU,cu];omega);have c2:av ([117,115,101,32]++dw x.From) [46,123]=true:=bz (by simp only[aM,aU,cu];omega);have c3:av (([117,115,101,32]++dw x.From)++[46,123]) (jn (x.Uses.map ji))=true:=bz (by simp only[aM,aU,cu];omega);have c4:av ((([117,115,101,32]++dw x.From)++[46,123])++jn (x.Uses.map ji)) [125]=true:=bz (by simp only[aM,aU,cu];omega);simp only[aj,ae,ex,ai1 x h,ep,ej1,aw,al,c1,c2,c3,c4,ak]
  ·have c1:av [116,121,112,101,32] x.Name=true:=bz (by simp only[aM,aU,cu];omega);have c2:av ([116,121,112,101,32]++x.Name) [32,61,32]=true:=bz (by simp only[aM,aU,cu];omega);have c3:av (([116,121,112,101,32]++x.Name)++[32,61,32]) (cQ 5 x.Term)=true:=bz (by simp only[aM,aU,cu];omega);simp only[aj,ae,aa.aD,et,aw,al,c1,c2,c3,ak]
 ·have c1:av [114,101,115,111,117,114,99,101,32] x.Name=true:=bz (by simp only[aM,aU,cu];omega);simp only[ae,c1,ak]
def mj(x:ah):Bool:= !((decide ((6:Int)<((x.Params.length:Nat):Int))||decide ((16:Int)<((x.Uses.length:Nat):Int)))||(decide (cf 4 x.Term<0)&&((x.Kind==2)||(x.Kind==3))))&&((x.Params.all fun p=> !decide (cf 4 p.Term<0))&&(decide (1<=x.Kind)&&decide (x.Kind<=4)))
theorem SJ(x:ah)(hl:x.Params.length<=6):∀(f k:Nat),x.Params.length-k<f->k<=x.Params.length->M.yk f (k:Int) x=some (bif((x.Params.drop k).all fun p=> !decide (cf 4 p.Term<0))then .inr x else .inl false)
 |0,k,h,_=>by omega
 |f+1,k,h,hk=>by
  rw[M.yk];have ex:ah.re x=x:=ah.aD x;rcases cP k x.Params.length with q|q
  ·have ih:=SJ x hl f (k+1) (by omega) (by omega);rw[jV q,DI];simp only[fK q,cg,dV _ q,aa.aD,SG,aw,al,ae,dU q,ak,cA q (by omega:x.Params.length<2^62),ex,ih];cases decide (cf 4 x.Params[k].Term<0)<;>rfl
  ·simp only[kS q,aj,ex];rw[List.drop_eq_nil_of_le q];rfl
theorem ai6(x:ah):M.Bn x=some (mj x):=by
 unfold M.Bn mj;have ex:ah.re x=x:=ah.aD x;simp only[aa.aD,SG,aw,al,du,ak,ae];cases hc:((decide ((6:Int)<((x.Params.length:Nat):Int))||decide ((16:Int)<((x.Uses.length:Nat):Int)))||(decide (cf 4 x.Term<0)&&((x.Kind==2)||(x.Kind==3))))
 ·have hl:x.Params.length<=6:=by
   simp only[ox,dR]at hc;omega
  have e:=SJ x hl ad 0 (by have:=bA;omega) (by omega);rw[show((0:Nat):Int)=0 from rfl,ll]at e;simp only[aj,ex,e,bq,bu];cases (x.Params.all fun p=> !decide (cf 4 p.Term<0))<;>rfl
 ·rfl
theorem ai7(x:ah)(s0:List UInt8)(h:x.sz<=1048576)(h0:s0.length<=100000000):M.pq ad s0 0 x=some (s0++jn (x.Uses.map ji)):=by
 have hz:=ah.cF x;have hl:=dk aK.sz x.Uses;have h2:=Bj x.Uses;exact E9 (F:=fun n s i=>M.pq n s i x) (h:=some) (x.Uses.map ji) (by rw[dD];omega) s0 (fun n k s hk hs=>by
  rw[dD]at hk
  show M.pq (n+1) s (k:Int) x=_
  rw[M.pq];have hm:=dX aK.sz x.Uses x.Uses[k] (dM hk);have hu:=aK.cF x.Uses[k];have hc:=Fe k s;have ex:ah.re x=x:=ah.aD x;have c0:=Ff k (s:=s) (by omega);have c1:av (bif decide ((0:Int)<(k:Int))then s++[44,32]else s) x.Uses[k].Name=true:=bz (by omega);have c2:av [32,97,115,32] x.Uses[k].As=true:=bz (by simp only[aU,cu];omega);have c3:av ((bif decide ((0:Int)<(k:Int))then s++[44,32]else s)++x.Uses[k].Name) ([32,97,115,32]++x.Uses[k].As)=true:=bz (by simp only[aM,aU,cu];omega);simp only[fK hk,cg,dV _ hk,ae,dU hk,c0,c1,c2,c3,ak,du,cA hk (by omega:x.Uses.length<2^62),ex,wV];unfold ji;cases (x.Uses[k].As==[])<;>simp only[bq,cO,ae,aj,fw]) (fun n s=>by
  show M.pq (n+1) s _ x=_
  rw[dD,M.pq];simp only[Int.lt_irrefl,mC,aj])
theorem ai8(x:ah)(s0:List UInt8)(h:x.sz<=1048576)(h0:s0.length<=100000000)(hp:∀p∈x.Params,0<=cf 4 p.Term):M.pv ad s0 0 x=some (s0++jn (x.Params.map iL),x):=by
 have hz:=ah.cF x;have hl:=dk ax.sz x.Params;have h2:=Bl x.Params;exact E9 (F:=fun n s i=>M.pv n s i x) (h:=fun s=>some (s,x)) (x.Params.map iL) (by rw[dD];omega) s0 (fun n k s hk hs=>by
  rw[dD]at hk
  show M.pv (n+1) s (k:Int) x=_
  rw[M.pv];have hm:=dX ax.sz x.Params x.Params[k] (dM hk);have hu:=ax.cF x.Params[k];have ht:=tc 5 x.Params[k].Term;have hc:=Fe k s;have ex:ah.re x=x:=ah.aD x;have et:=LG x.Params[k].Term (by omega) (hp _ (dM hk));have c0:=Ff k (s:=s) (by omega);have c1:av x.Params[k].Name [58,32]=true:=bz (by simp only[aU,cu];omega);have c2:av (x.Params[k].Name++[58,32]) (cQ 5 x.Params[k].Term)=true:=bz (by simp only[aM,aU,cu];omega);have c3:av (bif decide ((0:Int)<(k:Int))then s++[44,32]else s) ((x.Params[k].Name++[58,32])++cQ 5 x.Params[k].Term)=true:=bz (by simp only[aM,aU,cu];omega);simp only[fK hk,cg,dV _ hk,ae,aa.aD,et,aw,al,dU hk,c0,c1,c2,c3,ak,du,cA hk (by omega:x.Params.length<2^62),ex,wV];rfl) (fun n s=>by
  show M.pv (n+1) s _ x=_
  rw[dD,M.pv];simp only[Int.lt_irrefl,mC,aj,ah.aD])
theorem ai9(x:ah)(h:x.sz<=1048576)(hS:mj x=true):M.Bo x=some (ku eK x):=by
 have hz:=ah.cF x;have h1:=tc 5 x.Term;have h2:=Bj x.Uses;have h3:=Bl x.Params;have h4:=LH x;have h5:=pj x.From;have j1:=kV (x.Uses.map ji);have j2:=kV (x.Params.map iL);have l1:=dk List.length (x.Uses.map ji);have l2:=dk List.length (x.Params.map iL);have ep:M.s8 x.From=some (eK x.From):=Sj _ (by omega);unfold mj at hS;simp only[cC,fE,ox,Bool.and_eq_false_iff,dR,cz,fb,fE,dR]at hS;obtain⟨⟨⟨hs1,hs2⟩,hs3⟩,hs4,hs5,hs6⟩:=hS;have hp:∀p∈x.Params,0<=cf 4 p.Term:=fun p hp=>by have:=hs4 p hp;omega
 have ex:ah.re x=x:=ah.aD x;unfold M.Bo ku;cases hK1:(x.Kind==1)
 ·cases hK2:(x.Kind==2)
  ·cases hK4:(x.Kind==4)
   ·have hK3:(x.Kind==3)=true:=by
     rw[bE]at hK1 hK2 hK4;rw[dJ];omega
    have ht:0<=cf 4 x.Term:=by
     rcases hs3 with q|⟨_,q⟩
     ·omega
     ·rw[hK3]at q;cases q
    have et:=LG x.Term (by omega) ht;have c1:av x.Name [58,32]=true:=bz (by simp only[aM,aU,cu];omega);have c2:av (x.Name++[58,32]) [97,115,121,110,99,32]=true:=bz (by simp only[aM,aU,cu];omega);have c3:av (pg x) [102,117,110,99,40]=true:=bz (by simp only[aM,aU,cu];omega);have c4:av ((pg x++[102,117,110,99,40])++jn (x.Params.map iL)) [41]=true:=bz (by simp only[aM,aU,cu];omega);have c6:av [32,45,62,32] (cQ 5 x.Term)=true:=bz (by simp only[aM,aU,cu];omega);have c7:av (((pg x++[102,117,110,99,40])++jn (x.Params.map iL))++[41]) ([32,45,62,32]++cQ 5 x.Term)=true:=bz (by simp only[aM,aU,cu];omega);simp only[aj,ex];rw[show(bif x.Async then(x.Name++[58,32])++[97,115,121,110,99,32]else x.Name++[58,32])=pg x from rfl];rw[ai8 x _ h (by simp only[aM,aU,cu];omega) hp];simp only[aa.aD,et,aw,al,c1,c2,c3,c4,c6,c7,ak,du,ae];unfold vz;cases (x.Term.Kind !=1)<;>simp only[ae,aj,fw]
   ·have c1:av [117,115,101,32] (eK x.From)=true:=bz (by simp only[aM,aU,cu];omega);have c2:av ([117,115,101,32]++eK x.From) [46,123]=true:=bz (by simp only[aM,aU,cu];omega);have c4:av ((([117,115,101,32]++eK x.From)++[46,123])++jn (x.Uses.map ji)) [125]=true:=bz (by simp only[aM,aU,cu];omega);have e:=ai7 x (([117,115,101,32]++eK x.From)++[46,123]) h (by simp only[aM,aU,cu];omega);simp only[aj,ae,ex,ep,aw,al,e,c1,c2,c4,ak]
  ·have ht:0<=cf 4 x.Term:=by
    rcases hs3 with q|⟨q,_⟩
    ·omega
    ·rw[hK2]at q;cases q
   have et:=LG x.Term (by omega) ht;have c1:av [116,121,112,101,32] x.Name=true:=bz (by simp only[aM,aU,cu];omega);have c2:av ([116,121,112,101,32]++x.Name) [32,61,32]=true:=bz (by simp only[aM,aU,cu];omega);have c3:av (([116,121,112,101,32]++x.Name)++[32,61,32]) (cQ 5 x.Term)=true:=bz (by simp only[aM,aU,cu];omega);simp only[aj,ae,aa.aD,et,aw,al,c1,c2,c3,ak]
 ·have c1:av [114,101,115,111,117,114,99,101,32] x.Name=true:=bz (by simp only[aM,aU,cu];omega);simp only[ae,c1,ak]
def nU(p:bf):Prop:=p.bo=[]->p.Version=[]
theorem aja(x:ah)(h:nU x.From):ku eK x=ku dw x:=by
 unfold ku;rw[Sl x.From h]
end M
namespace M
open Go.V (inB bS av ad bA)
theorem nV{α:Type}(g:α->List UInt8):∀l:List α,((l.map g).flatten).length<=aW (fun x=>(g x).length) l
 |[]=>by simp[aW]
 |x::r=>by have:=nV g r;simp only[fy,List.flatten_cons,aM,aW];omega
theorem tg{α Y:Type}{F:Nat->Int->List UInt8->Option Y}{h:List UInt8->Option Y}(g:α->List UInt8)(l:List α)(hn:l.length<=2097152)(s0:List UInt8)
 (step:∀f k s,∀hk:k<l.length,s.length<=s0.length+aW (fun x=>(g x).length) l->F (f+1) (k:Int) s=F f ((k+1:Nat):Int) (s++g l[k]))
 (stop:∀f s,F (f+1) (l.length:Int) s=h s):F ad 0 s0=h (s0++(l.map g).flatten):=by
 have key:∀f k,k<=l.length->l.length-k<f->F f (k:Int) (s0++((l.take k).map g).flatten)=h (s0++(l.map g).flatten):=by
  intro f
  induction f with
  |zero=>intro k h1 h2;omega
  |succ f ih=>
   intro k h1 h2;rcases cP k l.length with hk|hk
   ·have hj:=nV g (l.take k);have ht:=LA (fun x=>(g x).length) l k;rw[step f k _ hk (by rw[aM];omega)];have e:(s0++((l.take k).map g).flatten)++g l[k]=s0++((l.take (k+1)).map g).flatten:=by
     rw[zl,bB hk,Option.toList_some,lj,List.flatten_append,fw];simp
    rw[e];exact ih (k+1) (by omega) (by omega)
   ·have:k=l.length:=by omega
    subst this;rw[stop,zf]
 have:=key ad 0 (jr _) (by have:=bA;omega);simpa using this
theorem vA(s o:List UInt8)(h:o.length+s.length<=1073741824):M.nW s o=some (((s.length:Nat):Int),o++s):=by
 unfold M.nW;rw[List.map_id'];simp only[E4 h,ak,ae]
def kX(pt:bf->List UInt8)(x:ah):List UInt8:=([32,32]++ku pt x)++[59,10]
def jG(pt:bf->List UInt8)(f:aE):List UInt8:=((([10,105,110,116,101,114,102,97,99,101,32]++f.Name)++[32,123,10])++(f.Items.map (kX pt)).flatten)++[125,10]
def iW:List (List UInt8):=[[105,109,112,111,114,116],[101,120,112,111,114,116],[105,110,99,108,117,100,101]]
def ky(K:Int):List UInt8:=bif decide (1<=K)&&decide (K<=3)then List.getD ([]::iW) K.toNat []else[]
def kY(pt:bf->List UInt8)(x:aG):List UInt8:=((([32,32]++ky x.Kind)++[32])++pt x.Path)++[59,10]
def worldT(pt:bf->List UInt8)(w:aJ):List UInt8:=((([10,119,111,114,108,100,32]++w.Name)++[32,123,10])++(w.Items.map (kY pt)).flatten)++[125,10]
def firstT(x:aA):List UInt8:=((([112,97,99,107,97,103,101,32]++x.Name)++[64])++x.Version)++[59,10]
def kZ(pt:bf->List UInt8)(x:aA):List UInt8:=(firstT x++(x.aF.map (jG pt)).flatten)++(x.Worlds.map (worldT pt)).flatten
theorem LJ(K:Int):(ky K).length<=7:=by
 unfold ky;have h:∀w∈([]::iW),w.length<=7:=by
  have:((([]:List UInt8)::iW).all fun w=>decide (w.length<=7))=true:=by decide
  intro w hw;simpa using fb.1 this w hw
 cases decide (1<=K)&&decide (K<=3)
 ·simp
 ·rw[ae];rcases cP K.toNat (List.length ([]::iW))with hk|hk
  ·rw[getD_lt hk];exact h _ (dM hk)
  ·rw[fh,f8 hk];simp
theorem ajb{pt:bf->List UInt8}(hp:∀p,(pt p).length<=p.sz+2)(x:ah):(kX pt x).length<=40*x.sz+44:=by
 have:=LI pt hp x;unfold kX;simp only[aM,aU,cu];omega
theorem yl{pt:bf->List UInt8}(hp:∀p,(pt p).length<=p.sz+2):∀l:List ah,aW (fun x=>(kX pt x).length) l<=48*aW ah.sz l
 |[]=>by simp[aW]
 |x::r=>by have:=ajb hp x;have:=yl hp r;simp only[aW];omega
theorem ajc{pt:bf->List UInt8}(hp:∀p,(pt p).length<=p.sz+2)(f:aE):(jG pt f).length<=48*f.sz+16:=by
 have h1:=aE.cF f;have h2:=nV (kX pt) f.Items;have h3:=yl hp f.Items;unfold jG;simp only[aM,aU,cu];omega
theorem Bq{pt:bf->List UInt8}(hp:∀p,(pt p).length<=p.sz+2):∀l:List aE,aW (fun x=>(jG pt x).length) l<=48*aW aE.sz l
 |[]=>by simp[aW]
 |x::r=>by have:=ajc hp x;have:=Bq hp r;simp only[aW];omega
theorem SK{pt:bf->List UInt8}(hp:∀p,(pt p).length<=p.sz+2)(x:aG):(kY pt x).length<=x.sz+14:=by
 have h1:=aG.cF x;have h2:=LJ x.Kind;have h3:=hp x.Path;unfold kY;simp only[aM,aU,cu];omega
theorem ym{pt:bf->List UInt8}(hp:∀p,(pt p).length<=p.sz+2):∀l:List aG,aW (fun x=>(kY pt x).length) l<=48*aW aG.sz l
 |[]=>by simp[aW]
 |x::r=>by have:=SK hp x;have:=ym hp r;simp only[aW];omega
theorem ajd{pt:bf->List UInt8}(hp:∀p,(pt p).length<=p.sz+2)(f:aJ):(worldT pt f).length<=48*f.sz+16:=by
 have h1:=aJ.cF f;have h2:=nV (kY pt) f.Items;have h3:=ym hp f.Items;unfold worldT;simp only[aM,aU,cu];omega
theorem Fh{pt:bf->List UInt8}(hp:∀p,(pt p).length<=p.sz+2):∀l:List aJ,aW (fun x=>(worldT pt x).length) l<=48*aW aJ.sz l
 |[]=>by simp[aW]
 |x::r=>by have:=ajd hp x;have:=Fh hp r;simp only[aW];omega
theorem aje(a:List aE)(b c:Int)(x:aA)(l:List ah)(h:aW ah.sz l<=1048576)(o:List UInt8)(ho:o.length<=300000000):M.pw a b c l ((l.length:Nat):Int) x ad 0 o=some (a,b,c,x,o++(l.map (kX dw)).flatten):=by
 have hl:=dk ah.sz l;have hs:=yl m7 l;exact tg (F:=fun n i s=>M.pw a b c l ((l.length:Nat):Int) x n i s) (h:=fun s=>some (a,b,c,x,s)) (kX dw) l (by omega) o (fun n k s hk hs'=>by
  show M.pw a b c l ((l.length:Nat):Int) x (n+1) (k:Int) s=_
  rw[M.pw];have hm:=dX ah.sz l l[k] (dM hk);have hi:=LI dw m7 l[k];have ex:∀y:ah,ah.re y=y:=ah.aD;have et:=ai3 l[k] (by omega);have c1:av [32,32] (ku dw l[k])=true:=bz (by simp only[aU,cu];omega);have c2:av ([32,32]++ku dw l[k]) [59,10]=true:=bz (by simp only[aM,aU,cu];omega);have ew:=vA (([32,32]++ku dw l[k])++[59,10]) s (by simp only[aM,aU,cu];omega);simp only[fK hk,cg,dV _ hk,ae,ex,et,aw,al,dU hk,c1,c2,ew,ak,cA hk (by omega:l.length<2^62)];rfl) (fun n s=>by
  show M.pw a b c l ((l.length:Nat):Int) x (n+1) _ s=_
  rw[M.pw];simp only[Int.lt_irrefl,mC,aj])
theorem ajf(x:aA)(l:List aE)(h:aW aE.sz l<=1048576)(o:List UInt8)(ho:o.length<=100000000):M.px ad l ((l.length:Nat):Int) 0 x o=some (x,o++(l.map (jG dw)).flatten):=by
 have hl:=dk aE.sz l;have hs:=Bq m7 l;exact tg (F:=fun n i s=>M.px n l ((l.length:Nat):Int) i x s) (h:=fun s=>some (x,s)) (jG dw) l (by omega) o (fun n k s hk hs'=>by
  show M.px (n+1) l ((l.length:Nat):Int) (k:Int) x s=_
  rw[M.px];have hm:=dX aE.sz l l[k] (dM hk);have hz:=aE.cF l[k];have hi:=nV (kX dw) l[k].Items;have hi2:=yl m7 l[k].Items;have c1:av [10,105,110,116,101,114,102,97,99,101,32] l[k].Name=true:=bz (by simp only[aU,cu];omega);have c2:av ([10,105,110,116,101,114,102,97,99,101,32]++l[k].Name) [32,123,10]=true:=bz (by simp only[aM,aU,cu];omega);have w1:=vA (([10,105,110,116,101,114,102,97,99,101,32]++l[k].Name)++[32,123,10]) s (by simp only[aM,aU,cu];omega);have ei:=aje l ((l.length:Nat):Int) (k:Int) x l[k].Items (by omega) (s++(([10,105,110,116,101,114,102,97,99,101,32]++l[k].Name)++[32,123,10])) (by simp only[aM,aU,cu];omega);have w2:=vA [125,10] ((s++(([10,105,110,116,101,114,102,97,99,101,32]++l[k].Name)++[32,123,10]))++(l[k].Items.map (kX dw)).flatten) (by simp only[aM,aU,cu];omega);simp only[fK hk,cg,dV _ hk,ae,aw,al,dU hk,c1,c2,w1,w2,ei,ak,cA hk (by omega:l.length<2^62)];unfold jG;simp only[fw]) (fun n s=>by
  show M.px (n+1) l ((l.length:Nat):Int) _ x s=_
  rw[M.px];simp only[Int.lt_irrefl,mC,aj])
theorem ajg(a:List aJ)(b c:Int)(l:List aG)(h:aW aG.sz l<=1048576)(o:List UInt8)(ho:o.length<=300000000):M.py a b c l ((l.length:Nat):Int) ([]::iW) ad 0 o=some (a,b,c,[]::iW,o++(l.map (kY dw)).flatten):=by
 have hl:=dk aG.sz l;have hs:=ym m7 l;exact tg (F:=fun n i s=>M.py a b c l ((l.length:Nat):Int) ([]::iW) n i s) (h:=fun s=>some (a,b,c,[]::iW,s)) (kY dw) l (by omega) o (fun n k s hk hs'=>by
  show M.py a b c l ((l.length:Nat):Int) ([]::iW) (n+1) (k:Int) s=_
  rw[M.py];have hm:=dX aG.sz l l[k] (dM hk);have hz:=aG.cF l[k];have hi:=SK m7 l[k];have hpl:=m7 l[k].Path;have hww:=LJ l[k].Kind;have et:=Si l[k].Path (by omega);have c0:av [32,32] (ky l[k].Kind)=true:=bz (by simp only[aU,cu];omega);have c1:av ([32,32]++ky l[k].Kind) [32]=true:=bz (by simp only[aM,aU,cu];omega);have c2:av (([32,32]++ky l[k].Kind)++[32]) (dw l[k].Path)=true:=bz (by simp only[aM,aU,cu];omega);have c3:av ((([32,32]++ky l[k].Kind)++[32])++dw l[k].Path) [59,10]=true:=bz (by simp only[aM,aU,cu];omega);have ew:=vA (((([32,32]++ky l[k].Kind)++[32])++dw l[k].Path)++[59,10]) s (by simp only[aM,aU,cu];omega);have hw:(bif decide (1<=l[k].Kind)&&decide (l[k].Kind<=3)then List.getD ([]::iW) (Int.toNat l[k].Kind) []else[])=ky l[k].Kind:=rfl;have hib:((inB l[k].Kind (List.length ([]::iW))&&true)|| !(decide (1<=l[k].Kind)&&decide (l[k].Kind<=3)))=true:=by
   cases hq:(decide (1<=l[k].Kind)&&decide (l[k].Kind<=3))
   ·simp
   ·simp only[cC,cz]at hq;obtain⟨j,hj⟩:=Dz (show 0<=l[k].Kind by omega);rw[hj,dH,show List.length (([]:List UInt8)::iW)=4 from rfl,aO (show j<4 by omega)];rfl
  simp only[fK hk,cg,dV _ hk,ae,et,aw,al,dU hk,hw,ak,du];simp only[c0,c1,c2,c3,ew,hib,aw,al,ak,ae,cA hk (by omega:l.length<2^62)];rfl) (fun n s=>by
  show M.py a b c l ((l.length:Nat):Int) ([]::iW) (n+1) _ s=_
  rw[M.py];simp only[Int.lt_irrefl,mC,aj])
theorem aji(l:List aJ)(h:aW aJ.sz l<=1048576)(o:List UInt8)(ho:o.length<=200000000):M.pz ad l ((l.length:Nat):Int) 0 ([]::iW) o=some (o++(l.map (worldT dw)).flatten):=by
 have hl:=dk aJ.sz l;have hs:=Fh m7 l;exact tg (F:=fun n i s=>M.pz n l ((l.length:Nat):Int) i ([]::iW) s) (h:=fun s=>some s) (worldT dw) l (by omega) o (fun n k s hk hs'=>by
  show M.pz (n+1) l ((l.length:Nat):Int) (k:Int) ([]::iW) s=_
  rw[M.pz];have hm:=dX aJ.sz l l[k] (dM hk);have hz:=aJ.cF l[k];have hi:=nV (kY dw) l[k].Items;have hi2:=ym m7 l[k].Items;have c1:av [10,119,111,114,108,100,32] l[k].Name=true:=bz (by simp only[aU,cu];omega);have c2:av ([10,119,111,114,108,100,32]++l[k].Name) [32,123,10]=true:=bz (by simp only[aM,aU,cu];omega);have w1:=vA (([10,119,111,114,108,100,32]++l[k].Name)++[32,123,10]) s (by simp only[aM,aU,cu];omega);have ei:=ajg l ((l.length:Nat):Int) (k:Int) l[k].Items (by omega) (s++(([10,119,111,114,108,100,32]++l[k].Name)++[32,123,10])) (by simp only[aM,aU,cu];omega);have w2:=vA [125,10] ((s++(([10,119,111,114,108,100,32]++l[k].Name)++[32,123,10]))++(l[k].Items.map (kY dw)).flatten) (by simp only[aM,aU,cu];omega);simp only[fK hk,cg,dV _ hk,ae,aw,al,dU hk,c1,c2,w1,w2,ei,ak,cA hk (by omega:l.length<2^62)];unfold worldT;simp only[fw]) (fun n s=>by
  show M.pz (n+1) l ((l.length:Nat):Int) _ ([]::iW) s=_
  rw[M.pz];simp only[Int.lt_irrefl,mC,aj])
theorem ajj(x:aA)(h:x.sz<=1048576):M.sY x=some (kZ dw x):=by
 have hz:=aA.cF x;have f1:=nV (jG dw) x.aF;have f2:=Bq m7 x.aF;have f3:=nV (worldT dw) x.Worlds;have f4:=Fh m7 x.Worlds;have c1:av [112,97,99,107,97,103,101,32] x.Name=true:=bz (by simp only[aM,aU,cu];omega);have c2:av ([112,97,99,107,97,103,101,32]++x.Name) [64]=true:=bz (by simp only[aM,aU,cu];omega);have c3:av (([112,97,99,107,97,103,101,32]++x.Name)++[64]) x.Version=true:=bz (by simp only[aM,aU,cu];omega);have c4:av ((([112,97,99,107,97,103,101,32]++x.Name)++[64])++x.Version) [59,10]=true:=bz (by simp only[aM,aU,cu];omega);have e0:((([112,97,99,107,97,103,101,32]++x.Name)++[64])++x.Version)++[59,10]=firstT x:=rfl;have fl:(firstT x).length<=1048700:=by unfold firstT;simp only[aM,aU,cu];omega
 have w:=vA (firstT x) [] (by simp only[cu];omega);have e1:=ajf x x.aF (by omega) (firstT x) (by omega);have e2:=aji x.Worlds (by omega) (firstT x++(x.aF.map (jG dw)).flatten) (by simp only[aM];omega);have e3:M.sg (kZ dw x)=some (kZ dw x):=by
  unfold M.sg;have:(kZ dw x).length<=1073741824:=by unfold kZ;simp only[aM];omega
  rw[aO this];rfl
 unfold M.sY;simp only[e0,w,lp,aw,al,e1];rw[show([[],[(105:UInt8),(109:UInt8),(112:UInt8),(111:UInt8),(114:UInt8),(116:UInt8)],[(101:UInt8),(120:UInt8),(112:UInt8),(111:UInt8),(114:UInt8),(116:UInt8)],[(105:UInt8),(110:UInt8),(99:UInt8),(108:UInt8),(117:UInt8),(100:UInt8),(101:UInt8)]]:List (List UInt8))=[]::iW from rfl,e2];simp only[];rw[show(firstT x++(x.aF.map (jG dw)).flatten)++(x.Worlds.map (worldT dw)).flatten=kZ dw x from rfl,e3];simp only[c1,c2,c3,c4,aw,al,ak,ae]
end M
namespace M
open Go.V (inB bS av ad bA)
def lT(f:aE):Bool:= !decide ((16:Int)<((f.Items.length:Nat):Int))&&f.Items.all mj
def rh(x:aG):Bool:=decide (1<=x.Kind)&&decide (x.Kind<=3)
def lU(w:aJ):Bool:= !decide ((16:Int)<((w.Items.length:Nat):Int))&&w.Items.all rh
def tj(x:aA):Bool:= !(decide ((8:Int)<((x.aF.length:Nat):Int))||decide ((8:Int)<((x.Worlds.length:Nat):Int)))&&(x.aF.all lT&&x.Worlds.all lU)
theorem SL(x:aA)(i:Nat)(hi:i<x.aF.length)(hl:x.aF[i].Items.length<=16):∀(f k:Nat),x.aF[i].Items.length-k<f->k<=x.aF[i].Items.length->M.yn (i:Int) x f (k:Int)=some (bif(x.aF[i].Items.drop k).all mj then .inr ((i:Int),x)else .inl false)
 |0,k,h,_=>by omega
 |f+1,k,h,hk=>by
  rw[M.yn];have ex:∀y:ah,ah.re y=y:=ah.aD;simp only[cg,dV _ hi,dU hi];rcases cP k x.aF[i].Items.length with q|q
  ·have ih:=SL x i hi hl f (k+1) (by omega) (by omega);rw[jV q,DI];simp only[fK q,cg,dV _ q,ex,ai6,aw,al,ae,dU q,ak,cA q (by omega:x.aF[i].Items.length<2^62),ih];cases mj x.aF[i].Items[k]<;>rfl
  ·simp only[kS q,aj,ak,ae];rw[List.drop_eq_nil_of_le q];rfl
theorem SN(x:aA)(hl:x.aF.length<=8):∀(f k:Nat),x.aF.length-k<f->k<=x.aF.length->M.yo f (k:Int) x=some (bif(x.aF.drop k).all lT then .inr x else .inl false)
 |0,k,h,_=>by omega
 |f+1,k,h,hk=>by
  rw[M.yo];rcases cP k x.aF.length with q|q
  ·have ih:=SN x hl f (k+1) (by omega) (by omega);rw[jV q,DI];simp only[fK q,cg,dV _ q,ae,dU q,ak];cases hc:decide ((16:Int)<((x.aF[k].Items.length:Nat):Int))
   ·have h16:x.aF[k].Items.length<=16:=by have:=of_decide_eq_false hc;omega
    have e:=SL x k q h16 ad 0 (by have:=bA;omega) (by omega);rw[show((0:Nat):Int)=0 from rfl,ll]at e;have es:lT x.aF[k]=x.aF[k].Items.all mj:=by unfold lT;rw[hc];rfl
    simp only[aj,e,es];cases x.aF[k].Items.all mj
    ·rfl
    ·simp only[ae,bu,cA q (by omega:x.aF.length<2^62),ih]
   ·have es:lT x.aF[k]=false:=by unfold lT;rw[hc];rfl
    simp only[ae,es];rfl
  ·simp only[kS q,aj];rw[List.drop_eq_nil_of_le q];rfl
theorem SO(x:aA)(i:Nat)(hi:i<x.Worlds.length)(hl:x.Worlds[i].Items.length<=16):∀(f k:Nat),x.Worlds[i].Items.length-k<f->k<=x.Worlds[i].Items.length->M.yp (i:Int) x f (k:Int)=some (bif(x.Worlds[i].Items.drop k).all rh then .inr ((i:Int),x)else .inl false)
 |0,k,h,_=>by omega
 |f+1,k,h,hk=>by
  rw[M.yp];simp only[cg,dV _ hi,dU hi];rcases cP k x.Worlds[i].Items.length with q|q
  ·have ih:=SO x i hi hl f (k+1) (by omega) (by omega);rw[jV q,DI];have ew:(decide (1<=x.Worlds[i].Items[k].Kind)&&decide (x.Worlds[i].Items[k].Kind<=3))=rh x.Worlds[i].Items[k]:=rfl;simp only[fK q,cg,dV _ q,ew,ae,dU q,ak,cA q (by omega:x.Worlds[i].Items.length<2^62),ih];cases rh x.Worlds[i].Items[k]<;>rfl
  ·simp only[kS q,aj,ak,ae];rw[List.drop_eq_nil_of_le q];rfl
theorem SQ(x:aA)(hl:x.Worlds.length<=8):∀(f k:Nat),x.Worlds.length-k<f->k<=x.Worlds.length->M.yq f (k:Int) x=some (bif(x.Worlds.drop k).all lU then .inr ()else .inl false)
 |0,k,h,_=>by omega
 |f+1,k,h,hk=>by
  rw[M.yq];rcases cP k x.Worlds.length with q|q
  ·have ih:=SQ x hl f (k+1) (by omega) (by omega);rw[jV q,DI];simp only[fK q,cg,dV _ q,ae,dU q,ak];cases hc:decide ((16:Int)<((x.Worlds[k].Items.length:Nat):Int))
   ·have h16:x.Worlds[k].Items.length<=16:=by have:=of_decide_eq_false hc;omega
    have e:=SO x k q h16 ad 0 (by have:=bA;omega) (by omega);rw[show((0:Nat):Int)=0 from rfl,ll]at e;have es:lU x.Worlds[k]=x.Worlds[k].Items.all rh:=by unfold lU;rw[hc];rfl
    simp only[aj,e,es];cases x.Worlds[k].Items.all rh
    ·rfl
    ·simp only[ae,bu,cA q (by omega:x.Worlds.length<2^62),ih]
   ·have es:lU x.Worlds[k]=false:=by unfold lU;rw[hc];rfl
    simp only[ae,es];rfl
  ·simp only[kS q,aj];rw[List.drop_eq_nil_of_le q];rfl
theorem ajk(x:aA):M.s6 x=some (tj x):=by
 unfold M.s6 tj;cases hc:(decide ((8:Int)<((x.aF.length:Nat):Int))||decide ((8:Int)<((x.Worlds.length:Nat):Int)))
 ·simp only[ox,dR]at hc;have e1:=SN x (by omega) ad 0 (by have:=bA;omega) (by omega);have e2:=SQ x (by omega) ad 0 (by have:=bA;omega) (by omega);rw[show((0:Nat):Int)=0 from rfl,ll]at e1 e2;simp only[aj,e1,bq,bu];cases x.aF.all lT
  ·rfl
  ·simp only[ae,e2,bu];cases x.Worlds.all lU<;>rfl
 ·rfl
theorem ajl(x:aA)(i:Nat)(hi:i<x.aF.length)(h:aW ah.sz x.aF[i].Items<=1048576)(hS:x.aF[i].Items.all mj=true)(o:List UInt8)(ho:o.length<=300000000):M.pA (i:Int) x ad o 0=some (o++(x.aF[i].Items.map (kX eK)).flatten,(i:Int),x):=by
 have hl:=dk ah.sz x.aF[i].Items;have hs:=yl pj x.aF[i].Items;exact tg (F:=fun n k s=>M.pA (i:Int) x n s k) (h:=fun s=>some (s,(i:Int),x)) (kX eK) x.aF[i].Items (by omega) o (fun n k s hk hs'=>by
  show M.pA (i:Int) x (n+1) s (k:Int)=_
  rw[M.pA];have hm:=dX ah.sz x.aF[i].Items x.aF[i].Items[k] (dM hk);have hi2:=LI eK pj x.aF[i].Items[k];have ex:∀y:ah,ah.re y=y:=ah.aD;have et:=ai9 x.aF[i].Items[k] (by omega) (fb.1 hS _ (dM hk));have c1:av [32,32] (ku eK x.aF[i].Items[k])=true:=bz (by simp only[aU,cu];omega);have c2:av ([32,32]++ku eK x.aF[i].Items[k]) [59,10]=true:=bz (by simp only[aM,aU,cu];omega);have c3:av s (([32,32]++ku eK x.aF[i].Items[k])++[59,10])=true:=bz (by simp only[aM,aU,cu];omega);simp only[cg,dV _ hi,dU hi];simp only[fK hk,cg,dV _ hk,ae,ex,et,aw,al,dU hk,c1,c2,c3,ak,cA hk (by omega:x.aF[i].Items.length<2^62)];rfl) (fun n s=>by
  show M.pA (i:Int) x (n+1) s _=_
  rw[M.pA];simp only[cg,dV _ hi,dU hi,Int.lt_irrefl,mC,aj,ak,ae])
theorem ajm(x:aA)(h:aW aE.sz x.aF<=1048576)(hS:x.aF.all lT=true)(o:List UInt8)(ho:o.length<=100000000):M.pB ad o 0 x=some (o++(x.aF.map (jG eK)).flatten,x):=by
 have hl:=dk aE.sz x.aF;have hs:=Bq pj x.aF;exact tg (F:=fun n k s=>M.pB n s k x) (h:=fun s=>some (s,x)) (jG eK) x.aF (by omega) o (fun n k s hk hs'=>by
  show M.pB (n+1) s (k:Int) x=_
  rw[M.pB];have hm:=dX aE.sz x.aF x.aF[k] (dM hk);have hz:=aE.cF x.aF[k];have hi:=nV (kX eK) x.aF[k].Items;have hi2:=yl pj x.aF[k].Items;have hF:=fb.1 hS _ (dM hk);unfold lT at hF;have c1:av [10,105,110,116,101,114,102,97,99,101,32] x.aF[k].Name=true:=bz (by simp only[aU,cu];omega);have c2:av ([10,105,110,116,101,114,102,97,99,101,32]++x.aF[k].Name) [32,123,10]=true:=bz (by simp only[aM,aU,cu];omega);have c3:av s (([10,105,110,116,101,114,102,97,99,101,32]++x.aF[k].Name)++[32,123,10])=true:=bz (by simp only[aM,aU,cu];omega);have ei:=ajl x k hk (by omega) (Bool.and_eq_true_iff.1 hF).2 (s++(([10,105,110,116,101,114,102,97,99,101,32]++x.aF[k].Name)++[32,123,10])) (by simp only[aM,aU,cu];omega);have c4:av ((s++(([10,105,110,116,101,114,102,97,99,101,32]++x.aF[k].Name)++[32,123,10]))++(x.aF[k].Items.map (kX eK)).flatten) [125,10]=true:=bz (by simp only[aM,aU,cu];omega);simp only[fK hk,cg,dV _ hk,ae,dU hk,c1,c2,c3,c4,ei,ak,cA hk (by omega:x.aF.length<2^62)];unfold jG;simp only[fw]) (fun n s=>by
  show M.pB (n+1) s _ x=_
  rw[M.pB];simp only[Int.lt_irrefl,mC,aj])
theorem wwS{K:Int}(h:(decide (1<=K)&&decide (K<=3))=true):List.getD (Option.getD M.jF default) (Int.toNat (Go.IntKind.wrap .i64 (K-1))) []=ky K/\inB (Go.IntKind.wrap .i64 (K-1)) (Option.getD M.jF default).length=true:=by
 have hc:=h;simp only[cC,cz]at h;rw[wrap_i64 (by omega) (by omega),show Option.getD M.jF default=iW from rfl];obtain⟨n,hn⟩:=Dz (show 0<=K-1 by omega);have hK:K=((n+1:Nat):Int):=by omega
 subst hK;unfold ky;rw[hc,ae,hn,cg,cg,dH,cz,show iW.length=3 from rfl];exact⟨rfl,by omega⟩
theorem ajo(x:aA)(i:Nat)(hi:i<x.Worlds.length)(h:aW aG.sz x.Worlds[i].Items<=1048576)(hS:x.Worlds[i].Items.all rh=true)(o:List UInt8)(ho:o.length<=300000000):M.pC (i:Int) x ad o 0=some (o++(x.Worlds[i].Items.map (kY eK)).flatten,(i:Int),x):=by
 have hl:=dk aG.sz x.Worlds[i].Items;have hs:=ym pj x.Worlds[i].Items;exact tg (F:=fun n k s=>M.pC (i:Int) x n s k) (h:=fun s=>some (s,(i:Int),x)) (kY eK) x.Worlds[i].Items (by omega) o (fun n k s hk hs'=>by
  show M.pC (i:Int) x (n+1) s (k:Int)=_
  rw[M.pC];have hm:=dX aG.sz x.Worlds[i].Items x.Worlds[i].Items[k] (dM hk);have hz:=aG.cF x.Worlds[i].Items[k];have hpl:=pj x.Worlds[i].Items[k].Path;have hww:=LJ x.Worlds[i].Items[k].Kind;have et:=Sj x.Worlds[i].Items[k].Path (by omega);obtain⟨w1,w2⟩:=wwS (fb.1 hS _ (dM hk):(decide (1<=x.Worlds[i].Items[k].Kind)&&decide (x.Worlds[i].Items[k].Kind<=3))=true);have w3:Option.isSome M.jF=true:=rfl;have c0:av [32,32] (ky x.Worlds[i].Items[k].Kind)=true:=bz (by simp only[aU,cu];omega);have c1:av ([32,32]++ky x.Worlds[i].Items[k].Kind) [32]=true:=bz (by simp only[aM,aU,cu];omega);have c2:av (([32,32]++ky x.Worlds[i].Items[k].Kind)++[32]) (eK x.Worlds[i].Items[k].Path)=true:=bz (by simp only[aM,aU,cu];omega);have c3:av ((([32,32]++ky x.Worlds[i].Items[k].Kind)++[32])++eK x.Worlds[i].Items[k].Path) [59,10]=true:=bz (by simp only[aM,aU,cu];omega);have c4:av s (((([32,32]++ky x.Worlds[i].Items[k].Kind)++[32])++eK x.Worlds[i].Items[k].Path)++[59,10])=true:=bz (by simp only[aM,aU,cu];omega);simp only[cg,dV _ hi,dU hi];simp only[fK hk,cg,dV _ hk,ae,et,aw,al,dU hk,w1,w2,w3,c0,c1,c2,c3,c4,ak,cA hk (by omega:x.Worlds[i].Items.length<2^62)];rfl) (fun n s=>by
  show M.pC (i:Int) x (n+1) s _=_
  rw[M.pC];simp only[cg,dV _ hi,dU hi,Int.lt_irrefl,mC,aj,ak,ae])
theorem ajp(x:aA)(h:aW aJ.sz x.Worlds<=1048576)(hS:x.Worlds.all lU=true)(o:List UInt8)(ho:o.length<=200000000):M.pD ad o 0 x=some (o++(x.Worlds.map (worldT eK)).flatten):=by
 have hl:=dk aJ.sz x.Worlds;have hs:=Fh pj x.Worlds;exact tg (F:=fun n k s=>M.pD n s k x) (h:=fun s=>some s) (worldT eK) x.Worlds (by omega) o (fun n k s hk hs'=>by
  show M.pD (n+1) s (k:Int) x=_
  rw[M.pD];have hm:=dX aJ.sz x.Worlds x.Worlds[k] (dM hk);have hz:=aJ.cF x.Worlds[k];have hi:=nV (kY eK) x.Worlds[k].Items;have hi2:=ym pj x.Worlds[k].Items;have hF:=fb.1 hS _ (dM hk);unfold lU at hF;have c1:av [10,119,111,114,108,100,32] x.Worlds[k].Name=true:=bz (by simp only[aU,cu];omega);have c2:av ([10,119,111,114,108,100,32]++x.Worlds[k].Name) [32,123,10]=true:=bz (by simp only[aM,aU,cu];omega);have c3:av s (([10,119,111,114,108,100,32]++x.Worlds[k].Name)++[32,123,10])=true:=bz (by simp only[aM,aU,cu];omega);have ei:=ajo x k hk (by omega) (Bool.and_eq_true_iff.1 hF).2 (s++(([10,119,111,114,108,100,32]++x.Worlds[k].Name)++[32,123,10])) (by simp only[aM,aU,cu];omega);have c4:av ((s++(([10,119,111,114,108,100,32]++x.Worlds[k].Name)++[32,123,10]))++(x.Worlds[k].Items.map (kY eK)).flatten) [125,10]=true:=bz (by simp only[aM,aU,cu];omega);simp only[fK hk,cg,dV _ hk,ae,dU hk,c1,c2,c3,c4,ei,ak,cA hk (by omega:x.Worlds.length<2^62)];unfold worldT;simp only[fw]) (fun n s=>by
  show M.pD (n+1) s _ x=_
  rw[M.pD];simp only[Int.lt_irrefl,mC,aj])
theorem SR(x:aA)(h:x.sz<=1048576)(hS:tj x=true):M.pf x=some (kZ eK x):=by
 have hz:=aA.cF x;unfold tj at hS;rw[cC,cC]at hS;have f1:=nV (jG eK) x.aF;have f2:=Bq pj x.aF;have c1:av [112,97,99,107,97,103,101,32] x.Name=true:=bz (by simp only[aM,aU,cu];omega);have c2:av ([112,97,99,107,97,103,101,32]++x.Name) [64]=true:=bz (by simp only[aM,aU,cu];omega);have c3:av (([112,97,99,107,97,103,101,32]++x.Name)++[64]) x.Version=true:=bz (by simp only[aM,aU,cu];omega);have c4:av ((([112,97,99,107,97,103,101,32]++x.Name)++[64])++x.Version) [59,10]=true:=bz (by simp only[aM,aU,cu];omega);have e0:((([112,97,99,107,97,103,101,32]++x.Name)++[64])++x.Version)++[59,10]=firstT x:=rfl;have fl:(firstT x).length<=1048700:=by unfold firstT;simp only[aM,aU,cu];omega
 have e1:=ajm x (by omega) hS.2.1 (firstT x) (by omega);have e2:=ajp x (by omega) hS.2.2 (firstT x++(x.aF.map (jG eK)).flatten) (by simp only[aM];omega);unfold M.pf;simp only[e0,e1,e2,c1,c2,c3,c4,ak,ae];rfl
def LK(x:aA):Prop:=(∀f∈x.aF,∀i∈f.Items,nU i.From)/\∀w∈x.Worlds,∀i∈w.Items,nU i.Path
theorem ajq(x:aA)(h:LK x):kZ eK x=kZ dw x:=by
 unfold kZ;have e1:x.aF.map (jG eK)=x.aF.map (jG dw):=by
  apply List.map_congr_left;intro f hf;unfold jG;rw[List.map_congr_left (g:=kX dw) fun i hi=>by unfold kX;rw[aja i (h.1 f hf i hi)]]
 have e2:x.Worlds.map (worldT eK)=x.Worlds.map (worldT dw):=by
  apply List.map_congr_left;intro f hf;unfold worldT;rw[List.map_congr_left (g:=kY dw) fun i hi=>by unfold kY;rw[Sl i.Path (h.2 f hf i hi)]]
 rw[e1,e2]
end M
namespace M
open Go.V (inB bS av ad bA)
def dB(u:Bool)(g:aa->Int)(x:aa):Int:=bif u&&(x.Kind==1)then 1 else g x
def eY{α:Type}(w:α->Int):List α->Int
 |[]=>0
 |x::r=>w x+eY w r
theorem LL{α:Type}(w:α->Int):∀a b:List α,eY w (a++b)=eY w a+eY w b
 |[],b=>by simp[eY]
 |x::a,b=>by rw[zk,eY,eY,LL w a b];omega
theorem Fj{α:Type}(w:α->Int):∀l:List α,(∀x∈l,0<=w x)->0<=eY w l
 |[],_=>by simp[eY]
 |x::r,h=>by have:=h x (by simp);have:=Fj w r fun y hy=>h y (by simp[hy]);rw[eY];omega
theorem SS(g:aa->Int)(u:Bool):∀(l:List aa)(s:Int),(∀x∈l,0<=dB u g x)->s+eY (dB u g) l<=12000->kW g u l s=s+eY (dB u g) l
 |[],s,_,_=>by simp[kW,eY]
 |x::r,s,h,hs=>by
  have h1:=h x (by simp);have h2:=Fj (dB u g) r fun y hy=>h y (by simp[hy])
  rw[eY]at hs⊢;have ih:=fun s'=>SS g u r s' fun y hy=>h y (by simp[hy])
  rw[kW];unfold dB at h1 hs⊢;cases hu:(u&&(x.Kind==1))<;>rw[hu]at h1 hs
  ·simp only[aj]at h1 hs⊢;rw[db (show ¬g x<0 by omega),db (show ¬12000<s by unfold dB at h2;omega),rI,aj];have:=ih (s+g x);unfold dB at this;rw[this (by omega)];omega
  ·simp only[ae]at h1 hs⊢;have:=ih (s+1);unfold dB at this;rw[this (by omega)];omega
theorem Br(d:Nat)(t:aa)(h1:t.bj.length<=16)(h2:t.Kids.length<=16)(h3:t.Name.length<=12)(hk:nS t.Kind=true)(hlo:lS t.Kind ((t.bj.length:Nat):Int)<=((t.Kids.length:Nat):Int))(hhi:((t.Kids.length:Nat):Int)<=kt t.Kind ((t.bj.length:Nat):Int))
 (hc:∀x∈t.Kids,0<=dB (dt t.Kind) (cf d) x) (hs:1+eY (dB (dt t.Kind) (cf d)) t.Kids<=12000):cf (d+1) t=1+eY (dB (dt t.Kind) (cf d)) t.Kids:=by
 rw[cf,db (show ¬(16:Int)<((t.bj.length:Nat):Int) by omega),db (show ¬(16:Int)<((t.Kids.length:Nat):Int) by omega),db (show ¬(12:Int)<((t.Name.length:Nat):Int) by omega),hk,aO hlo,aO hhi];exact SS _ _ _ _ hc hs
theorem SU{l:List ai}{k:Nat}(h:l.length<=k):bZ l k=ai.zero:=by
 unfold bZ;rw[fh,f8 h];rfl
theorem SV{l:List ai}{t:List UInt8}{k:Nat}(ht:t≠[])(h:aH l t k=true):k<l.length:=by
 rcases cP k l.length with q|q
 ·exact q
 ·unfold aH at h;rw[SU q,cC]at h;exact absurd (dJ.1 h.2).symm ht
theorem SX{l:List ai}{k:Nat}(h:gW l k=true):k<l.length:=by
 rcases cP k l.length with q|q
 ·exact q
 ·unfold gW at h;rw[SU q,cC]at h;exact absurd (dJ.1 h.1) (by show ¬(0:Int)=1;decide)
theorem nX{l:List ai}{t:List UInt8}(ht:t≠[]){k k':Nat}{v:Unit}(h:cE l t k=.ok v k'):k'=k+1/\k'<=l.length:=by
 unfold cE at h;cases hb:aH l t k<;>rw[hb]at h<;>cases h;exact⟨rfl,SV ht hb⟩
theorem SY{l:List ai}{k:Nat}(h:gW l k=true):(bZ l k).Text.length<=12:=by
 unfold gW lG at h;simp only[cC,cz]at h;exact h.2.2.1.2
theorem SZ{l:List ai}{k k':Nat}{v:List UInt8}(h:gX l k=.ok v k'):k'=k+1/\k'<=l.length/\v.length<=12:=by
 unfold gX at h;cases hb:gW l k<;>rw[hb]at h<;>cases h;exact⟨rfl,SX hb,SY hb⟩
theorem ajr{l:List ai}{k k':Nat}{v:List UInt8}(h:mf l k=.ok v k'):k'=k+1/\k'<=l.length/\v.length<=12:=by
 unfold mf at h;cases hb:mM l k<;>rw[hb]at h<;>cases h;unfold mM at hb;rw[cC]at hb;exact⟨rfl,SX hb.1,SY hb.1⟩
theorem LM{α:Type}{P:α->Prop}{w:α->Int}(l:List ai)(el:Nat->PR α)(he:∀(k:Nat)(v:α)(k':Nat),el k=.ok v k'->k<k'/\k'<=l.length/\P v/\0<=w v/\w v<=3*((k':Int)-(k:Int))):
 ∀(m:Nat)(acc:List α)(k:Nat)(vs:List α)(k':Nat),(∀v∈acc,P v/\0<=w v)->d4 l el m acc k=.ok vs k'->k<k'/\k'<=l.length/\acc.length+1<=vs.length/\vs.length<=acc.length+m+1/\(∀v∈vs,P v/\0<=w v)/\eY w vs<=eY w acc+3*((k':Int)-(k:Int))
 |m,acc,k,vs,k',ha,h=>by
  rw[d4.eq_def]at h;dsimp only at h;cases hk:el k with
  |no q=>rw[hk]at h;cases h
  |ok v k1=>
   rw[hk]at h;obtain⟨g1,g2,g3,g4,g5⟩:=he _ _ _ hk;have one:∀y∈acc++[v],P y/\0<=w y:=fun y hy=>by
    rcases aQ.1 hy with q|q
    ·exact ha y q
    ·rw[iE.1 q];exact⟨g3,g4⟩
   have es:eY w (acc++[v])=eY w acc+w v:=by rw[LL];simp[eY]
   have el':(acc++[v]).length=acc.length+1:=by simp
   cases m with
   |zero=>
    cases h;exact⟨g1,g2,by omega,by omega,one,by rw[es];omega⟩
   |succ m=>
    simp only at h;cases hc:aH l [44] k1<;>rw[hc]at h
    ·cases h;exact⟨g1,g2,by omega,by omega,one,by rw[es];omega⟩
    ·obtain⟨r1,r2,r3,r4,r5,r6⟩:=LM l el he m (acc++[v]) (k1+1) vs k' one h;rw[es]at r6;exact⟨by omega,r2,by omega,by omega,r5,by omega⟩
def LN(K:Int)(d:Nat)(v:List UInt8×List aa):Prop:=((K=16\/K=17)->v.2.length=1)/\((K≠16/\K≠17)->v.2=[])/\∀x∈v.2,0<=dB (dt K) (cf d) x
def pE(K:Int)(d:Nat)(v:List UInt8×List aa):Int:=eY (dB (dt K) (cf d)) v.2
theorem Bt{K:Int}{d:Nat}{t:aa}{c:Int}(h1:1<=cf d t)(h2:cf d t<=c)(hc:1<=c):0<=dB (dt K) (cf d) t/\dB (dt K) (cf d) t<=c:=by
 unfold dB;cases (dt K&&(t.Kind==1))<;>simp only[ae,aj]<;>omega
theorem S3{K:Int}{d:Nat}(h:dt K=true):dB (dt K) (cf d) dK=1:=by
 unfold dB;rw[h];rfl
theorem ajs{l:List ai}{K:Int}{d:Nat}(ih:∀(k:Nat)(t:aa)(k':Nat),d5 l d k=.ok t k'->k<k'/\k'<=l.length/\1<=cf d t/\cf d t<=3*((k':Int)-(k:Int))){k k':Nat}{v:List UInt8×List aa}(h:gK l K (d5 l d) k=.ok v k'):k<k'/\k'<=l.length/\LN K d v/\0<=pE K d v/\pE K d v<=3*((k':Int)-(k:Int)):=by
 unfold gK at h;obtain⟨w,k1,hw,h⟩:=bind_ok h;obtain⟨n1,n2,_⟩:=SZ hw;have fin:∀(t:aa)(c:Int),0<=dB (dt K) (cf d) t/\dB (dt K) (cf d) t<=c->(K=16\/K=17)->LN K d (w,[t])/\0<=pE K d (w,[t])/\pE K d (w,[t])<=c:=fun t c hc hK=>by
  have e:pE K d (w,[t])=dB (dt K) (cf d) t:=by unfold pE;simp[eY]
  rw[e];exact⟨⟨fun _=>rfl,fun q=>by omega,fun x hx=>by rw[iE.1 hx];exact hc.1⟩,hc.1,hc.2⟩
 cases h16:(K==(16:Int))<;>rw[h16]at h
 ·cases h17:(K==(17:Int))<;>rw[h17]at h
  ·cases h;rw[bE]at h16 h17;refine⟨by omega,n2,⟨fun q=>by omega,fun _=>rfl,fun x hx=>by cases hx⟩,?_,?_⟩
   ·show(0:Int)<=0;omega
   ·show(0:Int)<=_;omega
  ·have e17:=dJ.1 h17;simp only[aj,ae]at h;cases hc:aH l [40] k1<;>rw[hc]at h
   ·cases h;refine⟨by omega,n2,fin dK _ ?_ (.inr e17)⟩;rw[S3 (by rw[e17];rfl)];omega
   ·obtain⟨t0,k3,h0,h⟩:=bind_ok h;obtain⟨_,k4,h4,h⟩:=bind_ok h;cases h;obtain⟨a1,a2,a3,a4⟩:=ih _ _ _ h0;obtain⟨b1,b2⟩:=nX (by decide) h4;exact⟨by omega,b2,fin t0 _ (Bt a3 (by omega) (by omega)) (.inr e17)⟩
 ·obtain⟨_,k2,h2,h⟩:=bind_ok h;obtain⟨t0,k3,h0,h⟩:=bind_ok h;cases h;obtain⟨a1,a2,a3,a4⟩:=ih _ _ _ h0;obtain⟨b1,b2⟩:=nX (by decide) h2;exact⟨by omega,a2,fin t0 _ (Bt a3 (by omega) (by omega)) (.inl (dJ.1 h16))⟩
theorem LP{α β:Type}{w:β->Int}:∀(ps:List (α×List β)),(∀v∈ps,v.2.length=1)->(ps.map (·.2)).flatten.length=ps.length
 |[],_=>rfl
 |p::r,h=>by rw[fy,List.flatten_cons,aM,h p (by simp),LP (w:=w) r fun v hv=>h v (by simp[hv]),aU];omega
theorem flat_nil{α β:Type}:∀(ps:List (α×List β)),(∀v∈ps,v.2=[])->(ps.map (·.2)).flatten=[]
 |[],_=>rfl
 |p::r,h=>by rw[fy,List.flatten_cons,h p (by simp),flat_nil r fun v hv=>h v (by simp[hv])];rfl
theorem S4{α β:Type}(w:β->Int):∀(ps:List (α×List β)),eY w (ps.map (·.2)).flatten=eY (fun v=>eY w v.2) ps
 |[]=>rfl
 |p::r=>by rw[fy,List.flatten_cons,LL,S4 w r,eY]
theorem ajt{l:List ai}{d:Nat}(ih:∀(k:Nat)(t:aa)(k':Nat),d5 l d k=.ok t k'->k<k'/\k'<=l.length/\1<=cf d t/\cf d t<=3*((k':Int)-(k:Int))){k k':Nat}{v:List aa}(hk:k<=l.length)(h:nI l (d5 l d) k=.ok v k'):
 k<=k'/\k'<=l.length/\∃a b,v=[a,b]/\0<=dB (dt 14) (cf d) a/\0<=dB (dt 14) (cf d) b/\(dB (dt 14) (cf d) a+dB (dt 14) (cf d) b<=2\/dB (dt 14) (cf d) a+dB (dt 14) (cf d) b<=3*((k':Int)-(k:Int))-5):=by
 unfold nI at h;have hu:dB (dt 14) (cf d) dK=1:=S3 rfl;cases h60:aH l [60] k<;>rw[h60]at h
 ·cases h;exact⟨by omega,hk,dK,dK,rfl,by omega,by omega,by omega⟩
 ·simp only[ae]at h;have l60:=SV (by decide) h60;obtain⟨a,k1,ha,h⟩:=bind_ok h;obtain⟨b,k2,hb,h⟩:=bind_ok h;obtain⟨_,k3,h3,h⟩:=bind_ok h;cases h;obtain⟨n1,n2⟩:=nX (by decide) h3;have pa:k+1<k1/\0<=dB (dt 14) (cf d) a/\dB (dt 14) (cf d) a<=3*((k1:Int)-(k:Int))-3:=by
   cases h95:aH l [95] (k+1)<;>rw[h95]at ha
   ·obtain⟨a1,a2,a3,a4⟩:=ih _ _ _ ha;exact⟨by omega,Bt a3 (by omega) (by omega)⟩
   ·cases ha;exact⟨by omega,by omega,by omega⟩
  have pb:k1<=k2/\0<=dB (dt 14) (cf d) b/\dB (dt 14) (cf d) b<=1+3*((k2:Int)-(k1:Int)):=by
   cases iV:aH l [44] k1<;>rw[iV]at hb
   ·cases hb;exact⟨by omega,by omega,by omega⟩
   ·obtain⟨a1,a2,a3,a4⟩:=ih _ _ _ hb;exact⟨by omega,Bt a3 (by omega) (by omega)⟩
  exact⟨by omega,n2,a,b,rfl,pa.2.1,pb.2.1,by omega⟩
theorem Fo(l:List ai)(hl:l.length<=4001):∀(d k:Nat)(t:aa)(k':Nat),d5 l d k=.ok t k'->k<k'/\k'<=l.length/\1<=cf d t/\cf d t<=3*((k':Int)-(k:Int))
 |0,k,t,k',h=>by cases h
 |d+1,k,t,k',h=>by
  rw[d5]at h;obtain⟨w,k1,hw,h⟩:=bind_ok h;obtain⟨n1,n2,n3⟩:=SZ hw;have ih:=Fo l hl d;have hb:=EB w;generalize dO w=K at h hb;have leaf:∀(K':Int)(nm:List UInt8),nm.length<=12->nS K'=true->lS K' 0=0->kt K' 0=0->cf (d+1) (aa.mk K' nm [] [])=1:=fun K' nm hn hk h1 h2=>by
   have:=Br d (aa.mk K' nm [] []) (jr 16) (jr 16) hn hk (by show lS K' 0<=0;omega) (by show 0<=kt K' 0;omega) (fun x hx=>by cases hx) (by show(1:Int)+0<=12000;omega);rw[this];rfl
  cases c0:(K==0)<;>rw[c0]at h
  ·simp only[aj]at h;cases c1:((K==12)||((K==13)||((K==22)||(K==23))))<;>rw[c1]at h
   ·simp only[aj]at h;cases c2:(K==15)<;>rw[c2]at h
    ·simp only[aj]at h;cases c3:((K==20)||(K==21))<;>rw[c3]at h
     ·simp only[aj]at h;cases c4:(K==14)<;>rw[c4]at h
      ·simp only[aj]at h;cases c5:((K==16)||((K==17)||((K==18)||(K==19))))<;>rw[c5]at h
       ·cases h;have hK:nS K=true:=by
         unfold nS;rw[bE]at c0;rw[aO (show(1:Int)<=K by omega),aO (show K<=23 by omega)];rfl
        have c1':Be K=false:=c1;have c6:((K==16)||(K==17))=false:=by
         simp only[ox]at c5⊢;exact⟨c5.1,c5.2.1⟩
        have e:=leaf K [] (by simp) hK (by unfold lS;rw[c1',c4,c2,c6];rfl) (by unfold kt;rw[c1',c4,c2,c6];rfl);rw[e];exact⟨by omega,n2,by omega,by omega⟩
       ·simp only[ae]at h;obtain⟨_,k2,h2,h⟩:=bind_ok h;obtain⟨ps,k3,hp,h⟩:=bind_ok h;obtain⟨_,k4,h4,h⟩:=bind_ok h;cases h;obtain⟨m1,m2⟩:=nX (by decide) h2;obtain⟨m3,m4⟩:=nX (by decide) h4;obtain⟨r1,r2,r3,r4,r5,r6⟩:=LM (P:=LN K d) (w:=pE K d) l _ (fun k v k' hv=>ajs ih hv) 15 [] _ ps _ (fun v hv=>by cases hv) hp;simp only[cu]at r3 r4;have e0:eY (pE K d) []=0:=rfl;rw[e0]at r6;have hK:K=16\/K=17\/K=18\/K=19:=by simpa only[fG,dJ]using c5
        have LQ:nS K=true:=by rcases hK with e|e|e|e<;>rw[e]<;>rfl
        have S5:eY (dB (dt K) (cf d)) (ps.map (·.2)).flatten=eY (pE K d) ps:=S4 _ ps;have hlen:(((ps.map (·.2)).flatten.length:Nat):Int)=lS K ((ps.length:Nat):Int)/\(((ps.map (·.2)).flatten.length:Nat):Int)=kt K ((ps.length:Nat):Int)/\(ps.map (·.2)).flatten.length<=16:=by
         rcases hK with e|e|e|e
         ·have:=LP (w:=fun _=>0) ps fun v hv=>(r5 v hv).1.1 (.inl e)
          rw[this,e];exact⟨rfl,rfl,by omega⟩
         ·have:=LP (w:=fun _=>0) ps fun v hv=>(r5 v hv).1.1 (.inr e)
          rw[this,e];exact⟨rfl,rfl,by omega⟩
         ·have:=flat_nil ps fun v hv=>(r5 v hv).1.2.1 (by omega)
          rw[this,e];exact⟨rfl,rfl,by simp⟩
         ·have:=flat_nil ps fun v hv=>(r5 v hv).1.2.1 (by omega)
          rw[this,e];exact⟨rfl,rfl,by simp⟩
        have hnn:=Fj (pE K d) ps fun v hv=>(r5 v hv).2
        have e:=Br d (aa.mk K [] (ps.map (·.1)) (ps.map (·.2)).flatten) (by show(ps.map (·.1)).length<=16;rw[dD];omega) (by show(ps.map (·.2)).flatten.length<=16;exact hlen.2.2) (jr 12) LQ
         (by show lS K (((ps.map (·.1)).length:Nat):Int)<=_;rw[dD];exact Int.le_of_eq hlen.1.symm)
         (by show _<=kt K (((ps.map (·.1)).length:Nat):Int);rw[dD];exact Int.le_of_eq hlen.2.1)
         (fun x hx=>by
           obtain⟨q,hq,hx⟩:=List.mem_flatten.1 hx;obtain⟨v,hv,rfl⟩:=List.mem_map.1 hq;exact(r5 v hv).1.2.2 x hx)
         (by show 1+eY (dB (dt K) (cf d)) (ps.map (·.2)).flatten<=12000;rw[S5];omega)
        have e:cf (d+1) (aa.mk K [] (ps.map (·.1)) (ps.map (·.2)).flatten)=1+eY (dB (dt K) (cf d)) (ps.map (·.2)).flatten:=e;rw[e,S5];exact⟨by omega,m4,by omega,by omega⟩
      ·have e14:=dJ.1 c4;subst e14;simp only[ae]at h;obtain⟨ts,k2,hp,h⟩:=bind_ok h;cases h;obtain⟨r1,r2,a,b,rfl,ra,rb,rs⟩:=ajt ih n2 hp;have e:=Br d (aa.mk 14 [] [] [a,b]) (jr 16) (by show 2<=16;omega) (jr 12) rfl (by show(2:Int)<=2;omega) (by show(2:Int)<=2;omega)
        (fun x hx=>by
          have hx:x∈[a,b]:=hx;simp only[fF,my,or_false]at hx;rcases hx with q|q<;>rw[q]<;>assumption)
        (by show 1+(dB (dt 14) (cf d) a+(dB (dt 14) (cf d) b+0))<=12000;omega)
       have e:cf (d+1) (aa.mk 14 [] [] [a,b])=1+(dB (dt 14) (cf d) a+(dB (dt 14) (cf d) b+0)):=e;rw[e];exact⟨by omega,r2,by omega,by omega⟩
     ·simp only[ae]at h;obtain⟨_,k2,h2,h⟩:=bind_ok h;obtain⟨nm,k3,h3,h⟩:=bind_ok h;obtain⟨_,k4,h4,h⟩:=bind_ok h;cases h;obtain⟨m1,m2⟩:=nX (by decide) h2;obtain⟨m3,m4⟩:=nX (by decide) h4;obtain⟨i1,i2,i3⟩:=ajr h3;have hK:K=20\/K=21:=by simpa only[fG,dJ]using c3
      have e:=leaf K nm i3 (by rcases hK with e|e<;>rw[e]<;>rfl) (by rcases hK with e|e<;>rw[e]<;>rfl) (by rcases hK with e|e<;>rw[e]<;>rfl);rw[e];exact⟨by omega,m4,by omega,by omega⟩
    ·have e15:=dJ.1 c2;subst e15;simp only[ae]at h;obtain⟨_,k2,h2,h⟩:=bind_ok h;obtain⟨ts,k3,hp,h⟩:=bind_ok h;obtain⟨_,k4,h4,h⟩:=bind_ok h;cases h;obtain⟨m1,m2⟩:=nX (by decide) h2;obtain⟨m3,m4⟩:=nX (by decide) h4;obtain⟨r1,r2,r3,r4,r5,r6⟩:=LM (P:=fun t=>0<=dB (dt 15) (cf d) t) (w:=dB (dt 15) (cf d)) l _ (fun k v k' hv=>by
      obtain⟨a1,a2,a3,a4⟩:=ih _ _ _ hv;have:=Bt (K:=15) a3 a4 (by omega);exact⟨a1,a2,this.1,this.1,this.2⟩) 5 [] _ ts _ (fun v hv=>by cases hv) hp
     simp only[cu]at r3 r4;have e0:eY (dB (dt 15) (cf d)) []=0:=rfl;rw[e0]at r6;have hnn:=Fj (dB (dt 15) (cf d)) ts fun v hv=>(r5 v hv).2
     have e:=Br d (aa.mk 15 [] [] ts) (jr 16) (by show ts.length<=16;omega) (jr 12) rfl (by show(1:Int)<=((ts.length:Nat):Int);omega) (by show((ts.length:Nat):Int)<=6;omega)
      (fun x hx=>(r5 x hx).1) (by show 1+eY (dB (dt 15) (cf d)) ts<=12000;omega)
     have e:cf (d+1) (aa.mk 15 [] [] ts)=1+eY (dB (dt 15) (cf d)) ts:=e;rw[e];exact⟨by omega,m4,by omega,by omega⟩
   ·simp only[ae]at h;obtain⟨_,k2,h2,h⟩:=bind_ok h;obtain⟨t0,k3,h0,h⟩:=bind_ok h;obtain⟨_,k4,h4,h⟩:=bind_ok h;cases h;obtain⟨m1,m2⟩:=nX (by decide) h2;obtain⟨m3,m4⟩:=nX (by decide) h4;obtain⟨a1,a2,a3,a4⟩:=ih _ _ _ h0;have hK:K=12\/K=13\/K=22\/K=23:=by simpa only[fG,dJ]using c1
    have LQ:nS K=true:=by rcases hK with e|e|e|e<;>rw[e]<;>rfl
    have hu:dt K=false:=by rcases hK with e|e|e|e<;>rw[e]<;>rfl
    have h1:Be K=true:=c1;have ec:dB (dt K) (cf d) t0=cf d t0:=by unfold dB;rw[hu];rfl
    have e:=Br d (aa.mk K [] [] [t0]) (jr 16) (by show 1<=16;omega) (jr 12) LQ (by show lS K 0<=1;unfold lS;rw[h1];show(1:Int)<=1;omega) (by show 1<=kt K 0;unfold kt;rw[h1];show(1:Int)<=1;omega)
     (fun x hx=>by have hx:x∈[t0]:=hx;rw[iE.1 hx];show 0<=dB (dt K) (cf d) t0;rw[ec];omega)
     (by show 1+(dB (dt K) (cf d) t0+0)<=12000;rw[ec];omega)
    have e:cf (d+1) (aa.mk K [] [] [t0])=1+(dB (dt K) (cf d) t0+0):=e;rw[e,ec];exact⟨by omega,m4,by omega,by omega⟩
  ·cases h;rw[leaf 30 w n3 rfl rfl rfl];exact⟨by omega,n2,by omega,by omega⟩
end M
namespace M
open Go.V (inB bS av ad bA)
theorem aju{l:List ai}(hl:l.length<=4001){k k':Nat}{v:ax}(h:kn l k=.ok v k'):0<=cf 4 v.Term:=by
 unfold kn at h;obtain⟨_,_,_,h⟩:=bind_ok h;obtain⟨_,_,_,h⟩:=bind_ok h;obtain⟨t,_,ht,h⟩:=bind_ok h;cases h;have:=(Fo l hl 4 _ _ _ ht).2.2.1
 show 0<=cf 4 t
 omega
theorem ajv:cf 4 dK=1:=rfl
theorem Fp(x:ah)(h1:x.Params.length<=6)(h2:x.Uses.length<=16)(h3:(x.Kind=2\/x.Kind=3)->0<=cf 4 x.Term)(h4:∀p∈x.Params,0<=cf 4 p.Term)(h5:1<=x.Kind)(h6:x.Kind<=4):mj x=true:=by
 unfold mj;rw[db (show ¬(6:Int)<((x.Params.length:Nat):Int) by omega),db (show ¬(16:Int)<((x.Uses.length:Nat):Int) by omega),aO h5,aO h6];have e:(x.Params.all fun p=> !decide (cf 4 p.Term<0))=true:=by
  rw[fb];intro p hp;have:=h4 p hp;rw[db (by omega)];rfl
 rw[e];cases hk:((x.Kind==2)||(x.Kind==3))
 ·simp
 ·have hK:x.Kind=2\/x.Kind=3:=by simpa only[fG,dJ]using hk
  have:=h3 hK;rw[db (show ¬cf 4 x.Term<0 by omega)];rfl
def Fq(x:ah):Prop:=mj x=true/\nU x.From
theorem S7{l:List ai}{k k':Nat}{p:bf}(h:oR l k=.ok p k'):nU p:=by
 unfold oR at h;obtain⟨a,k1,ha,h⟩:=bind_ok h;cases h47:aH l [47] k1<;>rw[h47]at h
 ·cases h;exact fun _=>rfl
 ·simp only[ae]at h;obtain⟨b,k2,hb,h⟩:=bind_ok h;have ne:a≠[]:=by
   unfold gX at ha;cases hn:gW l k<;>rw[hn]at ha<;>cases ha;intro e;unfold gW at hn;rw[e,cC]at hn;exact absurd hn.2 (by decide)
  cases h64:aH l [64] k2<;>rw[h64]at h
  ·cases h;exact fun _=>rfl
  ·simp only[ae]at h;obtain⟨v,k3,hv,h⟩:=bind_ok h;cases h;exact fun e=>absurd e ne
theorem ajw(l:List ai)(hl:l.length<=4001)(nm:List UInt8)(k:Nat)(v:ah)(k':Nat)(h:nL l nm k=.ok v k'):Fq v:=by
 have:∀as k,qO l nm as k=.ok v k'->Fq v:=fun as k h=>by
  unfold qO at h;obtain⟨_,_,_,h⟩:=bind_ok h;obtain⟨ps,k1,hp,h⟩:=bind_ok h;obtain⟨t,k2,ht,h⟩:=bind_ok h;cases h;have h1:ps.length<=6/\∀p∈ps,0<=cf 4 p.Term:=by
   unfold xF at hp;obtain⟨_,k3,_,hp⟩:=bind_ok hp;cases hc:aH l [41] k3<;>rw[hc]at hp
   ·simp only[aj]at hp;obtain⟨qs,_,hq,hp⟩:=bind_ok hp;obtain⟨_,_,_,hp⟩:=bind_ok hp;cases hp;have:=vr (P:=fun v:ax=>0<=cf 4 v.Term) l _ (fun _ _ _ hv=>aju hl hv) 5 [] _ _ _ (fun v hv=>by cases hv) hq;exact⟨by simpa using this.1,this.2⟩
   ·cases hp;exact⟨by simp,fun p hp=>by cases hp⟩
  have h2:0<=cf 4 t:=by
   unfold Aw at ht;cases hc:aH l [45,62] k1<;>rw[hc]at ht
   ·cases ht;rw[ajv];omega
   ·have:=(Fo l hl 4 _ _ _ ht).2.2.1;omega
  exact⟨Fp _ h1.1 (by simp) (fun _=>h2) h1.2 (by show(1:Int)<=3;decide) (by show(3:Int)<=4;decide),fun _=>rfl⟩
 unfold nL at h;cases hc:aH l qN k<;>rw[hc]at h<;>exact this _ _ h
theorem ajx(l:List ai)(hl:l.length<=4001)(k:Nat)(v:ah)(k':Nat)(h:ko l k=.ok v k'):Fq v:=by
 unfold ko nM at h;obtain⟨x,k1,hx,h⟩:=bind_ok h;obtain⟨_,_,_,h⟩:=bind_ok h;cases h;obtain⟨nm,k2,_,hx⟩:=bind_ok hx;unfold kR at hx;cases jD:aH l [58] k2<;>rw[jD]at hx
 ·cases hR:(nm==mU)<;>rw[hR]at hx
  ·cases hY:(nm==oS)<;>rw[hY]at hx
   ·cases hU:(nm==oU)<;>rw[hU]at hx
    ·cases hx
    ·simp only[ae,aj]at hx;unfold xG at hx;obtain⟨p,_,hp,hx⟩:=bind_ok hx;obtain⟨_,_,_,hx⟩:=bind_ok hx;obtain⟨_,_,_,hx⟩:=bind_ok hx;obtain⟨us,_,hu,hx⟩:=bind_ok hx;obtain⟨_,_,_,hx⟩:=bind_ok hx;cases hx;have:=(vr (P:=fun _=>True) l _ (fun _ _ _ _=>trivial) 15 [] _ us _ (fun _ _=>trivial) hu).1;exact⟨Fp _ (by simp) (by simpa using this) (fun q=>absurd q (by show ¬((4:Int)=2\/(4:Int)=3);decide)) (fun p hp=>by cases hp) (by show(1:Int)<=4;decide) (by show(4:Int)<=4;decide),S7 hp⟩
   ·simp only[ae,aj]at hx;obtain⟨_,_,_,hx⟩:=bind_ok hx;obtain⟨_,_,_,hx⟩:=bind_ok hx;obtain⟨t,_,ht,hx⟩:=bind_ok hx;cases hx;have:=(Fo l hl 4 _ _ _ ht).2.2.1;exact⟨Fp _ (by simp) (by simp) (fun _=>by show 0<=cf 4 t;omega) (fun p hp=>by cases hp) (by show(1:Int)<=2;decide) (by show(2:Int)<=4;decide),fun _=>rfl⟩
  ·simp only[ae,aj]at hx;obtain⟨_,_,_,hx⟩:=bind_ok hx;cases hx;exact⟨Fp _ (by simp) (by simp) (fun q=>absurd q (by show ¬((1:Int)=2\/(1:Int)=3);decide)) (fun p hp=>by cases hp) (by show(1:Int)<=1;decide) (by show(1:Int)<=4;decide),fun _=>rfl⟩
 ·exact ajw l hl _ _ _ _ hx
theorem ajy(l:List ai)(hl:l.length<=4001)(k:Nat)(v:aE)(k':Nat)(h:mi l k=.ok v k'):lT v=true/\∀i∈v.Items,nU i.From:=by
 unfold mi at h;obtain⟨_,_,_,h⟩:=bind_ok h;obtain⟨_,_,_,h⟩:=bind_ok h;obtain⟨xs,_,hx,h⟩:=bind_ok h;cases h;have:=AN (P:=Fq) l (ko l) (ajx l hl) 16 [] _ xs _ (fun v hv=>by cases hv) hx;have h1:xs.length<=16:=by simpa using this.1
 refine⟨?_,fun i hi=>(this.2 i hi).2⟩;unfold lT;rw[db (show ¬(16:Int)<((xs.length:Nat):Int) by omega),bq,bu,fb];exact fun i hi=>(this.2 i hi).1
theorem ajz(l:List ai)(k:Nat)(v:aJ)(k':Nat)(h:qP l k=.ok v k'):lU v=true/\∀i∈v.Items,nU i.Path:=by
 unfold qP at h;obtain⟨_,_,_,h⟩:=bind_ok h;obtain⟨_,_,_,h⟩:=bind_ok h;obtain⟨xs,_,hx,h⟩:=bind_ok h;cases h;have hw:∀(K:Int),(decide (1<=K)&&decide (K<=3))=true->∀k v k',sH l K k=.ok v k'->rh v=true/\nU v.Path:=fun K hK k v k' h=>by
  unfold sH at h;obtain⟨p,_,hp,h⟩:=bind_ok h;obtain⟨_,_,_,h⟩:=bind_ok h;cases h;exact⟨hK,S7 hp⟩
 have:=AN (P:=fun v:aG=>rh v=true/\nU v.Path) l (jE l) (fun k v k' h=>by
  unfold jE at h;cases h1:aH l nN k<;>rw[h1]at h
  ·cases h2:aH l nO k<;>rw[h2]at h
   ·cases h3:aH l nP k<;>rw[h3]at h
    ·cases h
    ·exact hw 3 rfl _ _ _ h
   ·exact hw 2 rfl _ _ _ h
  ·exact hw 1 rfl _ _ _ h) 16 [] _ xs _ (fun v hv=>by cases hv) hx
 have h1:xs.length<=16:=by simpa using this.1
 refine⟨?_,fun i hi=>(this.2 i hi).2⟩;unfold lU;rw[db (show ¬(16:Int)<((xs.length:Nat):Int) by omega),bq,bu,fb];exact fun i hi=>(this.2 i hi).1
theorem ajA(l:List ai)(hl:l.length<=4001)(k:Nat)(p:aA)(k':Nat)(h:je l k=.ok p k'):tj p=true/\LK p:=by
 unfold je at h;obtain⟨_,_,_,h⟩:=bind_ok h;obtain⟨_,_,_,h⟩:=bind_ok h;obtain⟨_,_,_,h⟩:=bind_ok h;obtain⟨_,_,_,h⟩:=bind_ok h;obtain⟨_,_,_,h⟩:=bind_ok h;obtain⟨q,k6,h6,h⟩:=bind_ok h;cases h;have:=AO (P:=fun f=>lT f=true/\∀i∈f.Items,nU i.From) (Q:=fun f=>lU f=true/\∀i∈f.Items,nU i.Path) l (ajy l hl) (ajz l) 16 [] [] _ q _ (by simp) (by simp) (by simp) (by simp) h6;refine⟨?_,fun f hf=>(this.2.2.1 f hf).2,fun w hw=>(this.2.2.2 w hw).2⟩;unfold tj;have e1:q.1.all lT=true:=by rw[fb];exact fun f hf=>(this.2.2.1 f hf).1
 have e2:q.2.all lU=true:=by rw[fb];exact fun f hf=>(this.2.2.2 f hf).1
 have h1:=this.1;have h2:=this.2.1;show(!(decide ((8:Int)<((q.1.length:Nat):Int))||decide ((8:Int)<((q.2.length:Nat):Int)))&&(q.1.all lT&&q.2.all lU))=true
 rw[db (show ¬(8:Int)<((q.1.length:Nat):Int) by omega),db (show ¬(8:Int)<((q.2.length:Nat):Int) by omega),e1,e2];rfl
theorem ajB(s:List UInt8)(x:aA)(h:ix s=.inr x):tj x=true/\LK x:=by
 unfold ix at h;split at h
 ·rename_i h0;split at h
  ·cases h
  ·rename_i hp;cases h;exact ajA _ (K5 s h0).len _ _ _ hp
 ·cases h
theorem S8(x:aA)(hx:x.sz<=1048576):M.sZ x=some (kr x (kZ dw x))/\M.pe x=some (kr x (kZ dw x))/\(kr x (kZ dw x)=true->M.pf x=some (kZ dw x)):=
 aiG x (kZ dw x) hx (ajj x hx) (tj x) (ajk x) (fun h=>⟨_,SR x hx h⟩) (fun⟨t,ht⟩=>by
  obtain⟨w1,w2⟩:=ajB t x ht;exact⟨w1,by rw[SR x hx w1,ajq x w2]⟩)
theorem atA(x:aA)(ok:x.Ok):M.aee x=some true:=
 att x ok fun hx=>atu x hx _ (ajj x hx) (S8 x hx).2.1 (S8 x hx).2.2
end M
