/-
  EQUALITY of terms, on both sides.
-/
import Derived.Test.YtkljhbbnhbklnaaGreatDoorXXPb
import Derived.Test.YtkljhbbnhbklnaaGreatDoorXZCH
import Derived.Lib.Join
import Derived.Test.YtkljhbbnhbklnaaGreatDoorXXTF
set_option linter.unusedVariables false
set_option linter.unusedSimpArgs false
namespace M
open Go.V (inB bV ah bq)
def fF:Nat->aa->aa->Bool
 |0,_,_=>false
 |n+1,a,b=>((a.Kind==b.Kind)&&(a.Name==b.Name))&&(dM (· ==·) a.bm b.bm&&dM (fF n) a.Kids b.Kids)
def kV:Nat->aa->Prop
 |0,_=>False
 |n+1,t=>∀x∈t.Kids,kV n x
theorem qT{α:Type}{p:α->α->Bool}:∀(a b:List α),(∀x∈a,∀y,p x y=true->x=y)->dM p a b=true->a=b
 |[],[],_,_=>rfl
 |[],_::_,_,h=>by cases h
 |_::_,[],_,h=>by cases h
 |x::a,y::b,hp,h=>by
  rw[dM,bB]at h;rw[hp x (by simp) y h.1,qT a b (fun z hz=>hp z (by simp[hz])) h.2]
theorem M5:∀(n:Nat)(a b:aa),fF n a b=true->a=b
 |0,_,_,h=>by cases h
 |n+1,a,b,h=>by
  rw[fF,bB,bB,bB]at h;obtain⟨⟨h1,h2⟩,h3,h4⟩:=h;have e3:=qT _ _ (fun x _ y q=>cA.1 q) h3;have e4:=qT _ _ (fun x _ y q=>M5 n x y q) h4;have e1:=cA.1 h1;have e2:=cA.1 h2;cases a;cases b;cases e1;cases e2;cases e3;cases e4;rfl
theorem Fv:∀(n:Nat)(a:aa),kV n a->fF n a a=true
 |0,_,h=>h.elim
 |n+1,a,h=>by
  rw[fF,da,da,qU a.bm (fun x _=>da x),qU a.Kids (fun x hx=>Fv n x (h x hx))];rfl
theorem aa.AK{a x:aa}(h:x∈a.Kids):x.sz<a.sz:=by
 rw[aa.cf a];have:=Fz aa.sz _ _ h;omega
theorem M6:∀(n:Nat)(a:aa),a.sz<n->kV n a
 |0,_,h=>absurd h (DK _)
 |n+1,a,h=>fun x hx=>M6 n x (by have:=aa.AK hx;omega)
theorem aa.TZ{a:aa}{N:Nat}(h:a.sz<=N):a.bm.length<=N:=by
 rw[aa.cf]at h;have:=df List.length a.bm;omega
theorem aa.FA{a:aa}{N:Nat}(h:a.sz<=N):a.Kids.length<=N:=by
 rw[aa.cf]at h;have:=df aa.sz a.Kids;omega
theorem akn(a b:List (List UInt8))(ha:a.length<=1048576):M.AL a b=some (dM (· ==·) a b):=by
 unfold M.AL;exact sN a b ha (fun f k hl h h'=>by
  rw[M.xO];simp only[getD_lt h,getD_lt h',bP,dA,fL,h,h',bS h (dZ ha),ed,cT,ad];cases a[k]==b[k]<;>rfl) (fun f=>by rw[M.xO];simp)
theorem T0:∀(m:Nat)(a b:aa)(n:Nat),n<=100->n<m->a.sz<=1048576->M.vm m a b (n:Int)=some (fF n a b)
 |0,a,b,n,h1,h2,h3=>absurd h2 (DK _)
 |m+1,a,b,n,h1,h2,h3=>by
  show M.FB (M.vm m) a b _=_
  unfold M.FB;rw[akn _ _ (aa.TZ h3)];cases n with
  |zero=>rfl
  |succ n=>
   have hk:a.Kids.length<=1048576:=aa.FA h3;have d:(((n+1:Nat):Int)==0)=false:=by rw[cM];omega
   have hw:Go.IntKind.wrap .i64 (((n+1:Nat):Int)-1)=(n:Int):=by rw[wrap_i64 (by omega) (by omega)];omega
   have kids:M.AM (M.vm m) a.Kids b.Kids ((n+1:Nat):Int)=some (dM (fF n) a.Kids b.Kids):=by
    unfold M.AM;exact sN a.Kids b.Kids hk (fun f k hl h h'=>by
     rw[M.xP];have hx:=aa.AK (cw h);have:=T0 m a.Kids[k] b.Kids[k] n (by omega) (by omega) (by omega);unfold M.FC;simp only[aa.aB,getD_lt h,getD_lt h',bP,dA,fL,h,h',bS h (dZ hk),hw,this,ed,cT,ad,aw,av];cases fF n a.Kids[k] b.Kids[k]<;>rfl) (fun f=>by rw[M.xP];simp)
   simp only[d,kids,fF,bne,av,aw,jV,bo,al,ad];cases (a.Kind==b.Kind)<;>cases (a.Name==b.Name)<;>cases dM (· ==·) a.bm b.bm<;>rfl
end M
namespace M
open Go.V (inB bV ah bq)
theorem sO{α β:Type}(a:List α)(b:List β):(((a.length:Nat):Int) !=((b.length:Nat):Int))= !decide (a.length=b.length):=by
 by_cases h:a.length=b.length
 ·rw[h,db rfl];simp
 ·have:(((a.length:Nat):Int) !=((b.length:Nat):Int))=true:=by rw[yU];omega
  rw[this,cQ h];rfl
theorem T8:∀(m:Nat)(a b:aa)(n:Nat),kV n a->n<=m->a.sz<=1048576->M.sP m a b=some (fF n a b)
 |0,a,b,n,h1,h2,h3=>by
  cases n with
  |zero=>exact h1.elim
  |succ n=>omega
 |m+1,a,b,n,h1,h2,h3=>by
  cases n with
  |zero=>exact h1.elim
  |succ n=>
   show M.FD (M.sP m) a b=_
   have hk:a.Kids.length<=1048576:=aa.FA h3;have hl:a.bm.length<=1048576:=aa.TZ h3;have labels:a.bm.length=b.bm.length->M.sQ ah 0 a b=some (if dM (· ==·) a.bm b.bm then .inr (a,b)else .inl false):=fun hle=>
    qV (p:=(· ==·)) (F:=fun f i=>M.sQ f i a b) (e:=(a,b)) a.bm b.bm hl hle (fun f k h h'=>by
     rw[M.sQ];simp only[aa.aB,getD_lt h,getD_lt h',bP,dA,fL,h,h',bS h (dZ hl),ed,cT,ad];cases a.bm[k]==b.bm[k]<;>rfl) (fun f=>by rw[M.sQ];simp[aa.aB])
   have kids:a.Kids.length=b.Kids.length->M.sR (M.sP m) ah 0 a b=some (if dM (fF n) a.Kids b.Kids then .inr ()else .inl false):=fun hle=>
    qV (p:=fF n) (F:=fun f i=>M.sR (M.sP m) f i a b) (e:=()) a.Kids b.Kids hk hle (fun f k h h'=>by
     rw[M.sR];have hx:=aa.AK (cw h);have:=T8 m a.Kids[k] b.Kids[k] n (h1 _ (cw h)) (by omega) (by omega);simp only[aa.aB,getD_lt h,getD_lt h',bP,dA,fL,h,h',bS h (dZ hk),this,ed,cT,ad,aw,av];cases fF n a.Kids[k] b.Kids[k]<;>rfl) (fun f=>by rw[M.sR];simp)
   unfold M.FD;rw[fF,sO,sO];by_cases hle:a.bm.length=b.bm.length
   ·by_cases hke:a.Kids.length=b.Kids.length
    ·rw[db hle,db hke];simp only[bne,bM,ln,aa.aB,labels hle];cases (a.Kind==b.Kind)<;>cases (a.Name==b.Name)<;>cases hA:dM (· ==·) a.bm b.bm<;>simp[kids hke]<;>cases hB:dM (fF n) a.Kids b.Kids<;>simp
    ·rw[cQ hke,pd _ _ _ hke];simp only[bw,dT,ad,Bool.and_false]
   ·rw[cQ hle,pd _ _ _ hle];simp only[bw,dT,bo,ad,Bool.and_false,cG]
end M
namespace M
open Go.V (inB bV ah bq)
def mT(te:aa->aa->Bool)(x y:aA):Bool:=(x.Name==y.Name)&&te x.Term y.Term
def pe(x y:aO):Bool:=(x.Name==y.Name)&&(x.As==y.As)
def mU(x y:aQ):Bool:=(x.aJ==y.aJ)&&((x.Name==y.Name)&&(x.Version==y.Version))
def kW(te:aa->aa->Bool)(a b:af):Bool:=((((((a.Kind==b.Kind)&&(a.Name==b.Name))&&te a.Term b.Term)&&(a.Async==b.Async))&&mU a.From b.From)&&dM pe a.Uses b.Uses)&&dM (mT te) a.Params b.Params
def mV(te:aa->aa->Bool)(a b:aD):Bool:=(a.Name==b.Name)&&dM (kW te) a.Items b.Items
def pf(a b:aG):Bool:=(a.Kind==b.Kind)&&mU a.Path b.Path
def mW(a b:aM):Bool:=(a.Name==b.Name)&&dM pf a.Items b.Items
def lO(te:aa->aa->Bool)(a b:ai):Bool:=(((a.Name==b.Name)&&(a.Version==b.Version))&&dM (mV te) a.aF b.aF)&&dM mW a.Worlds b.Worlds
theorem ako(a b:List aO)(ha:a.length<=1048576):M.AN a b=some (dM pe a b):=by
 unfold M.AN;exact sN a b ha (fun f k hl h h'=>by
  rw[M.xQ];unfold pe;simp only[getD_lt h,getD_lt h',bP,dA,fL,h,h',bS h (dZ ha),ed,cT,ad];cases ((a[k].Name==b[k].Name)&&(a[k].As==b[k].As))<;>rfl) (fun f=>by rw[M.xQ];simp)
theorem akp(a b:List aG)(ha:a.length<=1048576):M.AO a b=some (dM pf a b):=by
 unfold M.AO;exact sN a b ha (fun f k hl h h'=>by
  rw[M.xR];unfold pf mU;simp only[getD_lt h,getD_lt h',bP,dA,fL,h,h',bS h (dZ ha),ed,cT,ad];cases ((a[k].Kind==b[k].Kind)&&((a[k].Path.aJ==b[k].Path.aJ)&&((a[k].Path.Name==b[k].Path.Name)&&(a[k].Path.Version==b[k].Path.Version))))<;>rfl) (fun f=>by rw[M.xR];simp)
theorem T9(a b:aa)(h:a.sz<=1048576):M.xU a b 5=some (fF 5 a b):=T0 ah a b 5 (by omega) (by have:=bq;omega) h
theorem akq(x y:aA)(h:x.Term.sz<=1048576):M.AP x y=some (mT (fF 5) x y):=by
 unfold M.AP mT;simp only[aa.aB,T9 _ _ h,av,aw,bo,al,ad]
theorem akr(a b:List aA)(ha:a.length<=1048576)(hs:∀x∈a,x.Term.sz<=1048576):M.AQ a b=some (dM (mT (fF 5)) a b):=by
 unfold M.AQ;exact sN a b ha (fun f k hl h h'=>by
  rw[M.xW];simp only[aA.aB,getD_lt h,getD_lt h',bP,dA,fL,h,h',bS h (dZ ha),akq _ _ (hs _ (cw h)),ed,cT,ad,aw,av];cases mT (fF 5) a[k] b[k]<;>rfl) (fun f=>by rw[M.xW];simp)
theorem aks(a b:af)(h:a.sz<=1048576):M.AS a b=some (kW (fF 5) a b):=by
 have hs:=af.cf a;have l1:=df aA.sz a.Params;have l2:=df aO.sz a.Uses;unfold M.AS kW mU;simp only[aa.aB,T9 a.Term b.Term (by omega),ako a.Uses b.Uses (by omega),akr a.Params b.Params (by omega) (fun x hx=>by
  have:=dK aA.sz a.Params x hx;have:=aA.cf x;omega),av,aw,bo,al,cT,ad]
theorem akt(a b:List af)(ha:a.length<=1048576)(hs:∀x∈a,x.sz<=1048576):M.AT a b=some (dM (kW (fF 5)) a b):=by
 unfold M.AT;exact sN a b ha (fun f k hl h h'=>by
  rw[M.xX];simp only[af.aB,getD_lt h,getD_lt h',bP,dA,fL,h,h',bS h (dZ ha),aks _ _ (hs _ (cw h)),ed,cT,ad,aw,av];cases kW (fF 5) a[k] b[k]<;>rfl) (fun f=>by rw[M.xX];simp)
theorem aku(a b:aD)(h:a.sz<=1048576):M.AU a b=some (mV (fF 5) a b):=by
 have hs:=aD.cf a;have l1:=df af.sz a.Items;unfold M.AU mV;simp only[akt a.Items b.Items (by omega) (fun x hx=>by have:=dK af.sz a.Items x hx;omega),av,aw,bo,al,ad]
theorem akv(a b:List aD)(ha:a.length<=1048576)(hs:∀x∈a,x.sz<=1048576):M.AW a b=some (dM (mV (fF 5)) a b):=by
 unfold M.AW;exact sN a b ha (fun f k hl h h'=>by
  rw[M.xY];simp only[getD_lt h,getD_lt h',bP,dA,fL,h,h',bS h (dZ ha),aku _ _ (hs _ (cw h)),ed,cT,ad,aw,av];cases mV (fF 5) a[k] b[k]<;>rfl) (fun f=>by rw[M.xY];simp)
theorem akw(a b:aM)(h:a.sz<=1048576):M.AX a b=some (mW a b):=by
 have hs:=aM.cf a;have l1:=df aG.sz a.Items;unfold M.AX mW;simp only[akp a.Items b.Items (by omega),av,aw,bo,al,ad]
theorem akx(a b:List aM)(ha:a.length<=1048576)(hs:∀x∈a,x.sz<=1048576):M.AY a b=some (dM mW a b):=by
 unfold M.AY;exact sN a b ha (fun f k hl h h'=>by
  rw[M.xZ];simp only[getD_lt h,getD_lt h',bP,dA,fL,h,h',bS h (dZ ha),akw _ _ (hs _ (cw h)),ed,cT,ad,aw,av];cases mW a[k] b[k]<;>rfl) (fun f=>by rw[M.xZ];simp)
theorem aky(a b:ai)(h:a.sz<=1048576):M.AZ a b=some (lO (fF 5) a b):=by
 have hs:=ai.cf a;have l1:=df aD.sz a.aF;have l2:=df aM.sz a.Worlds;unfold M.AZ lO;simp only[akv a.aF b.aF (by omega) (fun x hx=>by have:=dK aD.sz a.aF x hx;omega),akx a.Worlds b.Worlds (by omega) (fun x hx=>by have:=dK aM.sz a.Worlds x hx;omega),av,aw,bo,al,ad]
end M
namespace M
open Go.V (inB bV ah bq)
def jg(a b:aa):Bool:=fF (a.sz+1) a b
theorem M7(a b:aa):jg a b=true↔a=b:=⟨M5 _ _ _,fun h=>by subst h;exact Fv _ _ (M6 _ _ (by omega))⟩
theorem Ua(a b:aa)(h:a.sz<=1048576):M.A2 a b=some (jg a b):=T8 ah a b (a.sz+1) (M6 _ _ (by omega)) (by have:=bq;omega) h
theorem akz(a b:af)(h:a.sz<=1048576):M.A3 a b=some (kW jg a b):=by
 have hs:=af.cf a;have l1:=df aA.sz a.Params;have l2:=df aO.sz a.Uses;have hp:a.Params.length<=1048576:=by omega
 have hu:a.Uses.length<=1048576:=by omega
 have params:a.Params.length=b.Params.length->M.sS ah 0 a b=some (if dM (mT jg) a.Params b.Params then .inr (a,b)else .inl false):=fun hle=>
  qV (p:=mT jg) (F:=fun f i=>M.sS f i a b) (e:=(a,b)) a.Params b.Params hp hle (fun f k h h'=>by
   have z1:=dK aA.sz a.Params _ (cw h);have z2:=aA.cf a.Params[k];rw[M.sS];unfold mT;simp only[af.aB,aa.aB,getD_lt h,getD_lt h',bP,dA,fL,h,h',bS h (dZ hp),Ua _ _ (show a.Params[k].Term.sz<=1048576 by omega),ed,cT,bo,ad,aw,av];cases (a.Params[k].Name==b.Params[k].Name)<;>cases jg a.Params[k].Term b.Params[k].Term<;>rfl) (fun f=>by rw[M.sS];simp[af.aB])
 have uses:a.Uses.length=b.Uses.length->M.sU ah 0 a b=some (if dM pe a.Uses b.Uses then .inr ()else .inl false):=fun hle=>
  qV (p:=pe) (F:=fun f i=>M.sU f i a b) (e:=()) a.Uses b.Uses hu hle (fun f k h h'=>by
   rw[M.sU];unfold pe;simp only[af.aB,getD_lt h,getD_lt h',bP,dA,fL,h,h',bS h (dZ hu),ed,cT,ad];cases (a.Uses[k].Name==b.Uses[k].Name)<;>cases (a.Uses[k].As==b.Uses[k].As)<;>rfl) (fun f=>by rw[M.sU];simp)
 unfold M.A3 kW;rw[sO,sO];have akA:(((a.From.aJ==b.From.aJ)&&((a.From.Name==b.From.Name)&&((a.From.Version==b.From.Version)&&true))))=mU a.From b.From:=by unfold mU;rw[cT]
 simp only[aa.aB,af.aB,Ua a.Term b.Term (by omega),av,aw,akA,bne,bo,al];by_cases hle:a.Params.length=b.Params.length
 ·by_cases hue:a.Uses.length=b.Uses.length
  ·rw[db hle,db hue,params hle];cases hA:dM (mT jg) a.Params b.Params<;>cases hB:dM pe a.Uses b.Uses<;>simp[uses hue,hB,af.aB]<;>cases (a.Kind==b.Kind)<;>cases (a.Name==b.Name)<;>cases jg a.Term b.Term<;>cases (a.Async==b.Async)<;>cases mU a.From b.From<;>rfl
  ·rw[cQ hue,pd _ _ _ hue];simp only[bw,dT,ad,Bool.and_false,cG]
 ·rw[cQ hle,pd _ _ _ hle];simp only[bw,dT,bo,ad,Bool.and_false,cG]
end M
namespace M
open Go.V (inB bV ah bq)
theorem akB(a b:ai)(h:a.sz<=1048576)(hle:a.aF.length=b.aF.length):M.sV ah 0 a b=some (if dM (mV jg) a.aF b.aF then .inr (a,b)else .inl false):=by
 have hs:=ai.cf a;have l1:=df aD.sz a.aF;have hf:a.aF.length<=1048576:=by omega
 refine qV (p:=mV jg) (F:=fun f i=>M.sV f i a b) (e:=(a,b)) a.aF b.aF hf hle (fun f k h1 h2=>?_) (fun f=>by rw[M.sV];simp);have z1:=dK aD.sz a.aF _ (cw h1);have z2:=aD.cf a.aF[k];have z3:=df af.sz a.aF[k].Items;have hi:a.aF[k].Items.length<=1048576:=by omega
 have inner:a.aF[k].Items.length=b.aF[k].Items.length->M.sW (k:Int) a b ah 0=some (if dM (kW jg) a.aF[k].Items b.aF[k].Items then .inr ((k:Int),a,b)else .inl false):=fun gv=>
  qV (p:=kW jg) (F:=fun f j=>M.sW (k:Int) a b f j) (e:=((k:Int),a,b)) a.aF[k].Items b.aF[k].Items hi gv (fun f j g1 g2=>by
   have y1:=dK af.sz a.aF[k].Items _ (cw g1);rw[M.sW];simp only[af.aB,getD_lt h1,getD_lt h2,getD_lt g1,getD_lt g2,bP,dA,fL,h1,h2,g1,g2,bS g1 (dZ hi),akz _ _ (show(a.aF[k].Items[j]).sz<=1048576 by omega),ed,cT,ad,aw,av];cases kW jg a.aF[k].Items[j] b.aF[k].Items[j]<;>rfl) (fun f=>by rw[M.sW];simp[getD_lt h1,dA,h1])
 rw[M.sV];unfold mV;simp only[getD_lt h1,getD_lt h2,bP,dA,fL,h1,h2,sO,ed,bA,bo,cT,ad,al];by_cases gv:a.aF[k].Items.length=b.aF[k].Items.length
 ·rw[db gv,inner gv];cases (a.aF[k].Name==b.aF[k].Name)<;>cases dM (kW jg) a.aF[k].Items b.aF[k].Items<;>simp[bS h1 (dZ hf)]
 ·rw[cQ gv,pd _ _ _ gv];simp only[bw,dT,ad,Bool.and_false,ak]
theorem akC(a b:ai)(h:a.sz<=1048576)(hle:a.Worlds.length=b.Worlds.length):M.sX ah 0 a b=some (if dM mW a.Worlds b.Worlds then .inr ()else .inl false):=by
 have hs:=ai.cf a;have l1:=df aM.sz a.Worlds;have hf:a.Worlds.length<=1048576:=by omega
 refine qV (p:=mW) (F:=fun f i=>M.sX f i a b) (e:=()) a.Worlds b.Worlds hf hle (fun f k h1 h2=>?_) (fun f=>by rw[M.sX];simp);have z1:=dK aM.sz a.Worlds _ (cw h1);have z2:=aM.cf a.Worlds[k];have z3:=df aG.sz a.Worlds[k].Items;have hi:a.Worlds[k].Items.length<=1048576:=by omega
 have inner:a.Worlds[k].Items.length=b.Worlds[k].Items.length->M.sY (k:Int) a b ah 0=some (if dM pf a.Worlds[k].Items b.Worlds[k].Items then .inr ((k:Int),a,b)else .inl false):=fun gv=>
  qV (p:=pf) (F:=fun f j=>M.sY (k:Int) a b f j) (e:=((k:Int),a,b)) a.Worlds[k].Items b.Worlds[k].Items hi gv (fun f j g1 g2=>by
   rw[M.sY];unfold pf mU;simp only[getD_lt h1,getD_lt h2,getD_lt g1,getD_lt g2,bP,dA,fL,h1,h2,g1,g2,bS g1 (dZ hi),ed,cT,ad];cases ((a.Worlds[k].Items[j].Kind==b.Worlds[k].Items[j].Kind)&&((a.Worlds[k].Items[j].Path.aJ==b.Worlds[k].Items[j].Path.aJ)&&((a.Worlds[k].Items[j].Path.Name==b.Worlds[k].Items[j].Path.Name)&&(a.Worlds[k].Items[j].Path.Version==b.Worlds[k].Items[j].Path.Version))))<;>rfl) (fun f=>by rw[M.sY];simp[getD_lt h1,dA,h1])
 rw[M.sX];unfold mW;simp only[getD_lt h1,getD_lt h2,bP,dA,fL,h1,h2,sO,ed,bA,bo,cT,ad,al];by_cases gv:a.Worlds[k].Items.length=b.Worlds[k].Items.length
 ·rw[db gv,inner gv];cases (a.Worlds[k].Name==b.Worlds[k].Name)<;>cases dM pf a.Worlds[k].Items b.Worlds[k].Items<;>simp[bS h1 (dZ hf)]
 ·rw[cQ gv,pd _ _ _ gv];simp only[bw,dT,ad,Bool.and_false,ak]
theorem akD(a b:ai)(h:a.sz<=1048576):M.A4 a b=some (lO jg a b):=by
 unfold M.A4 lO;rw[sO,sO];by_cases hf:a.aF.length=b.aF.length
 ·by_cases hw:a.Worlds.length=b.Worlds.length
  ·rw[db hf,db hw,akB a b h hf];cases (a.Name==b.Name)<;>cases (a.Version==b.Version)<;>cases hA:dM (mV jg) a.aF b.aF<;>cases hB:dM mW a.Worlds b.Worlds<;>simp[akC a b h hw,hB]
  ·rw[cQ hw,pd _ _ _ hw];simp only[bw,dT,ad,Bool.and_false]
 ·rw[cQ hf,pd _ _ _ hf];simp only[bw,dT,bo,ad,Bool.and_false,cG]
end M
namespace M
open Go.V (inB bV ah bq)
theorem Ub(a b:aQ)(h:mU a b=true):a=b:=by
 unfold mU at h;rw[bB,bB]at h;obtain⟨h1,h2,h3⟩:=h;cases a;cases b;cases cA.1 h1;cases cA.1 h2;cases cA.1 h3;rfl
theorem akE(a b:aO)(h:pe a b=true):a=b:=by
 unfold pe at h;rw[bB]at h;cases a;cases b;cases cA.1 h.1;cases cA.1 h.2;rfl
theorem akF{te:aa->aa->Bool}(ht:∀a b,te a b=true->a=b)(a b:aA)(h:mT te a b=true):a=b:=by
 unfold mT at h;rw[bB]at h;cases a;cases b;cases cA.1 h.1;cases ht _ _ h.2;rfl
theorem akG{te:aa->aa->Bool}(ht:∀a b,te a b=true->a=b)(a b:af)(h:kW te a b=true):a=b:=by
 unfold kW at h;simp only[bB]at h;obtain⟨⟨⟨⟨⟨⟨h1,h2⟩,h3⟩,h4⟩,h5⟩,h6⟩,h7⟩:=h;have e1:=cA.1 h1;have e2:=cA.1 h2;have e3:=ht _ _ h3;have e4:=cA.1 h4;have e5:=Ub _ _ h5;have e6:=qT _ _ (fun x _ y q=>akE x y q) h6;have e7:=qT _ _ (fun x _ y q=>akF ht x y q) h7;cases a;cases b;cases e1;cases e2;cases e3;cases e4;cases e5;cases e6;cases e7;rfl
theorem akH{te:aa->aa->Bool}(ht:∀a b,te a b=true->a=b)(a b:aD)(h:mV te a b=true):a=b:=by
 unfold mV at h;rw[bB]at h;have e1:=cA.1 h.1;have e2:=qT _ _ (fun x _ y q=>akG ht x y q) h.2;cases a;cases b;cases e1;cases e2;rfl
theorem akI(a b:aG)(h:pf a b=true):a=b:=by
 unfold pf at h;rw[bB]at h;have e1:=cA.1 h.1;have e2:=Ub _ _ h.2;cases a;cases b;cases e1;cases e2;rfl
theorem akJ(a b:aM)(h:mW a b=true):a=b:=by
 unfold mW at h;rw[bB]at h;have e1:=cA.1 h.1;have e2:=qT _ _ (fun x _ y q=>akI x y q) h.2;cases a;cases b;cases e1;cases e2;rfl
theorem Uc{te:aa->aa->Bool}(ht:∀a b,te a b=true->a=b)(a b:ai)(h:lO te a b=true):a=b:=by
 unfold lO at h;simp only[bB]at h;obtain⟨⟨⟨h1,h2⟩,h3⟩,h4⟩:=h;have e1:=cA.1 h1;have e2:=cA.1 h2;have e3:=qT _ _ (fun x _ y q=>akH ht x y q) h3;have e4:=qT _ _ (fun x _ y q=>akJ x y q) h4;cases a;cases b;cases e1;cases e2;cases e3;cases e4;rfl
theorem Ud(a:aQ):mU a a=true:=by unfold mU;simp
theorem akK{te:aa->aa->Bool}(a:af)(h1:te a.Term a.Term=true)(h2:∀p∈a.Params,te p.Term p.Term=true):kW te a a=true:=by
 unfold kW;rw[h1,Ud,qU a.Uses (fun x _=>by unfold pe;simp),qU a.Params (fun x hx=>by unfold mT;rw[h2 x hx];simp)];simp
theorem Ue{te:aa->aa->Bool}(a:ai)(h:∀f∈a.aF,∀x∈f.Items,te x.Term x.Term=true/\∀p∈x.Params,te p.Term p.Term=true):lO te a a=true:=by
 unfold lO;rw[qU a.aF (fun f hf=>by unfold mV;rw[qU f.Items (fun x hx=>akK x (h f hf x hx).1 (h f hf x hx).2)];simp),qU a.Worlds (fun w _=>by unfold mW;rw[qU w.Items (fun x _=>by unfold pf;rw[Ud];simp)];simp)];simp
theorem Uf(a b:ai):lO jg a b=true↔a=b:=⟨Uc (fun x y h=>(M7 x y).1 h) a b,fun h=>by
 subst h;exact Ue a fun f _ x _=>⟨(M7 _ _).2 rfl,fun p _=>(M7 _ _).2 rfl⟩⟩
def FG(a:ai):Prop:=∀f∈a.aF,∀x∈f.Items,kV 5 x.Term/\∀p∈x.Params,kV 5 p.Term
theorem akL(a b:ai)(hb:FG b):lO (fF 5) a b=true↔a=b:=⟨Uc (fun x y h=>M5 5 x y h) a b,fun h=>by
 subst h;exact Ue a fun f hf x hx=>⟨Fv 5 _ (hb f hf x hx).1,fun p hp=>Fv 5 _ ((hb f hf x hx).2 p hp)⟩⟩
end M
namespace M
open Go.V (inB bV ah bq)
theorem M8(d:Nat):kV (d+1) dG:=fun x hx=>by cases hx
theorem M9(d:Nat)(K:Int)(nm:List UInt8)(ls:List (List UInt8)):kV (d+1) (aa.mk K nm ls []):=fun x hx=>by cases hx
theorem akM{l:List aj}{K:Int}{g:Nat->PR aa}{P:aa->Prop}(hu:P dG)(hg:∀k t k',g k=.ok t k'->P t){k k':Nat}{v:List UInt8×List aa}(h:gB l K g k=.ok v k'):∀t∈v.2,P t:=by
 unfold gB at h;obtain⟨w,k1,_,h⟩:=bind_ok h;cases h16:(K==(16:Int))<;>rw[h16]at h
 ·cases h17:(K==(17:Int))<;>rw[h17]at h
  ·cases h;intro t ht;cases ht
  ·simp only[ak,ad]at h;cases hc:aH l [40] k1<;>rw[hc]at h
   ·cases h;intro t ht;rw[jj.1 ht];exact hu
   ·obtain⟨t0,_,h0,h⟩:=bind_ok h;obtain⟨_,_,_,h⟩:=bind_ok h;cases h;intro t ht;rw[jj.1 ht];exact hg _ _ _ h0
 ·obtain⟨_,_,_,h⟩:=bind_ok h;obtain⟨t0,_,h0,h⟩:=bind_ok h;cases h;intro t ht;rw[jj.1 ht];exact hg _ _ _ h0
theorem akN{l:List aj}{g:Nat->PR aa}{P:aa->Prop}(hu:P dG)(hg:∀k t k',g k=.ok t k'->P t){k k':Nat}{v:List aa}(h:nH l g k=.ok v k'):∀t∈v,P t:=by
 unfold nH at h;cases h60:aH l [60] k<;>rw[h60]at h
 ·cases h;intro t ht;simp only[gp,Jm,or_false]at ht;rcases ht with q|q<;>(rw[q];exact hu)
 ·simp only[ad]at h;obtain⟨a,k1,ha,h⟩:=bind_ok h;obtain⟨b,k2,hb,h⟩:=bind_ok h;obtain⟨_,_,_,h⟩:=bind_ok h;cases h;have pa:P a:=by
   cases h95:aH l [95] (k+1)<;>rw[h95]at ha
   ·exact hg _ _ _ ha
   ·cases ha;exact hu
  have pb:P b:=by
   cases iQ:aH l [44] k1<;>rw[iQ]at hb
   ·cases hb;exact hu
   ·exact hg _ _ _ hb
  intro t ht;simp only[gp,Jm,or_false]at ht;rcases ht with q|q<;>(rw[q];assumption)
theorem FH(l:List aj):∀(d k:Nat)(t:aa)(k':Nat),dY l d k=.ok t k'->kV (d+1) t
 |0,k,t,k',h=>by cases h
 |d+1,k,t,k',h=>by
  rw[dY]at h;obtain⟨w,k1,_,h⟩:=bind_ok h;have ih:=FH l d;generalize dJ w=K at h;cases c0:(K==0)<;>rw[c0]at h
  ·simp only[ak]at h;cases c1:((K==12)||((K==13)||((K==22)||(K==23))))<;>rw[c1]at h
   ·simp only[ak]at h;cases c2:(K==15)<;>rw[c2]at h
    ·simp only[ak]at h;cases c3:((K==20)||(K==21))<;>rw[c3]at h
     ·simp only[ak]at h;cases c4:(K==14)<;>rw[c4]at h
      ·simp only[ak]at h;cases c5:((K==16)||((K==17)||((K==18)||(K==19))))<;>rw[c5]at h
       ·cases h;exact M9 _ _ _ _
       ·simp only[ad]at h;obtain⟨_,_,_,h⟩:=bind_ok h;obtain⟨ps,_,hp,h⟩:=bind_ok h;obtain⟨_,_,_,h⟩:=bind_ok h;cases h;have:=(vl (P:=fun v:List UInt8×List aa=>∀t∈v.2,kV (d+1) t) l _ (fun k v k' hv=>akM (M8 d) ih hv) 15 [] _ ps _ (fun v hv=>by cases hv) hp).2;intro x hx;obtain⟨q,hq,hx⟩:=List.mem_flatten.1 hx;obtain⟨v,hv,rfl⟩:=List.mem_map.1 hq;exact this v hv x hx
      ·simp only[ad]at h;obtain⟨ts,_,hp,h⟩:=bind_ok h;cases h;exact akN (M8 d) ih hp
     ·simp only[ad]at h;obtain⟨_,_,_,h⟩:=bind_ok h;obtain⟨_,_,_,h⟩:=bind_ok h;obtain⟨_,_,_,h⟩:=bind_ok h;cases h;exact M9 _ _ _ _
    ·simp only[ad]at h;obtain⟨_,_,_,h⟩:=bind_ok h;obtain⟨ts,_,hp,h⟩:=bind_ok h;obtain⟨_,_,_,h⟩:=bind_ok h;cases h;exact(vl (P:=fun v=>kV (d+1) v) l _ ih 5 [] _ ts _ (fun v hv=>by cases hv) hp).2
   ·simp only[ad]at h;obtain⟨_,_,_,h⟩:=bind_ok h;obtain⟨t0,_,h0,h⟩:=bind_ok h;obtain⟨_,_,_,h⟩:=bind_ok h;cases h;intro x hx;rw[jj.1 hx];exact ih _ _ _ h0
  ·cases h;exact M9 _ _ _ _
end M
namespace M
open Go.V (inB bV ah bq)
def vn(x:af):Prop:=kV 5 x.Term/\∀p∈x.Params,kV 5 p.Term
theorem akO{l:List aj}{k k':Nat}{v:aA}(h:kr l k=.ok v k'):kV 5 v.Term:=by
 unfold kr at h;obtain⟨_,_,_,h⟩:=bind_ok h;obtain⟨_,_,_,h⟩:=bind_ok h;obtain⟨t,_,ht,h⟩:=bind_ok h;cases h;exact FH l 4 _ _ _ ht
theorem akP(l:List aj)(nm:List UInt8)(k:Nat)(v:af)(k':Nat)(h:nK l nm k=.ok v k'):vn v:=by
 have:∀as k,qM l nm as k=.ok v k'->vn v:=fun as k h=>by
  unfold qM at h;obtain⟨_,_,_,h⟩:=bind_ok h;obtain⟨ps,k1,hp,h⟩:=bind_ok h;obtain⟨t,k2,ht,h⟩:=bind_ok h;cases h;refine⟨?_,?_⟩
  ·unfold Ao at ht;cases hc:aH l [45,62] k1<;>rw[hc]at ht
   ·cases ht;exact M8 4
   ·exact FH l 4 _ _ _ ht
  ·unfold xu at hp;obtain⟨_,k3,_,hp⟩:=bind_ok hp;cases hc:aH l [41] k3<;>rw[hc]at hp
   ·simp only[ak]at hp;obtain⟨qs,_,hq,hp⟩:=bind_ok hp;obtain⟨_,_,_,hp⟩:=bind_ok hp;cases hp;exact(vl (P:=fun v:aA=>kV 5 v.Term) l _ (fun _ _ _ hv=>akO hv) 5 [] _ _ _ (fun v hv=>by cases hv) hq).2
   ·cases hp;intro p hp;cases hp
 unfold nK at h;cases hc:aH l qL k<;>rw[hc]at h<;>exact this _ _ h
theorem akQ(l:List aj)(k:Nat)(v:af)(k':Nat)(h:kt l k=.ok v k'):vn v:=by
 have hn:∀(K:Int)(n:List UInt8)(p:aQ)(us:List aO),vn (af.mk K n lN [] false p us):=fun K n p us=>⟨(fun x hx=>by cases hx),(fun p hp=>by cases hp)⟩
 unfold kt nL at h;obtain⟨x,k1,hx,h⟩:=bind_ok h;obtain⟨_,_,_,h⟩:=bind_ok h;cases h;obtain⟨nm,k2,_,hx⟩:=bind_ok hx;unfold kU at hx;cases jA:aH l [58] k2<;>rw[jA]at hx
 ·cases hR:(nm==mR)<;>rw[hR]at hx
  ·cases hY:(nm==oV)<;>rw[hY]at hx
   ·cases hU:(nm==oW)<;>rw[hU]at hx
    ·cases hx
    ·simp only[ad,ak]at hx;unfold xw at hx;obtain⟨_,_,_,hx⟩:=bind_ok hx;obtain⟨_,_,_,hx⟩:=bind_ok hx;obtain⟨_,_,_,hx⟩:=bind_ok hx;obtain⟨us,_,hu,hx⟩:=bind_ok hx;obtain⟨_,_,_,hx⟩:=bind_ok hx;cases hx;exact hn _ _ _ _
   ·simp only[ad,ak]at hx;obtain⟨_,_,_,hx⟩:=bind_ok hx;obtain⟨_,_,_,hx⟩:=bind_ok hx;obtain⟨t,_,ht,hx⟩:=bind_ok hx;cases hx;exact⟨FH l 4 _ _ _ ht,(fun p hp=>by cases hp)⟩
  ·simp only[ad,ak]at hx;obtain⟨_,_,_,hx⟩:=bind_ok hx;cases hx;exact hn _ _ _ _
 ·exact akP l _ _ _ _ hx
theorem akR(l:List aj)(k:Nat)(p:ai)(k':Nat)(h:jc l k=.ok p k'):FG p:=by
 unfold jc at h;obtain⟨_,_,_,h⟩:=bind_ok h;obtain⟨_,_,_,h⟩:=bind_ok h;obtain⟨_,_,_,h⟩:=bind_ok h;obtain⟨_,_,_,h⟩:=bind_ok h;obtain⟨_,_,_,h⟩:=bind_ok h;obtain⟨q,k6,h6,h⟩:=bind_ok h;cases h;have hf:∀k v k',me l k=.ok v k'->∀x∈v.Items,vn x:=fun k v k' h=>by
  unfold me at h;obtain⟨_,_,_,h⟩:=bind_ok h;obtain⟨_,_,_,h⟩:=bind_ok h;obtain⟨xs,_,hx,h⟩:=bind_ok h;cases h;exact(AG (P:=vn) l (kt l) (akQ l) 16 [] _ xs _ (fun v hv=>by cases hv) hx).2
 exact(AH (P:=fun f=>∀x∈f.Items,vn x) (Q:=fun _=>True) l hf (fun _ _ _ _=>trivial) 16 [] [] _ q _ (by simp) (by simp) (by simp) (by simp) h6).2.2.1
theorem akS(s:List UInt8):FG (mS s).1:=by
 unfold mS ix;have h0:FG noPack:=fun f hf=>by cases hf
 split
 ·exact h0
 ·rename_i p hp;split at hp
  ·split at hp
   ·cases hp
   ·rename_i hq;cases hp;cases qS p
    ·exact h0
    ·exact akR _ _ _ _ hq
  ·cases hp
end M
namespace M
open Go.V (inB bV ah bq)
noncomputable def iI(x:ai)(t:List UInt8):Bool:=((mS t).2.2==0)&&lO jg x (mS t).1
theorem akT(x:ai)(t:List UInt8):(((mS t).2.2==(0:Int))&&lO (fF 5) x (mS t).1)=iI x t:=by
 unfold iI;have e:lO (fF 5) x (mS t).1=lO jg x (mS t).1:=by
  rw[mm,akL x _ (akS t),Uf]
 rw[e]
theorem Ug(x:ai)(t:List UInt8)(h:iI x t=true):ix t=.inr x:=by
 unfold iI at h;rw[bB,Uf]at h;obtain⟨h1,h2⟩:=h;have h1:=cA.1 h1;unfold mS at h1 h2;cases hw:ix t with
 |inl e=>
  rw[hw]at h1;have:=TM t;rw[hw]at this;exact absurd h1 this.1
 |inr p=>
  rw[hw]at h1 h2;cases hc:qS p
  ·simp only[hc,ak]at h1;exact absurd h1 (by decide)
  ·simp only[hc,ad]at h2;rw[h2]
theorem akU(x:ai)(t:List UInt8)(hx:x.sz<=1048576)(ht:M.sZ x=some t):M.A5 x=some (t,iI x t):=by
 unfold M.A5;rw[<-akT];simp only[ht,akm,aky x _ hx,av,aw,bo,al,ad]
theorem akV(x:ai)(t:List UInt8)(hx:x.sz<=1048576)(ht:M.sZ x=some t):M.vo x=some (iI x t):=by
 unfold M.vo;rw[akU x t hx ht];rfl
theorem akW(x:ai)(hs:M.s6 x=some false):M.qW x=some false:=by
 unfold M.qW;simp only[hs,av,aw,bw,ad,al]
theorem Uh(x:ai)(t:List UInt8)(hx:x.sz<=1048576)(hs:M.s6 x=some true)(ht:M.pg x=some t):M.qW x=some (iI x t):=by
 unfold M.qW iI;simp only[hs,ht,akl,akD x _ hx,av,aw,bM,ak,bo,al,ad]
end M
namespace M
open Go.V (inB bV ah bq)
theorem Ui(x:ai)(h:¬∃t,ix t=.inr x)(t:List UInt8):iI x t=false:=by
 cases hb:iI x t with
 |false=>rfl
 |true=>exact absurd ⟨t,Ug x t hb⟩ h
theorem akX(x:ai)(ti:List UInt8)(hx:x.sz<=1048576)(hi:M.sZ x=some ti)(sh:Bool)(hs:M.s6 x=some sh)
 (h0:sh=true->∃ts,M.pg x=some ts) (h1:(∃t,ix t=.inr x)->sh=true/\M.pg x=some ti):
 M.vo x=some (iI x ti)/\M.qW x=some (iI x ti)/\(iI x ti=true->M.pg x=some ti):=by
 refine⟨akV x ti hx hi,?_,fun h=>(h1 ⟨ti,Ug x ti h⟩).2⟩;by_cases hw:∃t,ix t=.inr x
 ·obtain⟨e1,e2⟩:=h1 hw;rw[e1]at hs;exact Uh x ti hx hs e2
 ·rw[Ui x hw ti];cases sh with
  |false=>exact akW x hs
  |true=>
   obtain⟨ts,e⟩:=h0 rfl;rw[Uh x ts hx hs e,Ui x hw ts]
end M
namespace M
open Go.V (inB bV ah bq)
theorem bC{a b:List UInt8}(h:a.length+b.length<=4611686018427387904):Go.V.az a b=true:=db h
def dh(p:aQ):List UInt8:=bif p.aJ==[]then p.Name else bif p.Version==[]then(p.aJ++[47])++p.Name else(((p.aJ++[47])++p.Name)++[64])++p.Version
def eG(p:aQ):List UInt8:=
 let q:=bif !(p.aJ==[])then(p.aJ++[47])++p.Name else p.Name
 bif !(p.Version==[])then q++([64]++p.Version)else q
theorem Na(p:aQ)(h:p.sz<=1048576):M.pj p=some (dh p):=by
 have hs:=aQ.cf p;unfold M.pj dh;cases (p.aJ==[])
 ·have c1:Go.V.az p.aJ [47]=true:=bC (by simp;omega);have c2:Go.V.az (p.aJ++[47]) p.Name=true:=bC (by simp;omega);have c3:Go.V.az ((p.aJ++[47])++p.Name) [64]=true:=bC (by simp;omega);have c4:Go.V.az (((p.aJ++[47])++p.Name)++[64]) p.Version=true:=bC (by simp;omega);simp only[c1,c2,c3,c4,ak,al,ad];cases (p.Version==[])<;>rfl
 ·rfl
theorem Nb(p:aQ)(h:p.sz<=1048576):M.pn p=some (eG p):=by
 have hs:=aQ.cf p;unfold M.pn eG;have c1:Go.V.az p.aJ [47]=true:=bC (by simp;omega);have c2:Go.V.az (p.aJ++[47]) p.Name=true:=bC (by simp;omega);have c3:Go.V.az [64] p.Version=true:=bC (by simp;omega);have c4:Go.V.az (bif !(p.aJ==[])then(p.aJ++[47])++p.Name else p.Name) ([64]++p.Version)=true:=bC (by cases (p.aJ==[])<;>simp<;>omega);simp only[c1,c2,c3,c4,al,bo,ad]
theorem Nc(p:aQ)(h:p.aJ=[]->p.Version=[]):eG p=dh p:=by
 unfold eG dh;cases hp:(p.aJ==[])
 ·cases (p.Version==[])
  ·simp
  ·rfl
 ·rw[h (cA.1 hp)];rfl
end M
namespace M
open Go.V (inB bV ah bq)
theorem akY{α:Type}{l:List α}{x:α}(h:l.length<=4000000):decide (l.length+[x].length<=1073741824)=true:=by
 rw[bU,List.length_singleton];omega
theorem wrapM{k:Nat}(h:k<=4000000):Go.IntKind.wrap .i64 ((k:Int)+1)=((k+1:Nat):Int):=by rw[wrap_i64 (by omega) (by omega)];omega
theorem Uj{rec:aa->Int->Option (List UInt8)}{lv:Int}{word:List UInt8}{t:aa}(tt:aa->List UInt8)(xs:List aa)(hX:xs.length<=1048576)(hr:∀x∈xs,rec x (Go.IntKind.wrap .i64 (lv-1))=some (tt x)):∀(n k:Nat)(acc:List (List UInt8)),xs.length-k<n->k<=xs.length->acc.length+(xs.length-k)<=2000000->
 M.s7 rec lv word xs ((xs.length:Nat):Int) n (k:Int) t acc=some (word,t,acc++(xs.drop k).map tt)
 |0,k,_,h,_,_=>by omega
 |n+1,k,acc,h,hk,hb=>by
  rw[M.s7];rcases cN k xs.length with q|q
  ·have ih:=Uj (word:=word) (t:=t) tt xs hX hr n (k+1) (acc++[tt xs[k]]) (by omega) (by omega) (by rw[aR,List.length_singleton];omega);simp only[eK q,bP,dy _ q,aa.aB,hr _ (cw q),av,aw,ad,dB q,al,wrapM (show k<=4000000 by omega),akY (show acc.length<=4000000 by omega),ih];rw[jf q,eN,fQ,List.singleton_append]
  ·simp only[iR q,ak,aa.aB];rw[List.drop_eq_nil_of_le q];simp
end M
namespace M
open Go.V (inB bV az ah bq)
def jn(l:List (List UInt8)):List UInt8:=Go.Lib.join l [44,32]
theorem Nh:jn []=[]:=rfl
theorem FI(x:List UInt8)(r:List (List UInt8)):jn (x::r)=x++Go.Lib.joinTail [44,32] r:=Go.Lib.join_cons x r [44,32]
theorem Uk:Go.Lib.joinTail [44,32] []=[]:=rfl
theorem Ul(x:List UInt8)(r:List (List UInt8)):Go.Lib.joinTail [44,32] (x::r)=44::32::(x++Go.Lib.joinTail [44,32] r):=by simp[Go.Lib.joinTail]
theorem akZ(a b:List (List UInt8)):Go.Lib.joinTail [44,32] (a++b)=Go.Lib.joinTail [44,32] a++Go.Lib.joinTail [44,32] b:=by simp[Go.Lib.joinTail]
theorem ak0(l:List (List UInt8))(x:List UInt8):jn (l++[x])=(if 0<l.length then jn l++[44,32]else[])++x:=by
 cases l with
 |nil=>simp[FI,Uk]
 |cons y r=>rw[oz,FI,FI,akZ];simp[Ul,Uk]
theorem kX:∀(l:List (List UInt8)),(jn l).length<=aT List.length l+l.length
 |[]=>by simp[Nh]
 |x::r=>by
  rw[FI,aR];have:∀r:List (List UInt8),(Go.Lib.joinTail [44,32] r).length=aT List.length r+r.length:=fun r=>by
   induction r with
   |nil=>rfl
   |cons y t ih=>rw[Ul];simp only[aU,aR,ih,aT];omega
  rw[this];simp only[aT,aU];omega
theorem FK(l:List (List UInt8))(h:aT List.length l<=536870912):M.strings_Join l [44,32]=some (jn l):=by
 have h1:=kX l;have h2:=df List.length l;unfold M.strings_Join;have e1:decide (l.length<=1073741824)=true:=by rw[bU];omega
 have e2:decide ((Go.Lib.join l [44,32]).length<=1073741824)=true:=by rw[bU];unfold jn at h1;omega
 rw[e1,e2];rfl
theorem FM{a b:Nat}(h:a+b<=1073741824):decide (a+b<=1073741824)=true:=by rw[bU];exact h
theorem FN{a b:Bool}:(bif a then a else b)=(a||b):=by cases a<;>rfl
def fO(K:Int):List UInt8:=bif decide (1<=K)&&decide (K<=23)then List.getD ([]::words) K.toNat []else[]
theorem Ni(K:Int):(fO K).length<=7:=by
 unfold fO;have h:∀w∈([]::words),w.length<=7:=by
  have:((([]:List UInt8)::words).all fun w=>decide (w.length<=7))=true:=by decide
  intro w hw;simpa using fj.1 this w hw
 cases decide (1<=K)&&decide (K<=23)
 ·simp
 ·rw[ad];rcases cN K.toNat (List.length ([]::words))with hk|hk
  ·rw[getD_lt hk];exact h _ (cw hk)
  ·rw[gd,jS hk];simp
def FO(K:Int):Bool:=(K==12)||((K==13)||((K==22)||((K==23)||(K==15))))
def FP(K:Int):Bool:=(K==16)||((K==17)||((K==18)||(K==19)))
def labT(K:Int):List (List UInt8)->List aa->List (List UInt8)->List (List UInt8)
 |[],_,_=>[]
 |l::r,c::cs,x::xs=>(bif K==16 then l++([58,32]++x)else bif(K==17)&&(c.Kind !=1)then l++(([40]++x)++[41])else l)::labT K r cs xs
 |l::r,_,_=>l::labT K r [] []
def s8(t:aa)(ks:List (List UInt8)):List UInt8:=
 bif((ks.length:Nat):Int) !=2 then[]
 else bif((List.getD t.Kids 0 aa.zero).Kind==1)&&((List.getD t.Kids 1 aa.zero).Kind==1)then[]
 else bif(List.getD t.Kids 1 aa.zero).Kind==1 then([60]++List.getD ks 0 [])++[62]
 else bif(List.getD t.Kids 0 aa.zero).Kind==1 then([60,95,44,32]++List.getD ks 1 [])++[62]
 else((([60]++List.getD ks 0 [])++[44,32])++List.getD ks 1 [])++[62]
def bodyT(t:aa)(ks:List (List UInt8)):List UInt8:=
 bif t.Kind==30 then t.Name
 else bif(t.Kind==20)||(t.Kind==21)then((fO t.Kind++[60])++t.Name)++[62]
 else bif FO t.Kind then((fO t.Kind++[60])++jn ks)++[62]
 else bif t.Kind==14 then fO t.Kind++s8 t ks
 else bif FP t.Kind then((fO t.Kind++[32,123,32])++jn (labT t.Kind t.bm t.Kids ks))++[32,125]
 else fO t.Kind
def cL:Nat->aa->List UInt8
 |0,_=>[]
 |n+1,t=>bodyT t (t.Kids.map (cL n))
theorem vp(K:Int):∀(ls:List (List UInt8))(cs:List aa)(xs:List (List UInt8)),aT List.length (labT K ls cs xs)<=aT List.length ls+2*ls.length+aT List.length xs
 |[],_,_=>by simp[labT,aT]
 |l::r,[],xs=>by
  have:=vp K r [] [];have e:aT List.length ([]:List (List UInt8))=0:=rfl;cases xs<;>simp only[labT,aT,aU]at*<;>omega
 |l::r,c::cs,[]=>by
  have:=vp K r [] [];simp only[labT,aT,aU]at*;omega
 |l::r,c::cs,x::xs=>by
  have:=vp K r cs xs;simp only[labT,aT,aU];cases (K==16)
  ·cases ((K==17)&&(c.Kind !=1))<;>simp only[ad,ak,aR,aU,bf]<;>omega
  ·simp only[ad,aR,aU,bf];omega
theorem mX(K:Int):∀(ls:List (List UInt8))(cs:List aa)(xs:List (List UInt8)),(labT K ls cs xs).length=ls.length
 |[],_,_=>by simp[labT]
 |l::r,[],xs=>by cases xs<;>simp[labT,mX K r [] []]
 |l::r,c::cs,[]=>by simp[labT,mX K r [] []]
 |l::r,c::cs,x::xs=>by simp[labT,mX K r cs xs]
theorem FQ(K:Int)(f:aa->List UInt8):∀(ls:List (List UInt8))(cs:List aa)(k:Nat),k<ls.length->(labT K ls cs (cs.map f)).getD k []=if h:k<cs.length then(bif K==16 then ls.getD k []++([58,32]++f cs[k])else bif(K==17)&&(cs[k].Kind !=1)then ls.getD k []++(([40]++f cs[k])++[41])else ls.getD k [])else ls.getD k []
 |[],_,k,h=>by simp at h
 |l::r,[],k,h=>by
  cases k with
  |zero=>simp[labT]
  |succ k=>
   have:=FQ K f r [] k (by simpa using h);simpa [labT]using this
 |l::r,x::cs,k,h=>by
  cases k with
  |zero=>simp[labT]
  |succ k=>
   have:=FQ K f r cs k (by simpa using h);simp only[eN,labT,List.getD_cons_succ,this,aU,Nat.add_lt_add_iff_right,List.getElem_cons_succ]
theorem Um(t:aa)(ks:List (List UInt8)):(s8 t ks).length<=aT List.length ks+5:=by
 unfold s8;cases hc:(((ks.length:Nat):Int) !=2)
 ·have h2:ks.length=2:=by have:=bne_eq_false_iff_eq.1 hc;omega
  obtain⟨a,b,rfl⟩:∃a b,ks=[a,b]:=by
   match ks,h2 with
   |[a,b],_=>exact⟨a,b,rfl⟩
  simp only[ak,aT];cases (((List.getD t.Kids 0 aa.zero).Kind==1)&&((List.getD t.Kids 1 aa.zero).Kind==1))
  ·cases ((List.getD t.Kids 1 aa.zero).Kind==1)
   ·cases ((List.getD t.Kids 0 aa.zero).Kind==1)<;>simp<;>omega
   ·simp;omega
  ·simp
 ·simp
theorem s9:∀(n:Nat)(t:aa),(cL n t).length<=16*t.sz+14
 |0,t=>by simp[cL]
 |n+1,t=>by
  have hs:=aa.cf t;have hk:=Ni t.Kind;have hx:aT List.length (t.Kids.map (cL n))+(t.Kids.map (cL n)).length<=16*aT aa.sz t.Kids:=by
   have key:∀l:List aa,aT List.length (l.map (cL n))+(l.map (cL n)).length<=16*aT aa.sz l:=fun l=>by
    induction l with
    |nil=>simp[aT]
    |cons y r ih=>
     have h1:=s9 n y;simp only[eN,aT,aU]at ih⊢;omega
   exact key _
  have hj:=kX (t.Kids.map (cL n));have hl:=vp t.Kind t.bm t.Kids (t.Kids.map (cL n));have hll:=mX t.Kind t.bm t.Kids (t.Kids.map (cL n));have hle:=df List.length t.bm;have hj2:=kX (labT t.Kind t.bm t.Kids (t.Kids.map (cL n)));have hr:=Um t (t.Kids.map (cL n));rw[cL];unfold bodyT;cases (t.Kind==30)
  ·cases ((t.Kind==20)||(t.Kind==21))
   ·cases (FO t.Kind)
    ·cases (t.Kind==14)
     ·cases (FP t.Kind)
      ·simp only[ak];omega
      ·simp only[ak,ad,aR,aU,bf];omega
     ·simp only[ak,ad,aR];omega
    ·simp only[ak,ad,aR,aU,bf];omega
   ·simp only[ak,ad,aR,aU,bf];omega
  ·simp only[ad];omega
theorem Un(n:Nat)(l:List aa):aT List.length (l.map (cL n))<=16*aT aa.sz l:=by
 induction l with
 |nil=>simp[aT]
 |cons y r ih=>
  have h1:=s9 n y;simp only[eN,aT];omega
theorem Nj{α β Y:Type}{F:Nat->Int->List β->Option Y}{h:List β->Option Y}(g:α->β)(l:List α)(hn:l.length<=2097152)(A6:List β)
 (step:∀f k out,∀hk:k<l.length,out.length=A6.length+k->F (f+1) (k:Int) out=F f ((k+1:Nat):Int) (out++[g l[k]]))
 (stop:∀f out,F (f+1) (l.length:Int) out=h out):F ah 0 A6=h (A6++l.map g):=by
 have key:∀f k out,k<=l.length->l.length-k<f->out.length=A6.length+k->F f (k:Int) out=h (out++(l.drop k).map g):=by
  intro f
  induction f with
  |zero=>intro k out h1 h2;omega
  |succ f ih=>
   intro k out h1 h2 ho;rcases cN k l.length with hk|hk
   ·rw[step f k out hk ho,ih (k+1) _ (by omega) (by omega) (by simp[ho];omega),sn hk];simp only[eN,fQ,List.singleton_append]
   ·have:k=l.length:=by omega
    subst this;rw[stop,ue];simp
 have:=key ah 0 A6 (dL _) (by have:=bq;omega) rfl;simpa using this
theorem Nk{α:Type}(f:α->Nat):∀(l:List α)(k:Nat),aT f (l.take k)<=aT f l
 |[],k=>by simp[aT]
 |x::r,0=>by simp[aT]
 |x::r,k+1=>by have:=Nk f r k;simp only[List.take_succ_cons,aT];omega
theorem FR{Y:Type}{F:Nat->List UInt8->Int->Option Y}{h:List UInt8->Option Y}(L:List (List UInt8))(hn:L.length<=2097152)(s0:List UInt8)
 (step:∀f k s,∀hk:k<L.length,s.length<=s0.length+2*aT List.length L->F (f+1) s (k:Int)=F f ((bif decide ((0:Int)<(k:Int))then s++[44,32]else s)++L[k]) ((k+1:Nat):Int))
 (stop:∀f s,F (f+1) s (L.length:Int)=h s):F ah s0 0=h (s0++jn L):=by
 have key:∀f k,k<=L.length->L.length-k<f->F f (s0++jn (L.take k)) (k:Int)=h (s0++jn L):=by
  intro f
  induction f with
  |zero=>intro k h1 h2;omega
  |succ f ih=>
   intro k h1 h2;rcases cN k L.length with hk|hk
   ·have hj:=kX (L.take k);have ht:=Nk List.length L k;have hl:=df List.length L;have hm:(L.take k).length<=L.length:=by rw[ni];omega
    rw[step f k _ hk (by rw[aR];omega)];have e:(bif decide ((0:Int)<(k:Int))then s0++jn (L.take k)++[44,32]else s0++jn (L.take k))++L[k]=s0++jn (L.take (k+1)):=by
     rw[DG,cF hk,Option.toList_some,ak0,ni,Nat.min_eq_left (by omega)];by_cases hz:0<k
     ·rw[ba hz,db (by omega),ad];simp only[fQ]
     ·have:k=0:=by omega
      subst this;simp[Nh]
    rw[e];exact ih (k+1) (by omega) (by omega)
   ·have:k=L.length:=by omega
    subst this;rw[stop,DI]
 have:=key ah 0 (dL _) (by have:=bq;omega);simpa [Nh]using this
end M
namespace M
open Go.V (inB bV az ah bq)
theorem ak1(t:aa)(ks:List (List UInt8))(hl:ks.length=t.Kids.length)(hb:aT List.length ks<=536870912):M.x5 t ks=some (s8 t ks):=by
 unfold M.x5 s8;cases hc:(((ks.length:Nat):Int) !=2)
 ·have h2:ks.length=2:=by have:=bne_eq_false_iff_eq.1 hc;omega
  obtain⟨a,b,rfl⟩:∃a b,ks=[a,b]:=by
   match ks,h2 with
   |[a,b],_=>exact⟨a,b,rfl⟩
  simp only[aT]at hb;have i0:inB (0:Int) t.Kids.length=true:=by rw[<-hl];rfl
  have i1:inB (1:Int) t.Kids.length=true:=by rw[<-hl];rfl
  have j0:inB (0:Int) [a,b].length=true:=rfl;have j1:inB (1:Int) [a,b].length=true:=rfl;have c1:az [60] (List.getD [a,b] 0 [])=true:=bC (by simp;omega);have c2:az ([60]++List.getD [a,b] 0 []) [62]=true:=bC (by simp;omega);have c3:az [60,95,44,32] (List.getD [a,b] 1 [])=true:=bC (by simp;omega);have c4:az ([60,95,44,32]++List.getD [a,b] 1 []) [62]=true:=bC (by simp;omega);have c5:az ([60]++List.getD [a,b] 0 []) [44,32]=true:=bC (by simp;omega);have c6:az (([60]++List.getD [a,b] 0 [])++[44,32]) (List.getD [a,b] 1 [])=true:=bC (by simp;omega);have c7:az ((([60]++List.getD [a,b] 0 [])++[44,32])++List.getD [a,b] 1 []) [62]=true:=bC (by simp;omega);have n0:Int.toNat (0:Int)=0:=rfl;have n1:Int.toNat (1:Int)=1:=rfl;simp only[ak,i0,i1,j0,j1,c1,c2,c3,c4,c5,c6,c7,n0,n1,al,ad];cases (List.getD t.Kids 0 aa.zero).Kind==1<;>cases (List.getD t.Kids 1 aa.zero).Kind==1<;>rfl
 ·rfl
theorem ak2(f:aa->List UInt8)(t:aa)(hL:t.bm.length<=1048576)(hb:aT List.length t.bm+aT List.length (t.Kids.map f)<=268435456):M.x6 t (t.Kids.map f)=some (labT t.Kind t.bm t.Kids (t.Kids.map f)):=by
 unfold M.x6;have e:=Nj (F:=fun n i o=>M.qX (t.Kids.map f) t.bm ((t.bm.length:Nat):Int) n i t o) (h:=fun o=>some o) id (labT t.Kind t.bm t.Kids (t.Kids.map f)) (by rw[mX];omega) [] (fun n k out hk ho=>by
  have hk':=hk;rw[mX]at hk;have hg:=FQ t.Kind f t.bm t.Kids k hk;rw[getD_lt hk']at hg
  show M.qX (t.Kids.map f) t.bm ((t.bm.length:Nat):Int) (n+1) (k:Int) t out=_
  rw[M.qX];have hc:∀y:List UInt8,decide (out.length+[y].length<=1073741824)=true:=fun y=>FM (by simp at ho⊢;omega)
  have hml:=dK List.length t.bm t.bm[k] (cw hk);simp only[aa.aB,eK hk,ad,bP,dB hk,hc,bA,cT,bS hk (by omega:t.bm.length<2^62),id,dy _ hk];by_cases hkk:k<t.Kids.length
  ·rw[dif_pos hkk]at hg;have Uo:k<(t.Kids.map f).length:=by rw[fk];exact hkk
   have hmx:=dK List.length (t.Kids.map f) (f t.Kids[k]) (List.mem_map_of_mem (cw hkk));have e1:List.getD (t.Kids.map f) k []=f t.Kids[k]:=by rw[getD_lt Uo,DJ]
   have e2:decide ((((t.Kids.map f).length:Nat):Int)<=(k:Int))=false:=cQ (by omega);have c1:az [58,32] (f t.Kids[k])=true:=bC (by simp;omega);have c2:az t.bm[k] ([58,32]++f t.Kids[k])=true:=bC (by simp;omega);have c3:az [40] (f t.Kids[k])=true:=bC (by simp;omega);have c4:az ([40]++f t.Kids[k]) [41]=true:=bC (by simp;omega);have c5:az t.bm[k] (([40]++f t.Kids[k])++[41])=true:=bC (by simp;omega);rw[dy _ hk]at hg;simp only[e1,e2,dB hkk,dB Uo,c1,c2,c3,c4,c5,dy _ hkk,ak,bw,dT,bo,al,ln,bA,Bool.or_not_self,Bool.not_or_self];cases h16:(t.Kind==16)<;>cases h17:((t.Kind==17)&&(t.Kids[k].Kind !=1))<;>rw[h16,h17]at hg<;>rw[hg]<;>rfl
  ·rw[dif_neg hkk,dy _ hk]at hg;have e2:decide ((((t.Kids.map f).length:Nat):Int)<=(k:Int))=true:=db (by rw[fk];omega);simp only[e2,ad,dT,bM,ln,al,hg]) (fun n out=>by
  show M.qX (t.Kids.map f) t.bm ((t.bm.length:Nat):Int) (n+1) _ t out=_
  rw[mX,M.qX];simp)
 simp only[fA,List.map_id]at e;rw[aa.aB,e]
theorem Up{K:Int}(h:(decide (1<=K)&&decide (K<=23))=true):fO K=List.getD ([]::words) K.toNat []:=by
 unfold fO;rw[h,ad]
theorem ak3{K:Int}(h:(decide (1<=K)&&decide (K<=23))=false):fO K=[]:=by
 unfold fO;rw[h,ak]
theorem ak4{K:Int}(h:(decide (1<=K)&&decide (K<=23))=true):inB K (List.length ([]::words))=true:=by
 simp only[bB,bU]at h;obtain⟨n,rfl⟩:=DC (show 0<=K by omega);rw[dA,bU,show List.length (([]:List UInt8)::words)=24 from rfl];omega
theorem Ur:∀(m n:Nat)(t:aa),n<m->n<=100->t.sz<=1048576->M.ta m t (n:Int)=some (cL n t)
 |0,n,t,h,_,_=>by omega
 |m+1,0,t,h,_,_=>rfl
 |m+1,n+1,t,h,hn,hs=>by
  show M.FT (M.ta m) t _=_
  have hz:=aa.cf t;have hw:Go.IntKind.wrap .i64 (((n+1:Nat):Int)-1)=(n:Int):=by rw[wrap_i64 (by omega) (by omega)];omega
  have hrec:∀x∈t.Kids,M.ta m x (Go.IntKind.wrap .i64 (((n+1:Nat):Int)-1))=some (cL n x):=fun x hx=>by
   rw[hw];exact Ur m n x (by omega) (by omega) (by have:=aa.AK hx;omega)
  have hk:=aa.FA hs;have e0:∀word,M.s7 (M.ta m) ((n+1:Nat):Int) word t.Kids ((t.Kids.length:Nat):Int) ah 0 t []=some (word,t,t.Kids.map (cL n)):=fun word=>by
   have:=Uj (word:=word) (t:=t) (cL n) t.Kids hk hrec ah 0 [] (by have:=bq;omega) (by omega) (by simp;omega);simpa using this
  have hkl:=Un n t.Kids;have hkw:=Ni t.Kind;have hj:=kX (t.Kids.map (cL n));have hl:=vp t.Kind t.bm t.Kids (t.Kids.map (cL n));have hll:=mX t.Kind t.bm t.Kids (t.Kids.map (cL n));have hle:=df List.length t.bm;have hj2:=kX (labT t.Kind t.bm t.Kids (t.Kids.map (cL n)));have hr:=Um t (t.Kids.map (cL n));have hsk:=df aa.sz t.Kids;have hmk:(t.Kids.map (cL n)).length=t.Kids.length:=fk _;have d:(((n+1:Nat):Int)==0)=false:=by rw[cM];omega
  have r1:=ak1 t (t.Kids.map (cL n)) hmk (by omega);have r2:=ak2 (cL n) t (by omega) (by omega);have r3:=FK (t.Kids.map (cL n)) (by omega);have r4:=FK (labT t.Kind t.bm t.Kids (t.Kids.map (cL n))) (by omega);rw[cL];unfold M.FT bodyT FO FP;have c1:az (fO t.Kind) [60]=true:=bC (by simp only[aR,aU,bf];omega);have c2:az (fO t.Kind++[60]) t.Name=true:=bC (by simp only[aR,aU,bf];omega);have c3:az ((fO t.Kind++[60])++t.Name) [62]=true:=bC (by simp only[aR,aU,bf];omega);have c4:az (fO t.Kind++[60]) (jn (t.Kids.map (cL n)))=true:=bC (by simp only[aR,aU,bf];omega);have c5:az ((fO t.Kind++[60])++jn (t.Kids.map (cL n))) [62]=true:=bC (by simp only[aR,aU,bf];omega);have c6:az (fO t.Kind) (s8 t (t.Kids.map (cL n)))=true:=bC (by omega);have c7:az (fO t.Kind) [32,123,32]=true:=bC (by simp only[aR,aU,bf];omega);have c8:az (fO t.Kind++[32,123,32]) (jn (labT t.Kind t.bm t.Kids (t.Kids.map (cL n))))=true:=bC (by simp only[aR,aU,bf];omega);have c9:az ((fO t.Kind++[32,123,32])++jn (labT t.Kind t.bm t.Kids (t.Kids.map (cL n)))) [32,125]=true:=bC (by simp only[aR,aU,bf];omega);cases hK:decide (1<=t.Kind)&&decide (t.Kind<=23)
  ·rw[ak3 hK]at c1 c2 c3 c4 c5 c6 c7 c8 c9⊢;simp only[d,hK,ak,aa.aB,e0];simp only[FN,r1,r2,r3,r4,c1,c2,c3,c4,c5,c6,c7,c8,c9,av,aw,al,ad];cases (t.Kind==30)<;>cases ((t.Kind==20)||(t.Kind==21))<;>cases ((t.Kind==12)||((t.Kind==13)||((t.Kind==22)||((t.Kind==23)||(t.Kind==15)))))<;>cases (t.Kind==14)<;>cases ((t.Kind==16)||((t.Kind==17)||((t.Kind==18)||(t.Kind==19))))<;>rfl
  ·simp only[d,hK,ak,ad,aa.aB,e0,E2,av,aw,ak4 hK,al,bo,bA,cT];simp only[<-Up hK,FN,r1,r2,r3,r4,c1,c2,c3,c4,c5,c6,c7,c8,c9,av,aw,al,ad];cases (t.Kind==30)<;>cases ((t.Kind==20)||(t.Kind==21))<;>cases ((t.Kind==12)||((t.Kind==13)||((t.Kind==22)||((t.Kind==23)||(t.Kind==15)))))<;>cases (t.Kind==14)<;>cases ((t.Kind==16)||((t.Kind==17)||((t.Kind==18)||(t.Kind==19))))<;>rfl
theorem Us(t:aa)(hs:t.sz<=1048576):M.tc t 5=some (cL 5 t):=Ur ah 5 t (by have:=bq;omega) (by omega) hs
end M
namespace M
open Go.V (inB bV az ah bq)
def A7(K:Int):Bool:=(K==12)||((K==13)||((K==22)||(K==23)))
def du(K:Int):Bool:=(K==14)||(K==17)
def lP(K:Int)(n:Int):Int:=bif A7 K then 1 else bif K==14 then 2 else bif K==15 then 1 else bif(K==16)||(K==17)then n else 0
def kx(K:Int)(n:Int):Int:=bif A7 K then 1 else bif K==14 then 2 else bif K==15 then 6 else bif(K==16)||(K==17)then n else 0
def nR(K:Int):Bool:= !((!(decide (1<=K)&&decide (K<=23)))&&(K !=30))
def kY(g:aa->Int)(u:Bool):List aa->Int->Int
 |[],s=>s
 |x::r,s=>bif u&&(x.Kind==1)then kY g u r (s+1)else bif decide (g x<0)||decide (12000<s)then -1 else kY g u r (s+g x)
def bX:Nat->aa->Int
 |0,_=> -1
 |d+1,t=>bif(decide ((16:Int)<((t.bm.length:Nat):Int))||decide ((16:Int)<((t.Kids.length:Nat):Int)))||decide ((12:Int)<((t.Name.length:Nat):Int))then -1
  else bif(!nR t.Kind)|| !(decide (lP t.Kind ((t.bm.length:Nat):Int)<=((t.Kids.length:Nat):Int))&&decide (((t.Kids.length:Nat):Int)<=kx t.Kind ((t.bm.length:Nat):Int)))then -1
  else kY (bX d) (du t.Kind) t.Kids 1
theorem Nl(g:aa->Int)(u:Bool)(B:Int)(hB:0<=B):∀(l:List aa)(s:Int),(∀x∈l,g x<=B)->l.length<=16->s+l.length<=12016+B->kY g u l s<=12016+B
 |[],s,_,_,h=>by rw[kY];simpa using h
 |x::r,s,hg,hl,h=>by
  simp only[aU]at hl h;rw[kY];cases (u&&(x.Kind==1))
  ·rw[ak];cases hc:(decide (g x<0)||decide (12000<s))
   ·rw[ak];rw[kD,eV,eV]at hc;have:=hg x (by simp);exact Nl g u B hB r _ (fun y hy=>hg y (by simp[hy])) (by omega) (by omega)
   ·rw[ad];omega
  ·rw[ad];exact Nl g u B hB r _ (fun y hy=>hg y (by simp[hy])) (by omega) (by omega)
theorem Ut:∀(d:Nat)(t:aa),bX d t<=12016*(d:Int)
 |0,t=>by show(-1:Int)<=_;omega
 |d+1,t=>by
  rw[bX];cases hc:((decide ((16:Int)<((t.bm.length:Nat):Int))||decide ((16:Int)<((t.Kids.length:Nat):Int)))||decide ((12:Int)<((t.Name.length:Nat):Int)))
  ·rw[ak];simp only[kD,eV]at hc;have h1:=Nl (bX d) (du t.Kind) (12016*(d:Int)) (by omega) t.Kids 1 (fun x _=>Ut d x) (by omega) (by omega);have key:∀q:Bool,(bif q then -1 else kY (bX d) (du t.Kind) t.Kids 1)<=12016*((d+1:Nat):Int):=fun q=>by
    cases q<;>simp only[ad,ak]<;>omega
   exact key _
  ·rw[ad];omega
theorem Nn{rec:aa->Int->Option Int}{deep:Int}{g:aa->Int}{t:aa}{B:Int}(hk:t.Kids.length<=16)(hr:∀x∈t.Kids,rec x (Go.IntKind.wrap .i64 (deep-1))=some (g x))(hB:∀x∈t.Kids,g x<=B)(h0:0<=B)(h1:B<=1000000):
 ∀(f k:Nat)(s:Int),t.Kids.length-k<f->k<=t.Kids.length->0<=s->s+((t.Kids.length-k:Nat):Int)<=12016+B->∃y,M.vq rec deep f s (k:Int) t=some y/\Sum.elim id id y=kY g (du t.Kind) (t.Kids.drop k) s
 |0,k,s,h,_,_,_=>by omega
 |f+1,k,s,h,hkl,hs,hsb=>by
  rw[M.vq];rcases cN k t.Kids.length with q|q
  ·have hm:=cw q;rw[jf q,kY];simp only[eK q,bP,dy _ q,aa.aB,hr _ hm,av,aw,ad,dB q,al,bo,bS q (by omega:t.Kids.length<2^62)]
   show ∃y,(bif du t.Kind&&_ then _ else _)=some y/\_
   cases hu:(du t.Kind&&(t.Kids[k].Kind==1))
   ·simp only[ak];cases hc:(decide (g t.Kids[k]<0)||decide (12000<s))
    ·simp only[ak];rw[kD,eV,eV]at hc;have:=hB _ hm;rw[wrap_i64 (show -9223372036854775808<=s+g t.Kids[k] by omega) (by omega)];exact Nn hk hr hB h0 h1 f (k+1) _ (by omega) (by omega) (by omega) (by omega)
    ·simp only[ad];exact⟨_,rfl,rfl⟩
   ·simp only[ad];rw[wrap_i64 (show -9223372036854775808<=s+1 by omega) (by omega)];exact Nn hk hr hB h0 h1 f (k+1) _ (by omega) (by omega) (by omega) (by omega)
  ·simp only[iR q,ak];rw[List.drop_eq_nil_of_le q,kY];exact⟨_,rfl,rfl⟩
theorem Np{α:Type}(q:Bool)(a b:α):(bif q then some a else some b)=some (bif q then a else b):=by cases q<;>rfl
theorem Uu:∀(m d:Nat)(t:aa),d<m->d<=10->M.vr m t (d:Int)=some (bX d t)
 |0,d,t,h,_=>by omega
 |m+1,0,t,h,_=>rfl
 |m+1,d+1,t,h,hd=>by
  show M.FU (M.vr m) t _=_
  have e0:(((d+1:Nat):Int)==0)=false:=by rw[cM];omega
  have hw:Go.IntKind.wrap .i64 (((d+1:Nat):Int)-1)=(d:Int):=by rw[wrap_i64 (by omega) (by omega)];omega
  unfold M.FU;rw[bX];simp only[e0,jV,FN,aa.aB];cases hc:((decide ((16:Int)<((t.bm.length:Nat):Int))||decide ((16:Int)<((t.Kids.length:Nat):Int)))||decide ((12:Int)<((t.Name.length:Nat):Int)))
  ·simp only[ak];simp only[kD,eV]at hc;have e1:(!nR t.Kind)=((!(decide (1<=t.Kind)&&decide (t.Kind<=23)))&&(t.Kind !=30)):=by unfold nR;rw[Bool.not_not]
   rw[e1];unfold lP kx A7;obtain⟨y,hy,hv⟩:=Nn (rec:=M.vr m) (deep:=((d+1:Nat):Int)) (g:=bX d) (t:=t) (B:=12016*(d:Int)) (by omega) (fun x hx=>by rw[hw];exact Uu m d x (by omega) (by omega)) (fun x _=>Ut d x) (by omega) (by omega) ah 0 1 (by have:=bq;omega) (by omega) (by omega) (by omega);rw[show((0:Nat):Int)=0 from rfl]at hy;rw[gX]at hv;simp only[hy,<-hv];cases y<;>exact Np _ _ _
  ·rfl
theorem Uw(t:aa):M.A8 t 4=some (bX 4 t):=Uu ah 4 t (by have:=bq;omega) (by omega)
structure ak5 (d:Nat) (t:aa):Prop where
 kin:(1<=t.Kind/\t.Kind<=23)\/t.Kind=30
 res:t.Kind=14->t.Kids.length=2
 lab:(t.Kind=16\/t.Kind=17)->t.Kids.length=t.bm.length
 non:(t.Kind=18\/t.Kind=19)->t.Kids.length=0
 kid:∀x∈t.Kids,(du t.Kind&&(x.Kind==1))=true\/0<=bX d x
theorem Nq(g:aa->Int)(u:Bool):∀(l:List aa)(s:Int),0<=kY g u l s->∀x∈l,(u&&(x.Kind==1))=true\/0<=g x
 |[],s,_,x,hx=>by cases hx
 |y::r,s,h,x,hx=>by
  rw[kY]at h;cases hu:(u&&(y.Kind==1))<;>rw[hu]at h
  ·rw[ak]at h;cases hc:(decide (g y<0)||decide (12000<s))<;>rw[hc]at h
   ·rw[ak]at h;rw[kD,eV,eV]at hc;rcases gp.1 hx with q|q
    ·rw[q];right;omega
    ·exact Nq g u r _ h x q
   ·rw[ad]at h;omega
  ·rw[ad]at h;rcases gp.1 hx with q|q
   ·rw[q];left;exact hu
   ·exact Nq g u r _ h x q
theorem ak6{d:Nat}{t:aa}(h:0<=bX (d+1) t):ak5 d t:=by
 rw[bX]at h;cases hc:((decide ((16:Int)<((t.bm.length:Nat):Int))||decide ((16:Int)<((t.Kids.length:Nat):Int)))||decide ((12:Int)<((t.Name.length:Nat):Int)))<;>rw[hc]at h
 ·rw[ak]at h;cases hq:((!nR t.Kind)|| !(decide (lP t.Kind ((t.bm.length:Nat):Int)<=((t.Kids.length:Nat):Int))&&decide (((t.Kids.length:Nat):Int)<=kx t.Kind ((t.bm.length:Nat):Int))))<;>rw[hq]at h
  ·rw[ak]at h;simp only[kD,Bool.not_eq_false',bB,bU]at hq;obtain⟨h1,h2,h3⟩:=hq;refine⟨?_,?_,?_,?_,Nq _ _ _ _ h⟩
   ·unfold nR at h1;simp only[fK,Bool.and_eq_false_iff,Bool.not_eq_false',bB,bU,bne_eq_false_iff_eq]at h1;exact h1
   ·intro e;rw[e]at h2 h3;have a:lP 14 ((t.bm.length:Nat):Int)=2:=rfl;have b:kx 14 ((t.bm.length:Nat):Int)=2:=rfl;rw[a]at h2;rw[b]at h3;omega
   ·intro e;rcases e with e|e<;>rw[e]at h2 h3
    ·have a:lP 16 ((t.bm.length:Nat):Int)=((t.bm.length:Nat):Int):=rfl;have b:kx 16 ((t.bm.length:Nat):Int)=((t.bm.length:Nat):Int):=rfl;rw[a]at h2;rw[b]at h3;omega
    ·have a:lP 17 ((t.bm.length:Nat):Int)=((t.bm.length:Nat):Int):=rfl;have b:kx 17 ((t.bm.length:Nat):Int)=((t.bm.length:Nat):Int):=rfl;rw[a]at h2;rw[b]at h3;omega
   ·intro e;rcases e with e|e<;>rw[e]at h3
    ·have b:kx 18 ((t.bm.length:Nat):Int)=0:=rfl;rw[b]at h3;omega
    ·have b:kx 19 ((t.bm.length:Nat):Int)=0:=rfl;rw[b]at h3;omega
  ·rw[ad]at h;omega
 ·rw[ad]at h;omega
end M
namespace M
open Go.V (inB bV az ah bq)
theorem ak7:Option.getD M.jw default++Option.getD M.jx default=words:=by decide
theorem ak8:Option.isSome M.jw=true:=by decide
theorem ak9:Option.isSome M.jx=true:=by decide
theorem kwS{K:Int}(h1:1<=K)(h2:K<=23):List.getD words (Int.toNat (Go.IntKind.wrap .i64 (K-1))) []=fO K/\inB (Go.IntKind.wrap .i64 (K-1)) words.length=true:=by
 rw[wrap_i64 (by omega) (by omega)];obtain⟨n,hn⟩:=DC (show 0<=K-1 by omega);have hK:K=((n+1:Nat):Int):=by omega
 subst hK;rw[hn,Up (by rw[bB,bU,bU];exact⟨h1,h2⟩),bP,bP,dA,bU,show words.length=23 from rfl];exact⟨rfl,by omega⟩
theorem FV(k:Nat)(s:List UInt8):(bif decide ((0:Int)<(k:Int))then s++[(44:UInt8),32]else s).length<=s.length+2:=by
 cases decide ((0:Int)<(k:Int))<;>simp
theorem FW(k:Nat){s:List UInt8}(h:s.length<=2000000000):az s [(44:UInt8),32]=true:=bC (by simp only[aU,bf];omega)
theorem alb{rec:aa->Option (List UInt8)}(f:aa->List UInt8)(l:List aa)(hl:l.length<=1048576)(hb:aT List.length (l.map f)<=268435456)(hr:∀x∈l,rec x=some (f x)):M.A9 rec l=some (jn (l.map f)):=by
 unfold M.A9;have e:=FR (F:=fun n s i=>M.qY rec l n s i) (h:=some) (l.map f) (by rw[fk];omega) [] (fun n k s hk hs=>by
  rw[fk]at hk
  show M.qY rec l (n+1) s (k:Int)=_
  rw[M.qY];have hm:=cw hk;have hx:=dK List.length (l.map f) (f l[k]) (List.mem_map_of_mem hm);have hc:=FV k s;simp only[bf]at hs;have c1:az (bif decide ((0:Int)<(k:Int))then s++[44,32]else s) (f l[k])=true:=bC (by omega);simp only[eK hk,bP,dy _ hk,aa.aB,hr _ hm,av,aw,ad,dB hk,FW k (show s.length<=2000000000 by omega),c1,al,bo,bS hk (by omega:l.length<2^62),DJ]) (fun n s=>by
  show M.qY rec l (n+1) s _=_
  rw[fk,M.qY];simp)
 simp only[fA]at e;rw[e]
theorem alc{rec:aa->Option (List UInt8)}(f:aa->List UInt8)(t:aa)(hL:t.bm.length<=1048576)(hb:aT List.length t.bm+aT List.length (t.Kids.map f)<=134217728)(hlab:(t.Kind=16\/t.Kind=17)->t.Kids.length=t.bm.length)(Ux:(t.Kind=18\/t.Kind=19)->t.Kids.length=0)
 (hK:t.Kind=16\/t.Kind=17\/t.Kind=18\/t.Kind=19) (hr:∀x∈t.Kids,(du t.Kind&&(x.Kind==1))=true\/rec x=some (f x)):M.Ba rec t=some (([32,123,32]++jn (labT t.Kind t.bm t.Kids (t.Kids.map f)))++[32,125]):=by
 have hs1:=vp t.Kind t.bm t.Kids (t.Kids.map f);have hs2:=mX t.Kind t.bm t.Kids (t.Kids.map f);have hle:=df List.length t.bm;have hj:=kX (labT t.Kind t.bm t.Kids (t.Kids.map f));unfold M.Ba;have e:=FR (F:=fun n s i=>M.qZ rec n s i t) (h:=some) (labT t.Kind t.bm t.Kids (t.Kids.map f)) (by omega) [] (fun n k s hk hs=>by
  have hk':=hk;rw[mX]at hk;have hg:=FQ t.Kind f t.bm t.Kids k hk;rw[getD_lt hk',dy _ hk]at hg
  show M.qZ rec (n+1) s (k:Int) t=_
  rw[M.qZ];have hml:=dK List.length t.bm t.bm[k] (cw hk);have hc:=FV k s;simp only[bf]at hs;have c1:az (bif decide ((0:Int)<(k:Int))then s++[44,32]else s) t.bm[k]=true:=bC (by omega);simp only[eK hk,bP,dy _ hk,aa.aB,ad,dB hk,FW k (show s.length<=2000000000 by omega),c1,al,bo,bS hk (by omega:t.bm.length<2^62),hg];generalize hq:(bif decide ((0:Int)<(k:Int))then s++[44,32]else s)=q at*;rcases hK with h|h|h|h
  ·have hkk:k<t.Kids.length:=by rw[hlab (.inl h)];exact hk
   have hm:=cw hkk;have hx:=dK List.length (t.Kids.map f) (f t.Kids[k]) (List.mem_map_of_mem hm);have er:rec t.Kids[k]=some (f t.Kids[k]):=(hr _ hm).resolve_left (by rw[h,show du 16=false from rfl,cG];decide);have c2:az [58,32] (f t.Kids[k])=true:=bC (by simp only[aU,bf];omega);have c3:az (q++t.bm[k]) ([58,32]++f t.Kids[k])=true:=bC (by simp only[aR,aU,bf];omega);rw[dif_pos hkk];simp only[h,dy _ hkk,er,av,aw,dB hkk,c2,c3,al,da,dT,bo,ad];simp only[fQ]
  ·have hkk:k<t.Kids.length:=by rw[hlab (.inr h)];exact hk
   have hm:=cw hkk;have n16:((17:Int)==16)=false:=rfl;rw[dif_pos hkk];cases h1:(t.Kids[k].Kind==1)
   ·have hx:=dK List.length (t.Kids.map f) (f t.Kids[k]) (List.mem_map_of_mem hm);have er:rec t.Kids[k]=some (f t.Kids[k]):=(hr _ hm).resolve_left (by rw[h1,Bool.and_false];decide);have c2:az [40] (f t.Kids[k])=true:=bC (by simp only[aU,bf];omega);have c3:az ([40]++f t.Kids[k]) [41]=true:=bC (by simp only[aR,aU,bf];omega);have c4:az (q++t.bm[k]) (([40]++f t.Kids[k])++[41])=true:=bC (by simp only[aR,aU,bf];omega);simp only[h,n16,x7,h1,dy _ hkk,er,av,aw,dB hkk,c2,c3,c4,al,da,dT,bo,bw,bM,ln,cT,bA,ad,ak];simp only[fQ]
   ·simp only[h,n16,x7,h1,dy _ hkk,dB hkk,al,da,dT,bo,bw,bM,ln,cT,bA,Bool.and_false,ad,ak]
  ·have hkk:¬k<t.Kids.length:=by rw[Ux (.inl h)];omega
   have n16:((18:Int)==16)=false:=rfl;have n17:((18:Int)==17)=false:=rfl;have ft:(false==true)=false:=rfl;rw[dif_neg hkk];simp only[h,n16,n17,ft,cG,bw,dT,ln,al,ad,ak]
  ·have hkk:¬k<t.Kids.length:=by rw[Ux (.inr h)];omega
   have n16:((19:Int)==16)=false:=rfl;have n17:((19:Int)==17)=false:=rfl;have ft:(false==true)=false:=rfl;rw[dif_neg hkk];simp only[h,n16,n17,ft,cG,bw,dT,ln,al,ad,ak]) (fun n s=>by
  show M.qZ rec (n+1) s _ t=_
  rw[mX,M.qZ];simp)
 simp only[fA]at e;rw[aa.aB,e];have c1:az [32,123,32] (jn (labT t.Kind t.bm t.Kids (t.Kids.map f)))=true:=bC (by simp only[aU,bf];omega);have c2:az ([32,123,32]++jn (labT t.Kind t.bm t.Kids (t.Kids.map f))) [32,125]=true:=bC (by simp only[aR,aU,bf];omega);simp only[c1,c2,al,ad]
theorem ald:fO 14=[114,101,115,117,108,116]:=by decide
theorem ale{rec:aa->Option (List UInt8)}(f:aa->List UInt8)(t:aa)(x y:aa)(hxy:t.Kids=[x,y])(hb:(f x).length+(f y).length<=134217728)(hx:(x.Kind==1)=true\/rec x=some (f x))(hy:(y.Kind==1)=true\/rec y=some (f y)):M.Bc rec x y=some (fO 14++s8 t (t.Kids.map f)):=by
 unfold M.Bc s8;rw[hxy,ald];simp only[eN,List.map_nil,aU,bf,List.getD_cons_zero,List.getD_cons_succ,aa.aB,x7];have e2:((((0+1+1:Nat)):Int)==2)=true:=rfl;rw[e2];simp only[bM,ak];cases h1:(x.Kind==1)<;>cases h2:(y.Kind==1)
 ·have ex:=hx.resolve_left (by rw[h1];decide);have ey:=hy.resolve_left (by rw[h2];decide);have c1:az [44,32] (f y)=true:=bC (by simp only[aU,bf];omega);have c2:az (f x) ([44,32]++f y)=true:=bC (by simp only[aR,aU,bf];omega);have c3:az [114,101,115,117,108,116,60] (f x++([44,32]++f y))=true:=bC (by simp only[aR,aU,bf];omega);have c4:az ([114,101,115,117,108,116,60]++(f x++([44,32]++f y))) [62]=true:=bC (by simp only[aR,aU,bf];omega);simp only[ex,ey,bw,bM,al,ad,ak,av,aw,bo,dT,c1,c2,c3,c4];simp
 ·have ex:=hx.resolve_left (by rw[h1];decide);have c3:az [114,101,115,117,108,116,60] (f x)=true:=bC (by simp only[aR,aU,bf];omega);have c4:az ([114,101,115,117,108,116,60]++f x) [62]=true:=bC (by simp only[aR,aU,bf];omega);simp only[ex,bw,bM,al,Bool.and_false,cT,ad,ak,av,aw,bo,dT,ln,c3,c4];simp
 ·have ey:=hy.resolve_left (by rw[h2];decide);have c1:az [44,32] (f y)=true:=bC (by simp only[aU,bf];omega);have c2:az [95] ([44,32]++f y)=true:=bC (by simp only[aR,aU,bf];omega);have c3:az [114,101,115,117,108,116,60] ([95]++([44,32]++f y))=true:=bC (by simp only[aR,aU,bf];omega);have c4:az ([114,101,115,117,108,116,60]++([95]++([44,32]++f y))) [62]=true:=bC (by simp only[aR,aU,bf];omega);simp only[ey,bw,bM,al,Bool.and_false,cT,cG,ad,ak,av,aw,bo,dT,ln,c1,c2,c3,c4];simp
 ·simp
theorem Uy:∀(m n:Nat)(t:aa),n<m->t.sz<=1048576->0<=bX n t->M.mY m t=some (cL (n+1) t)
 |0,n,t,h,_,_=>by omega
 |m+1,0,t,h,_,h0=>absurd h0 (by show ¬(0:Int)<= -1;omega)
 |m+1,n+1,t,h,hs,h0=>by
  show M.FX (M.mY m) t=_
  have hS:=ak6 h0;have hz:=aa.cf t;have hrec:∀x∈t.Kids,0<=bX n x->M.mY m x=some (cL (n+1) x):=fun x hx h=>Uy m n x (by omega) (by have:=aa.AK hx;omega) h
  have hrk:∀x∈t.Kids,(du t.Kind&&(x.Kind==1))=true\/M.mY m x=some (cL (n+1) x):=fun x hx=>(hS.kid x hx).imp id (hrec x hx)
  have hk:=aa.FA hs;have hkl:=Un (n+1) t.Kids;have hkw:=Ni t.Kind;have hj:=kX (t.Kids.map (cL (n+1)));have hle:=df List.length t.bm;have hsk:=df aa.sz t.Kids;have hmk:(t.Kids.map (cL (n+1))).length=t.Kids.length:=fk _;have hl:=vp t.Kind t.bm t.Kids (t.Kids.map (cL (n+1)));have hll:=mX t.Kind t.bm t.Kids (t.Kids.map (cL (n+1)));have hj2:=kX (labT t.Kind t.bm t.Kids (t.Kids.map (cL (n+1))));rw[cL];unfold M.FX bodyT FO FP;cases h30:(t.Kind==30)
  ·have hK:1<=t.Kind/\t.Kind<=23:=hS.kin.resolve_right (fun e=>by rw[e]at h30;exact absurd h30 (by decide));obtain⟨w1,w2⟩:=kwS hK.1 hK.2;simp only[ak,FN,ak7,ak8,ak9,w1,w2,al,bo,bA,aa.aB];have c1:az (fO t.Kind) [60]=true:=bC (by simp only[aR,aU,bf];omega);have c2:az (fO t.Kind++[60]) t.Name=true:=bC (by simp only[aR,aU,bf];omega);have c3:az ((fO t.Kind++[60])++t.Name) [62]=true:=bC (by simp only[aR,aU,bf];omega);have c4:az (fO t.Kind++[60]) (jn (t.Kids.map (cL (n+1))))=true:=bC (by simp only[aR,aU,bf];omega);have c5:az ((fO t.Kind++[60])++jn (t.Kids.map (cL (n+1)))) [62]=true:=bC (by simp only[aR,aU,bf];omega);cases hW:((t.Kind==12)||((t.Kind==13)||((t.Kind==22)||((t.Kind==23)||(t.Kind==15)))))
   ·simp only[ak];cases u0:(t.Kind==14)
    ·simp only[ak];cases h20:((t.Kind==20)||(t.Kind==21))
     ·simp only[ak];cases hL:((t.Kind==16)||((t.Kind==17)||((t.Kind==18)||(t.Kind==19))))
      ·simp only[ak,ad]
      ·have hL':t.Kind=16\/t.Kind=17\/t.Kind=18\/t.Kind=19:=by simpa only[gi,cA]using hL
       have r:=alc (rec:=M.mY m) (cL (n+1)) t (by omega) (by omega) hS.lab hS.non hL' hrk;have c6:az (fO t.Kind) (([32,123,32]++jn (labT t.Kind t.bm t.Kids (t.Kids.map (cL (n+1)))))++[32,125])=true:=bC (by simp only[aR,aU,bf];omega);simp only[r,c6,ad,av,aw,al];simp only[fQ]
     ·simp only[c1,c2,c3,ad,al]
    ·have e14:t.Kind=14:=cA.1 u0;have h2:=hS.res e14;obtain⟨x,y,hxy⟩:∃x y,t.Kids=[x,y]:=by
      match hh:t.Kids,h2 with
      |[x,y],_=>exact⟨x,y,rfl⟩
     have h20:((t.Kind==20)||(t.Kind==21))=false:=by rw[e14];rfl
     have u:∀z∈t.Kids,(z.Kind==1)=true\/M.mY m z=some (cL (n+1) z):=fun z hz=>(hrk z hz).imp (fun q=>(Bool.and_eq_true_iff.1 q).2) id
     have hkl':=hkl;rw[hxy]at hkl';simp only[eN,List.map_nil,aT]at hkl';have hsz:=hz;rw[hxy]at hsz;simp only[aT]at hsz;have r:=ale (rec:=M.mY m) (cL (n+1)) t x y hxy (by omega) (u x (by rw[hxy];simp)) (u y (by rw[hxy];simp));have i0:inB (0:Int) t.Kids.length=true:=by rw[hxy];rfl
     have i1:inB (1:Int) t.Kids.length=true:=by rw[hxy];rfl
     have g0:List.getD t.Kids (Int.toNat 0) aa.zero=x:=by rw[hxy];rfl
     have g1:List.getD t.Kids (Int.toNat 1) aa.zero=y:=by rw[hxy];rfl
     simp only[g0,g1,i0,i1,r,h20,e14,ad,ak,av,aw,al];rfl
   ·have hW':t.Kind=12\/t.Kind=13\/t.Kind=22\/t.Kind=23\/t.Kind=15:=by simpa only[gi,cA]using hW
    have h20:((t.Kind==20)||(t.Kind==21))=false:=by rcases hW' with e|e|e|e|e<;>rw[e]<;>rfl
    have hun:du t.Kind=false:=by rcases hW' with e|e|e|e|e<;>rw[e]<;>rfl
    have r:=alb (rec:=M.mY m) (cL (n+1)) t.Kids hk (by omega) (fun x hx=>(hrk x hx).resolve_left (by rw[hun,cG];decide));simp only[h20,r,c1,c4,c5,ad,ak,av,aw,al]
  ·simp only[ad]
theorem Nr(t:aa)(hs:t.sz<=1048576)(h:0<=bX 4 t):M.x8 t=some (cL 5 t):=Uy ah 4 t (by have:=bq;omega) hs h
end M
namespace M
open Go.V (inB bV az ah bq)
def jh(u:aO):List UInt8:=bif !(u.As==[])then u.Name++([32,97,115,32]++u.As)else u.Name
def iJ(p:aA):List UInt8:=(p.Name++[58,32])++cL 5 p.Term
def po(x:af):List UInt8:=bif x.Async then(x.Name++[58,32])++[97,115,121,110,99,32]else x.Name++[58,32]
def vt(x:af):List UInt8:=po x++(([102,117,110,99,40]++jn (x.Params.map iJ))++[41])
def ky(pt:aQ->List UInt8)(x:af):List UInt8:=
 bif x.Kind==1 then[114,101,115,111,117,114,99,101,32]++x.Name
 else bif x.Kind==2 then(([116,121,112,101,32]++x.Name)++[32,61,32])++cL 5 x.Term
 else bif x.Kind==4 then((([117,115,101,32]++pt x.From)++[46,123])++jn (x.Uses.map jh))++[125]
 else bif x.Term.Kind !=1 then vt x++([32,45,62,32]++cL 5 x.Term)else vt x
theorem alf(u:aO):(jh u).length<=u.sz+4:=by
 have:=aO.cf u;unfold jh;cases (u.As==[])<;>simp<;>omega
theorem Bd:∀l:List aO,aT List.length (l.map jh)<=20*aT aO.sz l
 |[]=>by simp[aT]
 |u::r=>by have:=alf u;have:=Bd r;simp only[eN,aT];omega
theorem alg(p:aA):(iJ p).length<=16*p.sz+16:=by
 have:=aA.cf p;have:=s9 5 p.Term;unfold iJ;simp only[aR,aU,bf];omega
theorem Be:∀l:List aA,aT List.length (l.map iJ)<=20*aT aA.sz l
 |[]=>by simp[aT]
 |u::r=>by have:=alg u;have:=Be r;simp only[eN,aT];omega
theorem Ns(x:af):(po x).length<=x.Name.length+8:=by
 unfold po;cases x.Async<;>simp
theorem mZ(p:aQ):(dh p).length<=p.sz+2:=by
 have:=aQ.cf p;unfold dh;cases (p.aJ==[])<;>cases (p.Version==[])<;>simp<;>omega
theorem pq(p:aQ):(eG p).length<=p.sz+2:=by
 have:=aQ.cf p;unfold eG;cases (p.aJ==[])<;>cases (p.Version==[])<;>simp<;>omega
theorem Nu(pt:aQ->List UInt8)(hp:∀p,(pt p).length<=p.sz+2)(x:af):(ky pt x).length<=40*x.sz+40:=by
 have hz:=af.cf x;have h1:=s9 5 x.Term;have h2:=Bd x.Uses;have h3:=Be x.Params;have h4:=Ns x;have h5:=hp x.From;have j1:=kX (x.Uses.map jh);have j2:=kX (x.Params.map iJ);have l1:=df List.length (x.Uses.map jh);have l2:=df List.length (x.Params.map iJ);unfold ky vt;cases (x.Kind==1)<;>cases (x.Kind==2)<;>cases (x.Kind==4)<;>cases (x.Term.Kind !=1)<;>simp only[ad,ak,aR,aU,bf]<;>omega
theorem alh(x:af)(h:x.sz<=1048576):M.pv x.Uses ((x.Uses.length:Nat):Int) ah 0 x []=some (x,x.Uses.map jh):=by
 have hz:=af.cf x;have hl:=df aO.sz x.Uses;have e:=Nj (F:=fun n i o=>M.pv x.Uses ((x.Uses.length:Nat):Int) n i x o) (h:=fun o=>some (x,o)) jh x.Uses (by omega) [] (fun n k out hk ho=>by
  show M.pv x.Uses ((x.Uses.length:Nat):Int) (n+1) (k:Int) x out=_
  rw[M.pv];have hm:=dK aO.sz x.Uses x.Uses[k] (cw hk);have hu:=aO.cf x.Uses[k];have hc:∀y:List UInt8,decide (out.length+[y].length<=1073741824)=true:=fun y=>FM (by simp at ho⊢;omega)
  have c1:az [32,97,115,32] x.Uses[k].As=true:=bC (by simp only[aU,bf];omega);have c2:az x.Uses[k].Name ([32,97,115,32]++x.Uses[k].As)=true:=bC (by simp only[aR,aU,bf];omega);simp only[eK hk,bP,dy _ hk,ad,dB hk,hc,c1,c2,al,bo,af.aB,bS hk (by omega:x.Uses.length<2^62)];rfl) (fun n out=>by
  show M.pv x.Uses ((x.Uses.length:Nat):Int) (n+1) _ x out=_
  rw[M.pv];simp only[Int.lt_irrefl,lp,ak,af.aB])
 simpa using e
theorem ali(text:List UInt8)(x:af)(h:x.sz<=1048576):M.pw text x.Params ((x.Params.length:Nat):Int) ah 0 x []=some (text,x,x.Params.map iJ):=by
 have hz:=af.cf x;have hl:=df aA.sz x.Params;have e:=Nj (F:=fun n i o=>M.pw text x.Params ((x.Params.length:Nat):Int) n i x o) (h:=fun o=>some (text,x,o)) iJ x.Params (by omega) [] (fun n k out hk ho=>by
  show M.pw text x.Params ((x.Params.length:Nat):Int) (n+1) (k:Int) x out=_
  rw[M.pw];have hm:=dK aA.sz x.Params x.Params[k] (cw hk);have hu:=aA.cf x.Params[k];have ht:=s9 5 x.Params[k].Term;have hc:∀y:List UInt8,decide (out.length+[y].length<=1073741824)=true:=fun y=>FM (by simp at ho⊢;omega)
  have c1:az x.Params[k].Name [58,32]=true:=bC (by simp only[aU,bf];omega);have c2:az (x.Params[k].Name++[58,32]) (cL 5 x.Params[k].Term)=true:=bC (by simp only[aR,aU,bf];omega);have et:M.tc x.Params[k].Term 5=some (cL 5 x.Params[k].Term):=Us _ (by omega);simp only[eK hk,bP,dy _ hk,ad,aa.aB,et,av,aw,dB hk,hc,c1,c2,al,af.aB,bS hk (by omega:x.Params.length<2^62)];rfl) (fun n out=>by
  show M.pw text x.Params ((x.Params.length:Nat):Int) (n+1) _ x out=_
  rw[M.pw];simp only[Int.lt_irrefl,lp,ak,af.aB])
 simpa using e
theorem alj(x:af)(h:x.sz<=1048576):M.Bf x=some (ky dh x):=by
 have hz:=af.cf x;have h1:=s9 5 x.Term;have h2:=Bd x.Uses;have h3:=Be x.Params;have h4:=Ns x;have h5:=mZ x.From;have j1:=kX (x.Uses.map jh);have j2:=kX (x.Params.map iJ);have l1:=df List.length (x.Uses.map jh);have l2:=df List.length (x.Params.map iJ);have et:M.tc x.Term 5=some (cL 5 x.Term):=Us _ (by omega);have ep:M.pj x.From=some (dh x.From):=Na _ (by omega);have ej1:=FK (x.Uses.map jh) (by omega);have ej2:=FK (x.Params.map iJ) (by omega);have ex:af.re x=x:=af.aB x;unfold M.Bf ky;cases hK1:(x.Kind==1)
 ·cases hK2:(x.Kind==2)
  ·cases hK4:(x.Kind==4)
   ·have c1:az x.Name [58,32]=true:=bC (by simp only[aR,aU,bf];omega);have c2:az (x.Name++[58,32]) [97,115,121,110,99,32]=true:=bC (by simp only[aR,aU,bf];omega);have c3:az [102,117,110,99,40] (jn (x.Params.map iJ))=true:=bC (by simp only[aR,aU,bf];omega);have c4:az ([102,117,110,99,40]++jn (x.Params.map iJ)) [41]=true:=bC (by simp only[aR,aU,bf];omega);have c5:az (po x) (([102,117,110,99,40]++jn (x.Params.map iJ))++[41])=true:=bC (by simp only[aR,aU,bf];omega);have c6:az [32,45,62,32] (cL 5 x.Term)=true:=bC (by simp only[aR,aU,bf];omega);have c7:az (vt x) ([32,45,62,32]++cL 5 x.Term)=true:=bC (by unfold vt;simp only[aR,aU,bf];omega);simp only[ak,ex,ali _ x h,aa.aB,et,ej2,av,aw];rw[show(bif x.Async then(x.Name++[58,32])++[97,115,121,110,99,32]else x.Name++[58,32])=po x from rfl];rw[show po x++(([102,117,110,99,40]++jn (x.Params.map iJ))++[41])=vt x from rfl];simp only[c1,c2,c3,c4,c5,c6,c7,al,bo,ad]
   ·have c1:az [117,115,101,32] (dh x.From)=true:=bC (by simp only[aR,aU,bf];omega);have c2:az ([117,115,101,32]++dh x.From) [46,123]=true:=bC (by simp only[aR,aU,bf];omega);have c3:az (([117,115,101,32]++dh x.From)++[46,123]) (jn (x.Uses.map jh))=true:=bC (by simp only[aR,aU,bf];omega);have c4:az ((([117,115,101,32]++dh x.From)++[46,123])++jn (x.Uses.map jh)) [125]=true:=bC (by simp only[aR,aU,bf];omega);simp only[ak,ad,ex,alh x h,ep,ej1,av,aw,c1,c2,c3,c4,al]
  ·have c1:az [116,121,112,101,32] x.Name=true:=bC (by simp only[aR,aU,bf];omega);have c2:az ([116,121,112,101,32]++x.Name) [32,61,32]=true:=bC (by simp only[aR,aU,bf];omega);have c3:az (([116,121,112,101,32]++x.Name)++[32,61,32]) (cL 5 x.Term)=true:=bC (by simp only[aR,aU,bf];omega);simp only[ak,ad,aa.aB,et,av,aw,c1,c2,c3,al]
 ·have c1:az [114,101,115,111,117,114,99,101,32] x.Name=true:=bC (by simp only[aR,aU,bf];omega);simp only[ad,c1,al]
def mf(x:af):Bool:= !((decide ((6:Int)<((x.Params.length:Nat):Int))||decide ((16:Int)<((x.Uses.length:Nat):Int)))||(decide (bX 4 x.Term<0)&&((x.Kind==2)||(x.Kind==3))))&&((x.Params.all fun p=> !decide (bX 4 p.Term<0))&&(decide (1<=x.Kind)&&decide (x.Kind<=4)))
theorem Uz(x:af)(hl:x.Params.length<=6):∀(f k:Nat),x.Params.length-k<f->k<=x.Params.length->M.x9 f (k:Int) x=some (bif((x.Params.drop k).all fun p=> !decide (bX 4 p.Term<0))then .inr x else .inl false)
 |0,k,h,_=>by omega
 |f+1,k,h,hk=>by
  rw[M.x9];have ex:af.re x=x:=af.aB x;rcases cN k x.Params.length with q|q
  ·have ih:=Uz x hl f (k+1) (by omega) (by omega);rw[jf q,mo];simp only[eK q,bP,dy _ q,aa.aB,Uw,av,aw,ad,dB q,al,bS q (by omega:x.Params.length<2^62),ex,ih];cases decide (bX 4 x.Params[k].Term<0)<;>rfl
  ·simp only[iR q,ak,ex];rw[List.drop_eq_nil_of_le q];rfl
theorem aln(x:af):M.Bg x=some (mf x):=by
 unfold M.Bg mf;have ex:af.re x=x:=af.aB x;simp only[aa.aB,Uw,av,aw,bo,al,ad];cases hc:((decide ((6:Int)<((x.Params.length:Nat):Int))||decide ((16:Int)<((x.Uses.length:Nat):Int)))||(decide (bX 4 x.Term<0)&&((x.Kind==2)||(x.Kind==3))))
 ·have hl:x.Params.length<=6:=by
   simp only[kD,eV]at hc;omega
  have e:=Uz x hl ah 0 (by have:=bq;omega) (by omega);rw[show((0:Nat):Int)=0 from rfl,gX]at e;simp only[ak,ex,e,bw,bA];cases (x.Params.all fun p=> !decide (bX 4 p.Term<0))<;>rfl
 ·rfl
theorem alo(x:af)(s0:List UInt8)(h:x.sz<=1048576)(h0:s0.length<=100000000):M.px ah s0 0 x=some (s0++jn (x.Uses.map jh)):=by
 have hz:=af.cf x;have hl:=df aO.sz x.Uses;have h2:=Bd x.Uses;exact FR (F:=fun n s i=>M.px n s i x) (h:=some) (x.Uses.map jh) (by rw[fk];omega) s0 (fun n k s hk hs=>by
  rw[fk]at hk
  show M.px (n+1) s (k:Int) x=_
  rw[M.px];have hm:=dK aO.sz x.Uses x.Uses[k] (cw hk);have hu:=aO.cf x.Uses[k];have hc:=FV k s;have ex:af.re x=x:=af.aB x;have c0:=FW k (s:=s) (by omega);have c1:az (bif decide ((0:Int)<(k:Int))then s++[44,32]else s) x.Uses[k].Name=true:=bC (by omega);have c2:az [32,97,115,32] x.Uses[k].As=true:=bC (by simp only[aU,bf];omega);have c3:az ((bif decide ((0:Int)<(k:Int))then s++[44,32]else s)++x.Uses[k].Name) ([32,97,115,32]++x.Uses[k].As)=true:=bC (by simp only[aR,aU,bf];omega);simp only[eK hk,bP,dy _ hk,ad,dB hk,c0,c1,c2,c3,al,bo,bS hk (by omega:x.Uses.length<2^62),ex,DJ];unfold jh;cases (x.Uses[k].As==[])<;>simp only[bw,bM,ad,ak,fQ]) (fun n s=>by
  show M.px (n+1) s _ x=_
  rw[fk,M.px];simp only[Int.lt_irrefl,lp,ak])
theorem alp(x:af)(s0:List UInt8)(h:x.sz<=1048576)(h0:s0.length<=100000000)(hp:∀p∈x.Params,0<=bX 4 p.Term):M.py ah s0 0 x=some (s0++jn (x.Params.map iJ),x):=by
 have hz:=af.cf x;have hl:=df aA.sz x.Params;have h2:=Be x.Params;exact FR (F:=fun n s i=>M.py n s i x) (h:=fun s=>some (s,x)) (x.Params.map iJ) (by rw[fk];omega) s0 (fun n k s hk hs=>by
  rw[fk]at hk
  show M.py (n+1) s (k:Int) x=_
  rw[M.py];have hm:=dK aA.sz x.Params x.Params[k] (cw hk);have hu:=aA.cf x.Params[k];have ht:=s9 5 x.Params[k].Term;have hc:=FV k s;have ex:af.re x=x:=af.aB x;have et:=Nr x.Params[k].Term (by omega) (hp _ (cw hk));have c0:=FW k (s:=s) (by omega);have c1:az x.Params[k].Name [58,32]=true:=bC (by simp only[aU,bf];omega);have c2:az (x.Params[k].Name++[58,32]) (cL 5 x.Params[k].Term)=true:=bC (by simp only[aR,aU,bf];omega);have c3:az (bif decide ((0:Int)<(k:Int))then s++[44,32]else s) ((x.Params[k].Name++[58,32])++cL 5 x.Params[k].Term)=true:=bC (by simp only[aR,aU,bf];omega);simp only[eK hk,bP,dy _ hk,ad,aa.aB,et,av,aw,dB hk,c0,c1,c2,c3,al,bo,bS hk (by omega:x.Params.length<2^62),ex,DJ];rfl) (fun n s=>by
  show M.py (n+1) s _ x=_
  rw[fk,M.py];simp only[Int.lt_irrefl,lp,ak,af.aB])
theorem alq(x:af)(h:x.sz<=1048576)(hS:mf x=true):M.Bh x=some (ky eG x):=by
 have hz:=af.cf x;have h1:=s9 5 x.Term;have h2:=Bd x.Uses;have h3:=Be x.Params;have h4:=Ns x;have h5:=pq x.From;have j1:=kX (x.Uses.map jh);have j2:=kX (x.Params.map iJ);have l1:=df List.length (x.Uses.map jh);have l2:=df List.length (x.Params.map iJ);have ep:M.pn x.From=some (eG x.From):=Nb _ (by omega);unfold mf at hS;simp only[bB,fK,kD,Bool.and_eq_false_iff,eV,bU,fj,fK,eV]at hS;obtain⟨⟨⟨hs1,hs2⟩,hs3⟩,hs4,hs5,hs6⟩:=hS;have hp:∀p∈x.Params,0<=bX 4 p.Term:=fun p hp=>by have:=hs4 p hp;omega
 have ex:af.re x=x:=af.aB x;unfold M.Bh ky;cases hK1:(x.Kind==1)
 ·cases hK2:(x.Kind==2)
  ·cases hK4:(x.Kind==4)
   ·have hK3:(x.Kind==3)=true:=by
     rw[cM]at hK1 hK2 hK4;rw[cA];omega
    have ht:0<=bX 4 x.Term:=by
     rcases hs3 with q|⟨_,q⟩
     ·omega
     ·rw[hK3]at q;cases q
    have et:=Nr x.Term (by omega) ht;have c1:az x.Name [58,32]=true:=bC (by simp only[aR,aU,bf];omega);have c2:az (x.Name++[58,32]) [97,115,121,110,99,32]=true:=bC (by simp only[aR,aU,bf];omega);have c3:az (po x) [102,117,110,99,40]=true:=bC (by simp only[aR,aU,bf];omega);have c4:az ((po x++[102,117,110,99,40])++jn (x.Params.map iJ)) [41]=true:=bC (by simp only[aR,aU,bf];omega);have c6:az [32,45,62,32] (cL 5 x.Term)=true:=bC (by simp only[aR,aU,bf];omega);have c7:az (((po x++[102,117,110,99,40])++jn (x.Params.map iJ))++[41]) ([32,45,62,32]++cL 5 x.Term)=true:=bC (by simp only[aR,aU,bf];omega);simp only[ak,ex];rw[show(bif x.Async then(x.Name++[58,32])++[97,115,121,110,99,32]else x.Name++[58,32])=po x from rfl];rw[alp x _ h (by simp only[aR,aU,bf];omega) hp];simp only[aa.aB,et,av,aw,c1,c2,c3,c4,c6,c7,al,bo,ad];unfold vt;cases (x.Term.Kind !=1)<;>simp only[ad,ak,fQ]
   ·have c1:az [117,115,101,32] (eG x.From)=true:=bC (by simp only[aR,aU,bf];omega);have c2:az ([117,115,101,32]++eG x.From) [46,123]=true:=bC (by simp only[aR,aU,bf];omega);have c4:az ((([117,115,101,32]++eG x.From)++[46,123])++jn (x.Uses.map jh)) [125]=true:=bC (by simp only[aR,aU,bf];omega);have e:=alo x (([117,115,101,32]++eG x.From)++[46,123]) h (by simp only[aR,aU,bf];omega);simp only[ak,ad,ex,ep,av,aw,e,c1,c2,c4,al]
  ·have ht:0<=bX 4 x.Term:=by
    rcases hs3 with q|⟨q,_⟩
    ·omega
    ·rw[hK2]at q;cases q
   have et:=Nr x.Term (by omega) ht;have c1:az [116,121,112,101,32] x.Name=true:=bC (by simp only[aR,aU,bf];omega);have c2:az ([116,121,112,101,32]++x.Name) [32,61,32]=true:=bC (by simp only[aR,aU,bf];omega);have c3:az (([116,121,112,101,32]++x.Name)++[32,61,32]) (cL 5 x.Term)=true:=bC (by simp only[aR,aU,bf];omega);simp only[ak,ad,aa.aB,et,av,aw,c1,c2,c3,al]
 ·have c1:az [114,101,115,111,117,114,99,101,32] x.Name=true:=bC (by simp only[aR,aU,bf];omega);simp only[ad,c1,al]
def nS(p:aQ):Prop:=p.aJ=[]->p.Version=[]
theorem alr(x:af)(h:nS x.From):ky eG x=ky dh x:=by
 unfold ky;rw[Nc x.From h]
end M
namespace M
open Go.V (inB bV az ah bq)
theorem nU{α:Type}(g:α->List UInt8):∀l:List α,((l.map g).flatten).length<=aT (fun x=>(g x).length) l
 |[]=>by simp[aT]
 |x::r=>by have:=nU g r;simp only[eN,List.flatten_cons,aR,aT];omega
theorem td{α Y:Type}{F:Nat->Int->List UInt8->Option Y}{h:List UInt8->Option Y}(g:α->List UInt8)(l:List α)(hn:l.length<=2097152)(s0:List UInt8)
 (step:∀f k s,∀hk:k<l.length,s.length<=s0.length+aT (fun x=>(g x).length) l->F (f+1) (k:Int) s=F f ((k+1:Nat):Int) (s++g l[k]))
 (stop:∀f s,F (f+1) (l.length:Int) s=h s):F ah 0 s0=h (s0++(l.map g).flatten):=by
 have key:∀f k,k<=l.length->l.length-k<f->F f (k:Int) (s0++((l.take k).map g).flatten)=h (s0++(l.map g).flatten):=by
  intro f
  induction f with
  |zero=>intro k h1 h2;omega
  |succ f ih=>
   intro k h1 h2;rcases cN k l.length with hk|hk
   ·have hj:=nU g (l.take k);have ht:=Nk (fun x=>(g x).length) l k;rw[step f k _ hk (by rw[aR];omega)];have e:(s0++((l.take k).map g).flatten)++g l[k]=s0++((l.take (k+1)).map g).flatten:=by
     rw[DG,cF hk,Option.toList_some,yW,List.flatten_append,fQ];simp
    rw[e];exact ih (k+1) (by omega) (by omega)
   ·have:k=l.length:=by omega
    subst this;rw[stop,DI]
 have:=key ah 0 (dL _) (by have:=bq;omega);simpa using this
theorem vu(s o:List UInt8)(h:o.length+s.length<=1073741824):M.nV s o=some (((s.length:Nat):Int),o++s):=by
 unfold M.nV;rw[List.map_id'];simp only[FM h,al,ad]
def kZ(pt:aQ->List UInt8)(x:af):List UInt8:=([32,32]++ky pt x)++[59,10]
def jD(pt:aQ->List UInt8)(f:aD):List UInt8:=((([10,105,110,116,101,114,102,97,99,101,32]++f.Name)++[32,123,10])++(f.Items.map (kZ pt)).flatten)++[125,10]
def iS:List (List UInt8):=[[105,109,112,111,114,116],[101,120,112,111,114,116],[105,110,99,108,117,100,101]]
def kz(K:Int):List UInt8:=bif decide (1<=K)&&decide (K<=3)then List.getD ([]::iS) K.toNat []else[]
def k9(pt:aQ->List UInt8)(x:aG):List UInt8:=((([32,32]++kz x.Kind)++[32])++pt x.Path)++[59,10]
def worldT(pt:aQ->List UInt8)(w:aM):List UInt8:=((([10,119,111,114,108,100,32]++w.Name)++[32,123,10])++(w.Items.map (k9 pt)).flatten)++[125,10]
def firstT(x:ai):List UInt8:=((([112,97,99,107,97,103,101,32]++x.Name)++[64])++x.Version)++[59,10]
def iT(pt:aQ->List UInt8)(x:ai):List UInt8:=(firstT x++(x.aF.map (jD pt)).flatten)++(x.Worlds.map (worldT pt)).flatten
theorem Nv(K:Int):(kz K).length<=7:=by
 unfold kz;have h:∀w∈([]::iS),w.length<=7:=by
  have:((([]:List UInt8)::iS).all fun w=>decide (w.length<=7))=true:=by decide
  intro w hw;simpa using fj.1 this w hw
 cases decide (1<=K)&&decide (K<=3)
 ·simp
 ·rw[ad];rcases cN K.toNat (List.length ([]::iS))with hk|hk
  ·rw[getD_lt hk];exact h _ (cw hk)
  ·rw[gd,jS hk];simp
theorem als{pt:aQ->List UInt8}(hp:∀p,(pt p).length<=p.sz+2)(x:af):(kZ pt x).length<=40*x.sz+44:=by
 have:=Nu pt hp x;unfold kZ;simp only[aR,aU,bf];omega
theorem ya{pt:aQ->List UInt8}(hp:∀p,(pt p).length<=p.sz+2):∀l:List af,aT (fun x=>(kZ pt x).length) l<=48*aT af.sz l
 |[]=>by simp[aT]
 |x::r=>by have:=als hp x;have:=ya hp r;simp only[aT];omega
theorem alu{pt:aQ->List UInt8}(hp:∀p,(pt p).length<=p.sz+2)(f:aD):(jD pt f).length<=48*f.sz+16:=by
 have h1:=aD.cf f;have h2:=nU (kZ pt) f.Items;have h3:=ya hp f.Items;unfold jD;simp only[aR,aU,bf];omega
theorem Bi{pt:aQ->List UInt8}(hp:∀p,(pt p).length<=p.sz+2):∀l:List aD,aT (fun x=>(jD pt x).length) l<=48*aT aD.sz l
 |[]=>by simp[aT]
 |x::r=>by have:=alu hp x;have:=Bi hp r;simp only[aT];omega
theorem UA{pt:aQ->List UInt8}(hp:∀p,(pt p).length<=p.sz+2)(x:aG):(k9 pt x).length<=x.sz+14:=by
 have h1:=aG.cf x;have h2:=Nv x.Kind;have h3:=hp x.Path;unfold k9;simp only[aR,aU,bf];omega
theorem yb{pt:aQ->List UInt8}(hp:∀p,(pt p).length<=p.sz+2):∀l:List aG,aT (fun x=>(k9 pt x).length) l<=48*aT aG.sz l
 |[]=>by simp[aT]
 |x::r=>by have:=UA hp x;have:=yb hp r;simp only[aT];omega
theorem alv{pt:aQ->List UInt8}(hp:∀p,(pt p).length<=p.sz+2)(f:aM):(worldT pt f).length<=48*f.sz+16:=by
 have h1:=aM.cf f;have h2:=nU (k9 pt) f.Items;have h3:=yb hp f.Items;unfold worldT;simp only[aR,aU,bf];omega
theorem FY{pt:aQ->List UInt8}(hp:∀p,(pt p).length<=p.sz+2):∀l:List aM,aT (fun x=>(worldT pt x).length) l<=48*aT aM.sz l
 |[]=>by simp[aT]
 |x::r=>by have:=alv hp x;have:=FY hp r;simp only[aT];omega
theorem alx(a:List aD)(b c:Int)(x:ai)(l:List af)(h:aT af.sz l<=1048576)(o:List UInt8)(ho:o.length<=300000000):M.pz a b c l ((l.length:Nat):Int) x ah 0 o=some (a,b,c,x,o++(l.map (kZ dh)).flatten):=by
 have hl:=df af.sz l;have hs:=ya mZ l;exact td (F:=fun n i s=>M.pz a b c l ((l.length:Nat):Int) x n i s) (h:=fun s=>some (a,b,c,x,s)) (kZ dh) l (by omega) o (fun n k s hk hs'=>by
  show M.pz a b c l ((l.length:Nat):Int) x (n+1) (k:Int) s=_
  rw[M.pz];have hm:=dK af.sz l l[k] (cw hk);have hi:=Nu dh mZ l[k];have ex:∀y:af,af.re y=y:=af.aB;have et:=alj l[k] (by omega);have c1:az [32,32] (ky dh l[k])=true:=bC (by simp only[aU,bf];omega);have c2:az ([32,32]++ky dh l[k]) [59,10]=true:=bC (by simp only[aR,aU,bf];omega);have ew:=vu (([32,32]++ky dh l[k])++[59,10]) s (by simp only[aR,aU,bf];omega);simp only[eK hk,bP,dy _ hk,ad,ex,et,av,aw,dB hk,c1,c2,ew,al,bS hk (by omega:l.length<2^62)];rfl) (fun n s=>by
  show M.pz a b c l ((l.length:Nat):Int) x (n+1) _ s=_
  rw[M.pz];simp only[Int.lt_irrefl,lp,ak])
theorem aly(x:ai)(l:List aD)(h:aT aD.sz l<=1048576)(o:List UInt8)(ho:o.length<=100000000):M.pA ah l ((l.length:Nat):Int) 0 x o=some (x,o++(l.map (jD dh)).flatten):=by
 have hl:=df aD.sz l;have hs:=Bi mZ l;exact td (F:=fun n i s=>M.pA n l ((l.length:Nat):Int) i x s) (h:=fun s=>some (x,s)) (jD dh) l (by omega) o (fun n k s hk hs'=>by
  show M.pA (n+1) l ((l.length:Nat):Int) (k:Int) x s=_
  rw[M.pA];have hm:=dK aD.sz l l[k] (cw hk);have hz:=aD.cf l[k];have hi:=nU (kZ dh) l[k].Items;have hi2:=ya mZ l[k].Items;have c1:az [10,105,110,116,101,114,102,97,99,101,32] l[k].Name=true:=bC (by simp only[aU,bf];omega);have c2:az ([10,105,110,116,101,114,102,97,99,101,32]++l[k].Name) [32,123,10]=true:=bC (by simp only[aR,aU,bf];omega);have w1:=vu (([10,105,110,116,101,114,102,97,99,101,32]++l[k].Name)++[32,123,10]) s (by simp only[aR,aU,bf];omega);have ei:=alx l ((l.length:Nat):Int) (k:Int) x l[k].Items (by omega) (s++(([10,105,110,116,101,114,102,97,99,101,32]++l[k].Name)++[32,123,10])) (by simp only[aR,aU,bf];omega);have w2:=vu [125,10] ((s++(([10,105,110,116,101,114,102,97,99,101,32]++l[k].Name)++[32,123,10]))++(l[k].Items.map (kZ dh)).flatten) (by simp only[aR,aU,bf];omega);simp only[eK hk,bP,dy _ hk,ad,av,aw,dB hk,c1,c2,w1,w2,ei,al,bS hk (by omega:l.length<2^62)];unfold jD;simp only[fQ]) (fun n s=>by
  show M.pA (n+1) l ((l.length:Nat):Int) _ x s=_
  rw[M.pA];simp only[Int.lt_irrefl,lp,ak])
theorem alz(a:List aM)(b c:Int)(l:List aG)(h:aT aG.sz l<=1048576)(o:List UInt8)(ho:o.length<=300000000):M.pB a b c l ((l.length:Nat):Int) ([]::iS) ah 0 o=some (a,b,c,[]::iS,o++(l.map (k9 dh)).flatten):=by
 have hl:=df aG.sz l;have hs:=yb mZ l;exact td (F:=fun n i s=>M.pB a b c l ((l.length:Nat):Int) ([]::iS) n i s) (h:=fun s=>some (a,b,c,[]::iS,s)) (k9 dh) l (by omega) o (fun n k s hk hs'=>by
  show M.pB a b c l ((l.length:Nat):Int) ([]::iS) (n+1) (k:Int) s=_
  rw[M.pB];have hm:=dK aG.sz l l[k] (cw hk);have hz:=aG.cf l[k];have hi:=UA mZ l[k];have hpl:=mZ l[k].Path;have hww:=Nv l[k].Kind;have et:=Na l[k].Path (by omega);have c0:az [32,32] (kz l[k].Kind)=true:=bC (by simp only[aU,bf];omega);have c1:az ([32,32]++kz l[k].Kind) [32]=true:=bC (by simp only[aR,aU,bf];omega);have c2:az (([32,32]++kz l[k].Kind)++[32]) (dh l[k].Path)=true:=bC (by simp only[aR,aU,bf];omega);have c3:az ((([32,32]++kz l[k].Kind)++[32])++dh l[k].Path) [59,10]=true:=bC (by simp only[aR,aU,bf];omega);have ew:=vu (((([32,32]++kz l[k].Kind)++[32])++dh l[k].Path)++[59,10]) s (by simp only[aR,aU,bf];omega);have hw:(bif decide (1<=l[k].Kind)&&decide (l[k].Kind<=3)then List.getD ([]::iS) (Int.toNat l[k].Kind) []else[])=kz l[k].Kind:=rfl;have hib:((inB l[k].Kind (List.length ([]::iS))&&true)|| !(decide (1<=l[k].Kind)&&decide (l[k].Kind<=3)))=true:=by
   cases hq:(decide (1<=l[k].Kind)&&decide (l[k].Kind<=3))
   ·simp
   ·simp only[bB,bU]at hq;obtain⟨j,hj⟩:=DC (show 0<=l[k].Kind by omega);rw[hj,dA,show List.length (([]:List UInt8)::iS)=4 from rfl,db (show j<4 by omega)];rfl
  simp only[eK hk,bP,dy _ hk,ad,et,av,aw,dB hk,hw,al,bo];simp only[c0,c1,c2,c3,ew,hib,av,aw,al,ad,bS hk (by omega:l.length<2^62)];rfl) (fun n s=>by
  show M.pB a b c l ((l.length:Nat):Int) ([]::iS) (n+1) _ s=_
  rw[M.pB];simp only[Int.lt_irrefl,lp,ak])
theorem alB(l:List aM)(h:aT aM.sz l<=1048576)(o:List UInt8)(ho:o.length<=200000000):M.pC ah l ((l.length:Nat):Int) 0 ([]::iS) o=some (o++(l.map (worldT dh)).flatten):=by
 have hl:=df aM.sz l;have hs:=FY mZ l;exact td (F:=fun n i s=>M.pC n l ((l.length:Nat):Int) i ([]::iS) s) (h:=fun s=>some s) (worldT dh) l (by omega) o (fun n k s hk hs'=>by
  show M.pC (n+1) l ((l.length:Nat):Int) (k:Int) ([]::iS) s=_
  rw[M.pC];have hm:=dK aM.sz l l[k] (cw hk);have hz:=aM.cf l[k];have hi:=nU (k9 dh) l[k].Items;have hi2:=yb mZ l[k].Items;have c1:az [10,119,111,114,108,100,32] l[k].Name=true:=bC (by simp only[aU,bf];omega);have c2:az ([10,119,111,114,108,100,32]++l[k].Name) [32,123,10]=true:=bC (by simp only[aR,aU,bf];omega);have w1:=vu (([10,119,111,114,108,100,32]++l[k].Name)++[32,123,10]) s (by simp only[aR,aU,bf];omega);have ei:=alz l ((l.length:Nat):Int) (k:Int) l[k].Items (by omega) (s++(([10,119,111,114,108,100,32]++l[k].Name)++[32,123,10])) (by simp only[aR,aU,bf];omega);have w2:=vu [125,10] ((s++(([10,119,111,114,108,100,32]++l[k].Name)++[32,123,10]))++(l[k].Items.map (k9 dh)).flatten) (by simp only[aR,aU,bf];omega);simp only[eK hk,bP,dy _ hk,ad,av,aw,dB hk,c1,c2,w1,w2,ei,al,bS hk (by omega:l.length<2^62)];unfold worldT;simp only[fQ]) (fun n s=>by
  show M.pC (n+1) l ((l.length:Nat):Int) _ ([]::iS) s=_
  rw[M.pC];simp only[Int.lt_irrefl,lp,ak])
theorem alC(x:ai)(h:x.sz<=1048576):M.sZ x=some (iT dh x):=by
 have hz:=ai.cf x;have f1:=nU (jD dh) x.aF;have f2:=Bi mZ x.aF;have f3:=nU (worldT dh) x.Worlds;have f4:=FY mZ x.Worlds;have c1:az [112,97,99,107,97,103,101,32] x.Name=true:=bC (by simp only[aR,aU,bf];omega);have c2:az ([112,97,99,107,97,103,101,32]++x.Name) [64]=true:=bC (by simp only[aR,aU,bf];omega);have c3:az (([112,97,99,107,97,103,101,32]++x.Name)++[64]) x.Version=true:=bC (by simp only[aR,aU,bf];omega);have c4:az ((([112,97,99,107,97,103,101,32]++x.Name)++[64])++x.Version) [59,10]=true:=bC (by simp only[aR,aU,bf];omega);have e0:((([112,97,99,107,97,103,101,32]++x.Name)++[64])++x.Version)++[59,10]=firstT x:=rfl;have fl:(firstT x).length<=1048700:=by unfold firstT;simp only[aR,aU,bf];omega
 have w:=vu (firstT x) [] (by simp only[bf];omega);have e1:=aly x x.aF (by omega) (firstT x) (by omega);have e2:=alB x.Worlds (by omega) (firstT x++(x.aF.map (jD dh)).flatten) (by simp only[aR];omega);have e3:M.sj (iT dh x)=some (iT dh x):=by
  unfold M.sj;have:(iT dh x).length<=1073741824:=by unfold iT;simp only[aR];omega
  rw[db this];rfl
 unfold M.sZ;simp only[e0,w,fA,av,aw,e1];rw[show([[],[(105:UInt8),(109:UInt8),(112:UInt8),(111:UInt8),(114:UInt8),(116:UInt8)],[(101:UInt8),(120:UInt8),(112:UInt8),(111:UInt8),(114:UInt8),(116:UInt8)],[(105:UInt8),(110:UInt8),(99:UInt8),(108:UInt8),(117:UInt8),(100:UInt8),(101:UInt8)]]:List (List UInt8))=[]::iS from rfl,e2];simp only[];rw[show(firstT x++(x.aF.map (jD dh)).flatten)++(x.Worlds.map (worldT dh)).flatten=iT dh x from rfl,e3];simp only[c1,c2,c3,c4,av,aw,al,ad]
end M
namespace M
open Go.V (inB bV az ah bq)
def lQ(f:aD):Bool:= !decide ((16:Int)<((f.Items.length:Nat):Int))&&f.Items.all mf
def rf(x:aG):Bool:=decide (1<=x.Kind)&&decide (x.Kind<=3)
def lR(w:aM):Bool:= !decide ((16:Int)<((w.Items.length:Nat):Int))&&w.Items.all rf
def tf(x:ai):Bool:= !(decide ((8:Int)<((x.aF.length:Nat):Int))||decide ((8:Int)<((x.Worlds.length:Nat):Int)))&&(x.aF.all lQ&&x.Worlds.all lR)
theorem UB(x:ai)(i:Nat)(hi:i<x.aF.length)(hl:x.aF[i].Items.length<=16):∀(f k:Nat),x.aF[i].Items.length-k<f->k<=x.aF[i].Items.length->M.yc (i:Int) x f (k:Int)=some (bif(x.aF[i].Items.drop k).all mf then .inr ((i:Int),x)else .inl false)
 |0,k,h,_=>by omega
 |f+1,k,h,hk=>by
  rw[M.yc];have ex:∀y:af,af.re y=y:=af.aB;simp only[bP,dy _ hi,dB hi];rcases cN k x.aF[i].Items.length with q|q
  ·have ih:=UB x i hi hl f (k+1) (by omega) (by omega);rw[jf q,mo];simp only[eK q,bP,dy _ q,ex,aln,av,aw,ad,dB q,al,bS q (by omega:x.aF[i].Items.length<2^62),ih];cases mf x.aF[i].Items[k]<;>rfl
  ·simp only[iR q,ak,al,ad];rw[List.drop_eq_nil_of_le q];rfl
theorem UC(x:ai)(hl:x.aF.length<=8):∀(f k:Nat),x.aF.length-k<f->k<=x.aF.length->M.yd f (k:Int) x=some (bif(x.aF.drop k).all lQ then .inr x else .inl false)
 |0,k,h,_=>by omega
 |f+1,k,h,hk=>by
  rw[M.yd];rcases cN k x.aF.length with q|q
  ·have ih:=UC x hl f (k+1) (by omega) (by omega);rw[jf q,mo];simp only[eK q,bP,dy _ q,ad,dB q,al];cases hc:decide ((16:Int)<((x.aF[k].Items.length:Nat):Int))
   ·have h16:x.aF[k].Items.length<=16:=by have:=of_decide_eq_false hc;omega
    have e:=UB x k q h16 ah 0 (by have:=bq;omega) (by omega);rw[show((0:Nat):Int)=0 from rfl,gX]at e;have es:lQ x.aF[k]=x.aF[k].Items.all mf:=by unfold lQ;rw[hc];rfl
    simp only[ak,e,es];cases x.aF[k].Items.all mf
    ·rfl
    ·simp only[ad,bA,bS q (by omega:x.aF.length<2^62),ih]
   ·have es:lQ x.aF[k]=false:=by unfold lQ;rw[hc];rfl
    simp only[ad,es];rfl
  ·simp only[iR q,ak];rw[List.drop_eq_nil_of_le q];rfl
theorem UD(x:ai)(i:Nat)(hi:i<x.Worlds.length)(hl:x.Worlds[i].Items.length<=16):∀(f k:Nat),x.Worlds[i].Items.length-k<f->k<=x.Worlds[i].Items.length->M.ye (i:Int) x f (k:Int)=some (bif(x.Worlds[i].Items.drop k).all rf then .inr ((i:Int),x)else .inl false)
 |0,k,h,_=>by omega
 |f+1,k,h,hk=>by
  rw[M.ye];simp only[bP,dy _ hi,dB hi];rcases cN k x.Worlds[i].Items.length with q|q
  ·have ih:=UD x i hi hl f (k+1) (by omega) (by omega);rw[jf q,mo];have ew:(decide (1<=x.Worlds[i].Items[k].Kind)&&decide (x.Worlds[i].Items[k].Kind<=3))=rf x.Worlds[i].Items[k]:=rfl;simp only[eK q,bP,dy _ q,ew,ad,dB q,al,bS q (by omega:x.Worlds[i].Items.length<2^62),ih];cases rf x.Worlds[i].Items[k]<;>rfl
  ·simp only[iR q,ak,al,ad];rw[List.drop_eq_nil_of_le q];rfl
theorem UE(x:ai)(hl:x.Worlds.length<=8):∀(f k:Nat),x.Worlds.length-k<f->k<=x.Worlds.length->M.yf f (k:Int) x=some (bif(x.Worlds.drop k).all lR then .inr ()else .inl false)
 |0,k,h,_=>by omega
 |f+1,k,h,hk=>by
  rw[M.yf];rcases cN k x.Worlds.length with q|q
  ·have ih:=UE x hl f (k+1) (by omega) (by omega);rw[jf q,mo];simp only[eK q,bP,dy _ q,ad,dB q,al];cases hc:decide ((16:Int)<((x.Worlds[k].Items.length:Nat):Int))
   ·have h16:x.Worlds[k].Items.length<=16:=by have:=of_decide_eq_false hc;omega
    have e:=UD x k q h16 ah 0 (by have:=bq;omega) (by omega);rw[show((0:Nat):Int)=0 from rfl,gX]at e;have es:lR x.Worlds[k]=x.Worlds[k].Items.all rf:=by unfold lR;rw[hc];rfl
    simp only[ak,e,es];cases x.Worlds[k].Items.all rf
    ·rfl
    ·simp only[ad,bA,bS q (by omega:x.Worlds.length<2^62),ih]
   ·have es:lR x.Worlds[k]=false:=by unfold lR;rw[hc];rfl
    simp only[ad,es];rfl
  ·simp only[iR q,ak];rw[List.drop_eq_nil_of_le q];rfl
theorem alD(x:ai):M.s6 x=some (tf x):=by
 unfold M.s6 tf;cases hc:(decide ((8:Int)<((x.aF.length:Nat):Int))||decide ((8:Int)<((x.Worlds.length:Nat):Int)))
 ·simp only[kD,eV]at hc;have e1:=UC x (by omega) ah 0 (by have:=bq;omega) (by omega);have e2:=UE x (by omega) ah 0 (by have:=bq;omega) (by omega);rw[show((0:Nat):Int)=0 from rfl,gX]at e1 e2;simp only[ak,e1,bw,bA];cases x.aF.all lQ
  ·rfl
  ·simp only[ad,e2,bA];cases x.Worlds.all lR<;>rfl
 ·rfl
theorem alE(x:ai)(i:Nat)(hi:i<x.aF.length)(h:aT af.sz x.aF[i].Items<=1048576)(hS:x.aF[i].Items.all mf=true)(o:List UInt8)(ho:o.length<=300000000):M.pD (i:Int) x ah o 0=some (o++(x.aF[i].Items.map (kZ eG)).flatten,(i:Int),x):=by
 have hl:=df af.sz x.aF[i].Items;have hs:=ya pq x.aF[i].Items;exact td (F:=fun n k s=>M.pD (i:Int) x n s k) (h:=fun s=>some (s,(i:Int),x)) (kZ eG) x.aF[i].Items (by omega) o (fun n k s hk hs'=>by
  show M.pD (i:Int) x (n+1) s (k:Int)=_
  rw[M.pD];have hm:=dK af.sz x.aF[i].Items x.aF[i].Items[k] (cw hk);have hi2:=Nu eG pq x.aF[i].Items[k];have ex:∀y:af,af.re y=y:=af.aB;have et:=alq x.aF[i].Items[k] (by omega) (fj.1 hS _ (cw hk));have c1:az [32,32] (ky eG x.aF[i].Items[k])=true:=bC (by simp only[aU,bf];omega);have c2:az ([32,32]++ky eG x.aF[i].Items[k]) [59,10]=true:=bC (by simp only[aR,aU,bf];omega);have c3:az s (([32,32]++ky eG x.aF[i].Items[k])++[59,10])=true:=bC (by simp only[aR,aU,bf];omega);simp only[bP,dy _ hi,dB hi];simp only[eK hk,bP,dy _ hk,ad,ex,et,av,aw,dB hk,c1,c2,c3,al,bS hk (by omega:x.aF[i].Items.length<2^62)];rfl) (fun n s=>by
  show M.pD (i:Int) x (n+1) s _=_
  rw[M.pD];simp only[bP,dy _ hi,dB hi,Int.lt_irrefl,lp,ak,al,ad])
theorem alF(x:ai)(h:aT aD.sz x.aF<=1048576)(hS:x.aF.all lQ=true)(o:List UInt8)(ho:o.length<=100000000):M.pE ah o 0 x=some (o++(x.aF.map (jD eG)).flatten,x):=by
 have hl:=df aD.sz x.aF;have hs:=Bi pq x.aF;exact td (F:=fun n k s=>M.pE n s k x) (h:=fun s=>some (s,x)) (jD eG) x.aF (by omega) o (fun n k s hk hs'=>by
  show M.pE (n+1) s (k:Int) x=_
  rw[M.pE];have hm:=dK aD.sz x.aF x.aF[k] (cw hk);have hz:=aD.cf x.aF[k];have hi:=nU (kZ eG) x.aF[k].Items;have hi2:=ya pq x.aF[k].Items;have hF:=fj.1 hS _ (cw hk);unfold lQ at hF;have c1:az [10,105,110,116,101,114,102,97,99,101,32] x.aF[k].Name=true:=bC (by simp only[aU,bf];omega);have c2:az ([10,105,110,116,101,114,102,97,99,101,32]++x.aF[k].Name) [32,123,10]=true:=bC (by simp only[aR,aU,bf];omega);have c3:az s (([10,105,110,116,101,114,102,97,99,101,32]++x.aF[k].Name)++[32,123,10])=true:=bC (by simp only[aR,aU,bf];omega);have ei:=alE x k hk (by omega) (Bool.and_eq_true_iff.1 hF).2 (s++(([10,105,110,116,101,114,102,97,99,101,32]++x.aF[k].Name)++[32,123,10])) (by simp only[aR,aU,bf];omega);have c4:az ((s++(([10,105,110,116,101,114,102,97,99,101,32]++x.aF[k].Name)++[32,123,10]))++(x.aF[k].Items.map (kZ eG)).flatten) [125,10]=true:=bC (by simp only[aR,aU,bf];omega);simp only[eK hk,bP,dy _ hk,ad,dB hk,c1,c2,c3,c4,ei,al,bS hk (by omega:x.aF.length<2^62)];unfold jD;simp only[fQ]) (fun n s=>by
  show M.pE (n+1) s _ x=_
  rw[M.pE];simp only[Int.lt_irrefl,lp,ak])
theorem wwS{K:Int}(h:(decide (1<=K)&&decide (K<=3))=true):List.getD (Option.getD M.jC default) (Int.toNat (Go.IntKind.wrap .i64 (K-1))) []=kz K/\inB (Go.IntKind.wrap .i64 (K-1)) (Option.getD M.jC default).length=true:=by
 have hc:=h;simp only[bB,bU]at h;rw[wrap_i64 (by omega) (by omega),show Option.getD M.jC default=iS from rfl];obtain⟨n,hn⟩:=DC (show 0<=K-1 by omega);have hK:K=((n+1:Nat):Int):=by omega
 subst hK;unfold kz;rw[hc,ad,hn,bP,bP,dA,bU,show iS.length=3 from rfl];exact⟨rfl,by omega⟩
theorem alH(x:ai)(i:Nat)(hi:i<x.Worlds.length)(h:aT aG.sz x.Worlds[i].Items<=1048576)(hS:x.Worlds[i].Items.all rf=true)(o:List UInt8)(ho:o.length<=300000000):M.pF (i:Int) x ah o 0=some (o++(x.Worlds[i].Items.map (k9 eG)).flatten,(i:Int),x):=by
 have hl:=df aG.sz x.Worlds[i].Items;have hs:=yb pq x.Worlds[i].Items;exact td (F:=fun n k s=>M.pF (i:Int) x n s k) (h:=fun s=>some (s,(i:Int),x)) (k9 eG) x.Worlds[i].Items (by omega) o (fun n k s hk hs'=>by
  show M.pF (i:Int) x (n+1) s (k:Int)=_
  rw[M.pF];have hm:=dK aG.sz x.Worlds[i].Items x.Worlds[i].Items[k] (cw hk);have hz:=aG.cf x.Worlds[i].Items[k];have hpl:=pq x.Worlds[i].Items[k].Path;have hww:=Nv x.Worlds[i].Items[k].Kind;have et:=Nb x.Worlds[i].Items[k].Path (by omega);obtain⟨w1,w2⟩:=wwS (fj.1 hS _ (cw hk):(decide (1<=x.Worlds[i].Items[k].Kind)&&decide (x.Worlds[i].Items[k].Kind<=3))=true);have w3:Option.isSome M.jC=true:=rfl;have c0:az [32,32] (kz x.Worlds[i].Items[k].Kind)=true:=bC (by simp only[aU,bf];omega);have c1:az ([32,32]++kz x.Worlds[i].Items[k].Kind) [32]=true:=bC (by simp only[aR,aU,bf];omega);have c2:az (([32,32]++kz x.Worlds[i].Items[k].Kind)++[32]) (eG x.Worlds[i].Items[k].Path)=true:=bC (by simp only[aR,aU,bf];omega);have c3:az ((([32,32]++kz x.Worlds[i].Items[k].Kind)++[32])++eG x.Worlds[i].Items[k].Path) [59,10]=true:=bC (by simp only[aR,aU,bf];omega);have c4:az s (((([32,32]++kz x.Worlds[i].Items[k].Kind)++[32])++eG x.Worlds[i].Items[k].Path)++[59,10])=true:=bC (by simp only[aR,aU,bf];omega);simp only[bP,dy _ hi,dB hi];simp only[eK hk,bP,dy _ hk,ad,et,av,aw,dB hk,w1,w2,w3,c0,c1,c2,c3,c4,al,bS hk (by omega:x.Worlds[i].Items.length<2^62)];rfl) (fun n s=>by
  show M.pF (i:Int) x (n+1) s _=_
  rw[M.pF];simp only[bP,dy _ hi,dB hi,Int.lt_irrefl,lp,ak,al,ad])
theorem alI(x:ai)(h:aT aM.sz x.Worlds<=1048576)(hS:x.Worlds.all lR=true)(o:List UInt8)(ho:o.length<=200000000):M.pG ah o 0 x=some (o++(x.Worlds.map (worldT eG)).flatten):=by
 have hl:=df aM.sz x.Worlds;have hs:=FY pq x.Worlds;exact td (F:=fun n k s=>M.pG n s k x) (h:=fun s=>some s) (worldT eG) x.Worlds (by omega) o (fun n k s hk hs'=>by
  show M.pG (n+1) s (k:Int) x=_
  rw[M.pG];have hm:=dK aM.sz x.Worlds x.Worlds[k] (cw hk);have hz:=aM.cf x.Worlds[k];have hi:=nU (k9 eG) x.Worlds[k].Items;have hi2:=yb pq x.Worlds[k].Items;have hF:=fj.1 hS _ (cw hk);unfold lR at hF;have c1:az [10,119,111,114,108,100,32] x.Worlds[k].Name=true:=bC (by simp only[aU,bf];omega);have c2:az ([10,119,111,114,108,100,32]++x.Worlds[k].Name) [32,123,10]=true:=bC (by simp only[aR,aU,bf];omega);have c3:az s (([10,119,111,114,108,100,32]++x.Worlds[k].Name)++[32,123,10])=true:=bC (by simp only[aR,aU,bf];omega);have ei:=alH x k hk (by omega) (Bool.and_eq_true_iff.1 hF).2 (s++(([10,119,111,114,108,100,32]++x.Worlds[k].Name)++[32,123,10])) (by simp only[aR,aU,bf];omega);have c4:az ((s++(([10,119,111,114,108,100,32]++x.Worlds[k].Name)++[32,123,10]))++(x.Worlds[k].Items.map (k9 eG)).flatten) [125,10]=true:=bC (by simp only[aR,aU,bf];omega);simp only[eK hk,bP,dy _ hk,ad,dB hk,c1,c2,c3,c4,ei,al,bS hk (by omega:x.Worlds.length<2^62)];unfold worldT;simp only[fQ]) (fun n s=>by
  show M.pG (n+1) s _ x=_
  rw[M.pG];simp only[Int.lt_irrefl,lp,ak])
theorem UF(x:ai)(h:x.sz<=1048576)(hS:tf x=true):M.pg x=some (iT eG x):=by
 have hz:=ai.cf x;unfold tf at hS;rw[bB,bB]at hS;have f1:=nU (jD eG) x.aF;have f2:=Bi pq x.aF;have c1:az [112,97,99,107,97,103,101,32] x.Name=true:=bC (by simp only[aR,aU,bf];omega);have c2:az ([112,97,99,107,97,103,101,32]++x.Name) [64]=true:=bC (by simp only[aR,aU,bf];omega);have c3:az (([112,97,99,107,97,103,101,32]++x.Name)++[64]) x.Version=true:=bC (by simp only[aR,aU,bf];omega);have c4:az ((([112,97,99,107,97,103,101,32]++x.Name)++[64])++x.Version) [59,10]=true:=bC (by simp only[aR,aU,bf];omega);have e0:((([112,97,99,107,97,103,101,32]++x.Name)++[64])++x.Version)++[59,10]=firstT x:=rfl;have fl:(firstT x).length<=1048700:=by unfold firstT;simp only[aR,aU,bf];omega
 have e1:=alF x (by omega) hS.2.1 (firstT x) (by omega);have e2:=alI x (by omega) hS.2.2 (firstT x++(x.aF.map (jD eG)).flatten) (by simp only[aR];omega);unfold M.pg;simp only[e0,e1,e2,c1,c2,c3,c4,al,ad];rfl
def Nw(x:ai):Prop:=(∀f∈x.aF,∀i∈f.Items,nS i.From)/\∀w∈x.Worlds,∀i∈w.Items,nS i.Path
theorem alJ(x:ai)(h:Nw x):iT eG x=iT dh x:=by
 unfold iT;have e1:x.aF.map (jD eG)=x.aF.map (jD dh):=by
  apply List.map_congr_left;intro f hf;unfold jD;rw[List.map_congr_left (g:=kZ dh) fun i hi=>by unfold kZ;rw[alr i (h.1 f hf i hi)]]
 have e2:x.Worlds.map (worldT eG)=x.Worlds.map (worldT dh):=by
  apply List.map_congr_left;intro f hf;unfold worldT;rw[List.map_congr_left (g:=k9 dh) fun i hi=>by unfold k9;rw[Nc i.Path (h.2 f hf i hi)]]
 rw[e1,e2]
end M
namespace M
open Go.V (inB bV az ah bq)
def dC(u:Bool)(g:aa->Int)(x:aa):Int:=bif u&&(x.Kind==1)then 1 else g x
def eR{α:Type}(w:α->Int):List α->Int
 |[]=>0
 |x::r=>w x+eR w r
theorem Nx{α:Type}(w:α->Int):∀a b:List α,eR w (a++b)=eR w a+eR w b
 |[],b=>by simp[eR]
 |x::a,b=>by rw[oz,eR,eR,Nx w a b];omega
theorem FZ{α:Type}(w:α->Int):∀l:List α,(∀x∈l,0<=w x)->0<=eR w l
 |[],_=>by simp[eR]
 |x::r,h=>by have:=h x (by simp);have:=FZ w r fun y hy=>h y (by simp[hy]);rw[eR];omega
theorem UG(g:aa->Int)(u:Bool):∀(l:List aa)(s:Int),(∀x∈l,0<=dC u g x)->s+eR (dC u g) l<=12000->kY g u l s=s+eR (dC u g) l
 |[],s,_,_=>by simp[kY,eR]
 |x::r,s,h,hs=>by
  have h1:=h x (by simp);have h2:=FZ (dC u g) r fun y hy=>h y (by simp[hy])
  rw[eR]at hs⊢;have ih:=fun s'=>UG g u r s' fun y hy=>h y (by simp[hy])
  rw[kY];unfold dC at h1 hs⊢;cases hu:(u&&(x.Kind==1))<;>rw[hu]at h1 hs
  ·simp only[ak]at h1 hs⊢;rw[cQ (show ¬g x<0 by omega),cQ (show ¬12000<s by unfold dC at h2;omega),ln,ak];have:=ih (s+g x);unfold dC at this;rw[this (by omega)];omega
  ·simp only[ad]at h1 hs⊢;have:=ih (s+1);unfold dC at this;rw[this (by omega)];omega
theorem Bj(d:Nat)(t:aa)(h1:t.bm.length<=16)(h2:t.Kids.length<=16)(h3:t.Name.length<=12)(hk:nR t.Kind=true)(hlo:lP t.Kind ((t.bm.length:Nat):Int)<=((t.Kids.length:Nat):Int))(hhi:((t.Kids.length:Nat):Int)<=kx t.Kind ((t.bm.length:Nat):Int))
 (hc:∀x∈t.Kids,0<=dC (du t.Kind) (bX d) x) (hs:1+eR (dC (du t.Kind) (bX d)) t.Kids<=12000):bX (d+1) t=1+eR (dC (du t.Kind) (bX d)) t.Kids:=by
 rw[bX,cQ (show ¬(16:Int)<((t.bm.length:Nat):Int) by omega),cQ (show ¬(16:Int)<((t.Kids.length:Nat):Int) by omega),cQ (show ¬(12:Int)<((t.Name.length:Nat):Int) by omega),hk,db hlo,db hhi];exact UG _ _ _ _ hc hs
theorem UH{l:List aj}{k:Nat}(h:l.length<=k):bT l k=aj.zero:=by
 unfold bT;rw[gd,jS h];rfl
theorem UI{l:List aj}{t:List UInt8}{k:Nat}(ht:t≠[])(h:aH l t k=true):k<l.length:=by
 rcases cN k l.length with q|q
 ·exact q
 ·unfold aH at h;rw[UH q,bB]at h;exact absurd (cA.1 h.2).symm ht
theorem UJ{l:List aj}{k:Nat}(h:gP l k=true):k<l.length:=by
 rcases cN k l.length with q|q
 ·exact q
 ·unfold gP at h;rw[UH q,bB]at h;exact absurd (cA.1 h.1) (by show ¬(0:Int)=1;decide)
theorem nW{l:List aj}{t:List UInt8}(ht:t≠[]){k k':Nat}{v:Unit}(h:cq l t k=.ok v k'):k'=k+1/\k'<=l.length:=by
 unfold cq at h;cases hb:aH l t k<;>rw[hb]at h<;>cases h;exact⟨rfl,UI ht hb⟩
theorem UK{l:List aj}{k:Nat}(h:gP l k=true):(bT l k).Text.length<=12:=by
 unfold gP ib at h;simp only[bB,bU]at h;exact h.2.2.1.2
theorem UL{l:List aj}{k k':Nat}{v:List UInt8}(h:gQ l k=.ok v k'):k'=k+1/\k'<=l.length/\v.length<=12:=by
 unfold gQ at h;cases hb:gP l k<;>rw[hb]at h<;>cases h;exact⟨rfl,UJ hb,UK hb⟩
theorem alK{l:List aj}{k k':Nat}{v:List UInt8}(h:ma l k=.ok v k'):k'=k+1/\k'<=l.length/\v.length<=12:=by
 unfold ma at h;cases hb:mJ l k<;>rw[hb]at h<;>cases h;unfold mJ at hb;rw[bB]at hb;exact⟨rfl,UJ hb.1,UK hb.1⟩
theorem Ny{α:Type}{P:α->Prop}{w:α->Int}(l:List aj)(el:Nat->PR α)(he:∀(k:Nat)(v:α)(k':Nat),el k=.ok v k'->k<k'/\k'<=l.length/\P v/\0<=w v/\w v<=3*((k':Int)-(k:Int))):
 ∀(m:Nat)(acc:List α)(k:Nat)(vs:List α)(k':Nat),(∀v∈acc,P v/\0<=w v)->dV l el m acc k=.ok vs k'->k<k'/\k'<=l.length/\acc.length+1<=vs.length/\vs.length<=acc.length+m+1/\(∀v∈vs,P v/\0<=w v)/\eR w vs<=eR w acc+3*((k':Int)-(k:Int))
 |m,acc,k,vs,k',ha,h=>by
  rw[dV.eq_def]at h;dsimp only at h;cases hk:el k with
  |no q=>rw[hk]at h;cases h
  |ok v k1=>
   rw[hk]at h;obtain⟨g1,g2,g3,g4,g5⟩:=he _ _ _ hk;have one:∀y∈acc++[v],P y/\0<=w y:=fun y hy=>by
    rcases dN.1 hy with q|q
    ·exact ha y q
    ·rw[jj.1 q];exact⟨g3,g4⟩
   have es:eR w (acc++[v])=eR w acc+w v:=by rw[Nx];simp[eR]
   have el':(acc++[v]).length=acc.length+1:=by simp
   cases m with
   |zero=>
    cases h;exact⟨g1,g2,by omega,by omega,one,by rw[es];omega⟩
   |succ m=>
    simp only at h;cases hc:aH l [44] k1<;>rw[hc]at h
    ·cases h;exact⟨g1,g2,by omega,by omega,one,by rw[es];omega⟩
    ·obtain⟨r1,r2,r3,r4,r5,r6⟩:=Ny l el he m (acc++[v]) (k1+1) vs k' one h;rw[es]at r6;exact⟨by omega,r2,by omega,by omega,r5,by omega⟩
def Nz(K:Int)(d:Nat)(v:List UInt8×List aa):Prop:=((K=16\/K=17)->v.2.length=1)/\((K≠16/\K≠17)->v.2=[])/\∀x∈v.2,0<=dC (du K) (bX d) x
def pH(K:Int)(d:Nat)(v:List UInt8×List aa):Int:=eR (dC (du K) (bX d)) v.2
theorem Bl{K:Int}{d:Nat}{t:aa}{c:Int}(h1:1<=bX d t)(h2:bX d t<=c)(hc:1<=c):0<=dC (du K) (bX d) t/\dC (du K) (bX d) t<=c:=by
 unfold dC;cases (du K&&(t.Kind==1))<;>simp only[ad,ak]<;>omega
theorem UM{K:Int}{d:Nat}(h:du K=true):dC (du K) (bX d) dG=1:=by
 unfold dC;rw[h];rfl
theorem alL{l:List aj}{K:Int}{d:Nat}(ih:∀(k:Nat)(t:aa)(k':Nat),dY l d k=.ok t k'->k<k'/\k'<=l.length/\1<=bX d t/\bX d t<=3*((k':Int)-(k:Int))){k k':Nat}{v:List UInt8×List aa}(h:gB l K (dY l d) k=.ok v k'):k<k'/\k'<=l.length/\Nz K d v/\0<=pH K d v/\pH K d v<=3*((k':Int)-(k:Int)):=by
 unfold gB at h;obtain⟨w,k1,hw,h⟩:=bind_ok h;obtain⟨n1,n2,_⟩:=UL hw;have fin:∀(t:aa)(c:Int),0<=dC (du K) (bX d) t/\dC (du K) (bX d) t<=c->(K=16\/K=17)->Nz K d (w,[t])/\0<=pH K d (w,[t])/\pH K d (w,[t])<=c:=fun t c hc hK=>by
  have e:pH K d (w,[t])=dC (du K) (bX d) t:=by unfold pH;simp[eR]
  rw[e];exact⟨⟨fun _=>rfl,fun q=>by omega,fun x hx=>by rw[jj.1 hx];exact hc.1⟩,hc.1,hc.2⟩
 cases h16:(K==(16:Int))<;>rw[h16]at h
 ·cases h17:(K==(17:Int))<;>rw[h17]at h
  ·cases h;rw[cM]at h16 h17;refine⟨by omega,n2,⟨fun q=>by omega,fun _=>rfl,fun x hx=>by cases hx⟩,?_,?_⟩
   ·show(0:Int)<=0;omega
   ·show(0:Int)<=_;omega
  ·have e17:=cA.1 h17;simp only[ak,ad]at h;cases hc:aH l [40] k1<;>rw[hc]at h
   ·cases h;refine⟨by omega,n2,fin dG _ ?_ (.inr e17)⟩;rw[UM (by rw[e17];rfl)];omega
   ·obtain⟨t0,k3,h0,h⟩:=bind_ok h;obtain⟨_,k4,h4,h⟩:=bind_ok h;cases h;obtain⟨a1,a2,a3,a4⟩:=ih _ _ _ h0;obtain⟨b1,b2⟩:=nW (by decide) h4;exact⟨by omega,b2,fin t0 _ (Bl a3 (by omega) (by omega)) (.inr e17)⟩
 ·obtain⟨_,k2,h2,h⟩:=bind_ok h;obtain⟨t0,k3,h0,h⟩:=bind_ok h;cases h;obtain⟨a1,a2,a3,a4⟩:=ih _ _ _ h0;obtain⟨b1,b2⟩:=nW (by decide) h2;exact⟨by omega,a2,fin t0 _ (Bl a3 (by omega) (by omega)) (.inl (cA.1 h16))⟩
theorem NA{α β:Type}{w:β->Int}:∀(ps:List (α×List β)),(∀v∈ps,v.2.length=1)->(ps.map (·.2)).flatten.length=ps.length
 |[],_=>rfl
 |p::r,h=>by rw[eN,List.flatten_cons,aR,h p (by simp),NA (w:=w) r fun v hv=>h v (by simp[hv]),aU];omega
theorem flat_nil{α β:Type}:∀(ps:List (α×List β)),(∀v∈ps,v.2=[])->(ps.map (·.2)).flatten=[]
 |[],_=>rfl
 |p::r,h=>by rw[eN,List.flatten_cons,h p (by simp),flat_nil r fun v hv=>h v (by simp[hv])];rfl
theorem UN{α β:Type}(w:β->Int):∀(ps:List (α×List β)),eR w (ps.map (·.2)).flatten=eR (fun v=>eR w v.2) ps
 |[]=>rfl
 |p::r=>by rw[eN,List.flatten_cons,Nx,UN w r,eR]
theorem alM{l:List aj}{d:Nat}(ih:∀(k:Nat)(t:aa)(k':Nat),dY l d k=.ok t k'->k<k'/\k'<=l.length/\1<=bX d t/\bX d t<=3*((k':Int)-(k:Int))){k k':Nat}{v:List aa}(hk:k<=l.length)(h:nH l (dY l d) k=.ok v k'):
 k<=k'/\k'<=l.length/\∃a b,v=[a,b]/\0<=dC (du 14) (bX d) a/\0<=dC (du 14) (bX d) b/\(dC (du 14) (bX d) a+dC (du 14) (bX d) b<=2\/dC (du 14) (bX d) a+dC (du 14) (bX d) b<=3*((k':Int)-(k:Int))-5):=by
 unfold nH at h;have hu:dC (du 14) (bX d) dG=1:=UM rfl;cases h60:aH l [60] k<;>rw[h60]at h
 ·cases h;exact⟨by omega,hk,dG,dG,rfl,by omega,by omega,by omega⟩
 ·simp only[ad]at h;have l60:=UI (by decide) h60;obtain⟨a,k1,ha,h⟩:=bind_ok h;obtain⟨b,k2,hb,h⟩:=bind_ok h;obtain⟨_,k3,h3,h⟩:=bind_ok h;cases h;obtain⟨n1,n2⟩:=nW (by decide) h3;have pa:k+1<k1/\0<=dC (du 14) (bX d) a/\dC (du 14) (bX d) a<=3*((k1:Int)-(k:Int))-3:=by
   cases h95:aH l [95] (k+1)<;>rw[h95]at ha
   ·obtain⟨a1,a2,a3,a4⟩:=ih _ _ _ ha;exact⟨by omega,Bl a3 (by omega) (by omega)⟩
   ·cases ha;exact⟨by omega,by omega,by omega⟩
  have pb:k1<=k2/\0<=dC (du 14) (bX d) b/\dC (du 14) (bX d) b<=1+3*((k2:Int)-(k1:Int)):=by
   cases iQ:aH l [44] k1<;>rw[iQ]at hb
   ·cases hb;exact⟨by omega,by omega,by omega⟩
   ·obtain⟨a1,a2,a3,a4⟩:=ih _ _ _ hb;exact⟨by omega,Bl a3 (by omega) (by omega)⟩
  exact⟨by omega,n2,a,b,rfl,pa.2.1,pb.2.1,by omega⟩
theorem F3(l:List aj)(hl:l.length<=4001):∀(d k:Nat)(t:aa)(k':Nat),dY l d k=.ok t k'->k<k'/\k'<=l.length/\1<=bX d t/\bX d t<=3*((k':Int)-(k:Int))
 |0,k,t,k',h=>by cases h
 |d+1,k,t,k',h=>by
  rw[dY]at h;obtain⟨w,k1,hw,h⟩:=bind_ok h;obtain⟨n1,n2,n3⟩:=UL hw;have ih:=F3 l hl d;have hb:=E3 w;generalize dJ w=K at h hb;have leaf:∀(K':Int)(nm:List UInt8),nm.length<=12->nR K'=true->lP K' 0=0->kx K' 0=0->bX (d+1) (aa.mk K' nm [] [])=1:=fun K' nm hn hk h1 h2=>by
   have:=Bj d (aa.mk K' nm [] []) (dL 16) (dL 16) hn hk (by show lP K' 0<=0;omega) (by show 0<=kx K' 0;omega) (fun x hx=>by cases hx) (by show(1:Int)+0<=12000;omega);rw[this];rfl
  cases c0:(K==0)<;>rw[c0]at h
  ·simp only[ak]at h;cases c1:((K==12)||((K==13)||((K==22)||(K==23))))<;>rw[c1]at h
   ·simp only[ak]at h;cases c2:(K==15)<;>rw[c2]at h
    ·simp only[ak]at h;cases c3:((K==20)||(K==21))<;>rw[c3]at h
     ·simp only[ak]at h;cases c4:(K==14)<;>rw[c4]at h
      ·simp only[ak]at h;cases c5:((K==16)||((K==17)||((K==18)||(K==19))))<;>rw[c5]at h
       ·cases h;have hK:nR K=true:=by
         unfold nR;rw[cM]at c0;rw[db (show(1:Int)<=K by omega),db (show K<=23 by omega)];rfl
        have c1':A7 K=false:=c1;have c6:((K==16)||(K==17))=false:=by
         simp only[kD]at c5⊢;exact⟨c5.1,c5.2.1⟩
        have e:=leaf K [] (by simp) hK (by unfold lP;rw[c1',c4,c2,c6];rfl) (by unfold kx;rw[c1',c4,c2,c6];rfl);rw[e];exact⟨by omega,n2,by omega,by omega⟩
       ·simp only[ad]at h;obtain⟨_,k2,h2,h⟩:=bind_ok h;obtain⟨ps,k3,hp,h⟩:=bind_ok h;obtain⟨_,k4,h4,h⟩:=bind_ok h;cases h;obtain⟨m1,m2⟩:=nW (by decide) h2;obtain⟨m3,m4⟩:=nW (by decide) h4;obtain⟨r1,r2,r3,r4,r5,r6⟩:=Ny (P:=Nz K d) (w:=pH K d) l _ (fun k v k' hv=>alL ih hv) 15 [] _ ps _ (fun v hv=>by cases hv) hp;simp only[bf]at r3 r4;have e0:eR (pH K d) []=0:=rfl;rw[e0]at r6;have hK:K=16\/K=17\/K=18\/K=19:=by simpa only[gi,cA]using c5
        have NB:nR K=true:=by rcases hK with e|e|e|e<;>rw[e]<;>rfl
        have UO:eR (dC (du K) (bX d)) (ps.map (·.2)).flatten=eR (pH K d) ps:=UN _ ps;have hlen:(((ps.map (·.2)).flatten.length:Nat):Int)=lP K ((ps.length:Nat):Int)/\(((ps.map (·.2)).flatten.length:Nat):Int)=kx K ((ps.length:Nat):Int)/\(ps.map (·.2)).flatten.length<=16:=by
         rcases hK with e|e|e|e
         ·have:=NA (w:=fun _=>0) ps fun v hv=>(r5 v hv).1.1 (.inl e)
          rw[this,e];exact⟨rfl,rfl,by omega⟩
         ·have:=NA (w:=fun _=>0) ps fun v hv=>(r5 v hv).1.1 (.inr e)
          rw[this,e];exact⟨rfl,rfl,by omega⟩
         ·have:=flat_nil ps fun v hv=>(r5 v hv).1.2.1 (by omega)
          rw[this,e];exact⟨rfl,rfl,by simp⟩
         ·have:=flat_nil ps fun v hv=>(r5 v hv).1.2.1 (by omega)
          rw[this,e];exact⟨rfl,rfl,by simp⟩
        have hnn:=FZ (pH K d) ps fun v hv=>(r5 v hv).2
        have e:=Bj d (aa.mk K [] (ps.map (·.1)) (ps.map (·.2)).flatten) (by show(ps.map (·.1)).length<=16;rw[fk];omega) (by show(ps.map (·.2)).flatten.length<=16;exact hlen.2.2) (dL 12) NB
         (by show lP K (((ps.map (·.1)).length:Nat):Int)<=_;rw[fk];exact Int.le_of_eq hlen.1.symm)
         (by show _<=kx K (((ps.map (·.1)).length:Nat):Int);rw[fk];exact Int.le_of_eq hlen.2.1)
         (fun x hx=>by
           obtain⟨q,hq,hx⟩:=List.mem_flatten.1 hx;obtain⟨v,hv,rfl⟩:=List.mem_map.1 hq;exact(r5 v hv).1.2.2 x hx)
         (by show 1+eR (dC (du K) (bX d)) (ps.map (·.2)).flatten<=12000;rw[UO];omega)
        have e:bX (d+1) (aa.mk K [] (ps.map (·.1)) (ps.map (·.2)).flatten)=1+eR (dC (du K) (bX d)) (ps.map (·.2)).flatten:=e;rw[e,UO];exact⟨by omega,m4,by omega,by omega⟩
      ·have e14:=cA.1 c4;subst e14;simp only[ad]at h;obtain⟨ts,k2,hp,h⟩:=bind_ok h;cases h;obtain⟨r1,r2,a,b,rfl,ra,rb,rs⟩:=alM ih n2 hp;have e:=Bj d (aa.mk 14 [] [] [a,b]) (dL 16) (by show 2<=16;omega) (dL 12) rfl (by show(2:Int)<=2;omega) (by show(2:Int)<=2;omega)
        (fun x hx=>by
          have hx:x∈[a,b]:=hx;simp only[gp,Jm,or_false]at hx;rcases hx with q|q<;>rw[q]<;>assumption)
        (by show 1+(dC (du 14) (bX d) a+(dC (du 14) (bX d) b+0))<=12000;omega)
       have e:bX (d+1) (aa.mk 14 [] [] [a,b])=1+(dC (du 14) (bX d) a+(dC (du 14) (bX d) b+0)):=e;rw[e];exact⟨by omega,r2,by omega,by omega⟩
     ·simp only[ad]at h;obtain⟨_,k2,h2,h⟩:=bind_ok h;obtain⟨nm,k3,h3,h⟩:=bind_ok h;obtain⟨_,k4,h4,h⟩:=bind_ok h;cases h;obtain⟨m1,m2⟩:=nW (by decide) h2;obtain⟨m3,m4⟩:=nW (by decide) h4;obtain⟨i1,i2,i3⟩:=alK h3;have hK:K=20\/K=21:=by simpa only[gi,cA]using c3
      have e:=leaf K nm i3 (by rcases hK with e|e<;>rw[e]<;>rfl) (by rcases hK with e|e<;>rw[e]<;>rfl) (by rcases hK with e|e<;>rw[e]<;>rfl);rw[e];exact⟨by omega,m4,by omega,by omega⟩
    ·have e15:=cA.1 c2;subst e15;simp only[ad]at h;obtain⟨_,k2,h2,h⟩:=bind_ok h;obtain⟨ts,k3,hp,h⟩:=bind_ok h;obtain⟨_,k4,h4,h⟩:=bind_ok h;cases h;obtain⟨m1,m2⟩:=nW (by decide) h2;obtain⟨m3,m4⟩:=nW (by decide) h4;obtain⟨r1,r2,r3,r4,r5,r6⟩:=Ny (P:=fun t=>0<=dC (du 15) (bX d) t) (w:=dC (du 15) (bX d)) l _ (fun k v k' hv=>by
      obtain⟨a1,a2,a3,a4⟩:=ih _ _ _ hv;have:=Bl (K:=15) a3 a4 (by omega);exact⟨a1,a2,this.1,this.1,this.2⟩) 5 [] _ ts _ (fun v hv=>by cases hv) hp
     simp only[bf]at r3 r4;have e0:eR (dC (du 15) (bX d)) []=0:=rfl;rw[e0]at r6;have hnn:=FZ (dC (du 15) (bX d)) ts fun v hv=>(r5 v hv).2
     have e:=Bj d (aa.mk 15 [] [] ts) (dL 16) (by show ts.length<=16;omega) (dL 12) rfl (by show(1:Int)<=((ts.length:Nat):Int);omega) (by show((ts.length:Nat):Int)<=6;omega)
      (fun x hx=>(r5 x hx).1) (by show 1+eR (dC (du 15) (bX d)) ts<=12000;omega)
     have e:bX (d+1) (aa.mk 15 [] [] ts)=1+eR (dC (du 15) (bX d)) ts:=e;rw[e];exact⟨by omega,m4,by omega,by omega⟩
   ·simp only[ad]at h;obtain⟨_,k2,h2,h⟩:=bind_ok h;obtain⟨t0,k3,h0,h⟩:=bind_ok h;obtain⟨_,k4,h4,h⟩:=bind_ok h;cases h;obtain⟨m1,m2⟩:=nW (by decide) h2;obtain⟨m3,m4⟩:=nW (by decide) h4;obtain⟨a1,a2,a3,a4⟩:=ih _ _ _ h0;have hK:K=12\/K=13\/K=22\/K=23:=by simpa only[gi,cA]using c1
    have NB:nR K=true:=by rcases hK with e|e|e|e<;>rw[e]<;>rfl
    have hu:du K=false:=by rcases hK with e|e|e|e<;>rw[e]<;>rfl
    have h1:A7 K=true:=c1;have ec:dC (du K) (bX d) t0=bX d t0:=by unfold dC;rw[hu];rfl
    have e:=Bj d (aa.mk K [] [] [t0]) (dL 16) (by show 1<=16;omega) (dL 12) NB (by show lP K 0<=1;unfold lP;rw[h1];show(1:Int)<=1;omega) (by show 1<=kx K 0;unfold kx;rw[h1];show(1:Int)<=1;omega)
     (fun x hx=>by have hx:x∈[t0]:=hx;rw[jj.1 hx];show 0<=dC (du K) (bX d) t0;rw[ec];omega)
     (by show 1+(dC (du K) (bX d) t0+0)<=12000;rw[ec];omega)
    have e:bX (d+1) (aa.mk K [] [] [t0])=1+(dC (du K) (bX d) t0+0):=e;rw[e,ec];exact⟨by omega,m4,by omega,by omega⟩
  ·cases h;rw[leaf 30 w n3 rfl rfl rfl];exact⟨by omega,n2,by omega,by omega⟩
end M
namespace M
open Go.V (inB bV az ah bq)
theorem alN{l:List aj}(hl:l.length<=4001){k k':Nat}{v:aA}(h:kr l k=.ok v k'):0<=bX 4 v.Term:=by
 unfold kr at h;obtain⟨_,_,_,h⟩:=bind_ok h;obtain⟨_,_,_,h⟩:=bind_ok h;obtain⟨t,_,ht,h⟩:=bind_ok h;cases h;have:=(F3 l hl 4 _ _ _ ht).2.2.1
 show 0<=bX 4 t
 omega
theorem alO:bX 4 dG=1:=rfl
theorem F4(x:af)(h1:x.Params.length<=6)(h2:x.Uses.length<=16)(h3:(x.Kind=2\/x.Kind=3)->0<=bX 4 x.Term)(h4:∀p∈x.Params,0<=bX 4 p.Term)(h5:1<=x.Kind)(h6:x.Kind<=4):mf x=true:=by
 unfold mf;rw[cQ (show ¬(6:Int)<((x.Params.length:Nat):Int) by omega),cQ (show ¬(16:Int)<((x.Uses.length:Nat):Int) by omega),db h5,db h6];have e:(x.Params.all fun p=> !decide (bX 4 p.Term<0))=true:=by
  rw[fj];intro p hp;have:=h4 p hp;rw[cQ (by omega)];rfl
 rw[e];cases hk:((x.Kind==2)||(x.Kind==3))
 ·simp
 ·have hK:x.Kind=2\/x.Kind=3:=by simpa only[gi,cA]using hk
  have:=h3 hK;rw[cQ (show ¬bX 4 x.Term<0 by omega)];rfl
def F5(x:af):Prop:=mf x=true/\nS x.From
theorem UP{l:List aj}{k k':Nat}{p:aQ}(h:oU l k=.ok p k'):nS p:=by
 unfold oU at h;obtain⟨a,k1,ha,h⟩:=bind_ok h;cases h47:aH l [47] k1<;>rw[h47]at h
 ·cases h;exact fun _=>rfl
 ·simp only[ad]at h;obtain⟨b,k2,hb,h⟩:=bind_ok h;have ne:a≠[]:=by
   unfold gQ at ha;cases hn:gP l k<;>rw[hn]at ha<;>cases ha;intro e;unfold gP at hn;rw[e,bB]at hn;exact absurd hn.2 (by decide)
  cases h64:aH l [64] k2<;>rw[h64]at h
  ·cases h;exact fun _=>rfl
  ·simp only[ad]at h;obtain⟨v,k3,hv,h⟩:=bind_ok h;cases h;exact fun e=>absurd e ne
theorem alP(l:List aj)(hl:l.length<=4001)(nm:List UInt8)(k:Nat)(v:af)(k':Nat)(h:nK l nm k=.ok v k'):F5 v:=by
 have:∀as k,qM l nm as k=.ok v k'->F5 v:=fun as k h=>by
  unfold qM at h;obtain⟨_,_,_,h⟩:=bind_ok h;obtain⟨ps,k1,hp,h⟩:=bind_ok h;obtain⟨t,k2,ht,h⟩:=bind_ok h;cases h;have h1:ps.length<=6/\∀p∈ps,0<=bX 4 p.Term:=by
   unfold xu at hp;obtain⟨_,k3,_,hp⟩:=bind_ok hp;cases hc:aH l [41] k3<;>rw[hc]at hp
   ·simp only[ak]at hp;obtain⟨qs,_,hq,hp⟩:=bind_ok hp;obtain⟨_,_,_,hp⟩:=bind_ok hp;cases hp;have:=vl (P:=fun v:aA=>0<=bX 4 v.Term) l _ (fun _ _ _ hv=>alN hl hv) 5 [] _ _ _ (fun v hv=>by cases hv) hq;exact⟨by simpa using this.1,this.2⟩
   ·cases hp;exact⟨by simp,fun p hp=>by cases hp⟩
  have h2:0<=bX 4 t:=by
   unfold Ao at ht;cases hc:aH l [45,62] k1<;>rw[hc]at ht
   ·cases ht;rw[alO];omega
   ·have:=(F3 l hl 4 _ _ _ ht).2.2.1;omega
  exact⟨F4 _ h1.1 (by simp) (fun _=>h2) h1.2 (by show(1:Int)<=3;decide) (by show(3:Int)<=4;decide),fun _=>rfl⟩
 unfold nK at h;cases hc:aH l qL k<;>rw[hc]at h<;>exact this _ _ h
theorem alQ(l:List aj)(hl:l.length<=4001)(k:Nat)(v:af)(k':Nat)(h:kt l k=.ok v k'):F5 v:=by
 unfold kt nL at h;obtain⟨x,k1,hx,h⟩:=bind_ok h;obtain⟨_,_,_,h⟩:=bind_ok h;cases h;obtain⟨nm,k2,_,hx⟩:=bind_ok hx;unfold kU at hx;cases jA:aH l [58] k2<;>rw[jA]at hx
 ·cases hR:(nm==mR)<;>rw[hR]at hx
  ·cases hY:(nm==oV)<;>rw[hY]at hx
   ·cases hU:(nm==oW)<;>rw[hU]at hx
    ·cases hx
    ·simp only[ad,ak]at hx;unfold xw at hx;obtain⟨p,_,hp,hx⟩:=bind_ok hx;obtain⟨_,_,_,hx⟩:=bind_ok hx;obtain⟨_,_,_,hx⟩:=bind_ok hx;obtain⟨us,_,hu,hx⟩:=bind_ok hx;obtain⟨_,_,_,hx⟩:=bind_ok hx;cases hx;have:=(vl (P:=fun _=>True) l _ (fun _ _ _ _=>trivial) 15 [] _ us _ (fun _ _=>trivial) hu).1;exact⟨F4 _ (by simp) (by simpa using this) (fun q=>absurd q (by show ¬((4:Int)=2\/(4:Int)=3);decide)) (fun p hp=>by cases hp) (by show(1:Int)<=4;decide) (by show(4:Int)<=4;decide),UP hp⟩
   ·simp only[ad,ak]at hx;obtain⟨_,_,_,hx⟩:=bind_ok hx;obtain⟨_,_,_,hx⟩:=bind_ok hx;obtain⟨t,_,ht,hx⟩:=bind_ok hx;cases hx;have:=(F3 l hl 4 _ _ _ ht).2.2.1;exact⟨F4 _ (by simp) (by simp) (fun _=>by show 0<=bX 4 t;omega) (fun p hp=>by cases hp) (by show(1:Int)<=2;decide) (by show(2:Int)<=4;decide),fun _=>rfl⟩
  ·simp only[ad,ak]at hx;obtain⟨_,_,_,hx⟩:=bind_ok hx;cases hx;exact⟨F4 _ (by simp) (by simp) (fun q=>absurd q (by show ¬((1:Int)=2\/(1:Int)=3);decide)) (fun p hp=>by cases hp) (by show(1:Int)<=1;decide) (by show(1:Int)<=4;decide),fun _=>rfl⟩
 ·exact alP l hl _ _ _ _ hx
theorem alR(l:List aj)(hl:l.length<=4001)(k:Nat)(v:aD)(k':Nat)(h:me l k=.ok v k'):lQ v=true/\∀i∈v.Items,nS i.From:=by
 unfold me at h;obtain⟨_,_,_,h⟩:=bind_ok h;obtain⟨_,_,_,h⟩:=bind_ok h;obtain⟨xs,_,hx,h⟩:=bind_ok h;cases h;have:=AG (P:=F5) l (kt l) (alQ l hl) 16 [] _ xs _ (fun v hv=>by cases hv) hx;have h1:xs.length<=16:=by simpa using this.1
 refine⟨?_,fun i hi=>(this.2 i hi).2⟩;unfold lQ;rw[cQ (show ¬(16:Int)<((xs.length:Nat):Int) by omega),bw,bA,fj];exact fun i hi=>(this.2 i hi).1
theorem alS(l:List aj)(k:Nat)(v:aM)(k':Nat)(h:qN l k=.ok v k'):lR v=true/\∀i∈v.Items,nS i.Path:=by
 unfold qN at h;obtain⟨_,_,_,h⟩:=bind_ok h;obtain⟨_,_,_,h⟩:=bind_ok h;obtain⟨xs,_,hx,h⟩:=bind_ok h;cases h;have hw:∀(K:Int),(decide (1<=K)&&decide (K<=3))=true->∀k v k',sJ l K k=.ok v k'->rf v=true/\nS v.Path:=fun K hK k v k' h=>by
  unfold sJ at h;obtain⟨p,_,hp,h⟩:=bind_ok h;obtain⟨_,_,_,h⟩:=bind_ok h;cases h;exact⟨hK,UP hp⟩
 have:=AG (P:=fun v:aG=>rf v=true/\nS v.Path) l (jB l) (fun k v k' h=>by
  unfold jB at h;cases h1:aH l nM k<;>rw[h1]at h
  ·cases h2:aH l nN k<;>rw[h2]at h
   ·cases h3:aH l nO k<;>rw[h3]at h
    ·cases h
    ·exact hw 3 rfl _ _ _ h
   ·exact hw 2 rfl _ _ _ h
  ·exact hw 1 rfl _ _ _ h) 16 [] _ xs _ (fun v hv=>by cases hv) hx
 have h1:xs.length<=16:=by simpa using this.1
 refine⟨?_,fun i hi=>(this.2 i hi).2⟩;unfold lR;rw[cQ (show ¬(16:Int)<((xs.length:Nat):Int) by omega),bw,bA,fj];exact fun i hi=>(this.2 i hi).1
theorem alT(l:List aj)(hl:l.length<=4001)(k:Nat)(p:ai)(k':Nat)(h:jc l k=.ok p k'):tf p=true/\Nw p:=by
 unfold jc at h;obtain⟨_,_,_,h⟩:=bind_ok h;obtain⟨_,_,_,h⟩:=bind_ok h;obtain⟨_,_,_,h⟩:=bind_ok h;obtain⟨_,_,_,h⟩:=bind_ok h;obtain⟨_,_,_,h⟩:=bind_ok h;obtain⟨q,k6,h6,h⟩:=bind_ok h;cases h;have:=AH (P:=fun f=>lQ f=true/\∀i∈f.Items,nS i.From) (Q:=fun f=>lR f=true/\∀i∈f.Items,nS i.Path) l (alR l hl) (alS l) 16 [] [] _ q _ (by simp) (by simp) (by simp) (by simp) h6;refine⟨?_,fun f hf=>(this.2.2.1 f hf).2,fun w hw=>(this.2.2.2 w hw).2⟩;unfold tf;have e1:q.1.all lQ=true:=by rw[fj];exact fun f hf=>(this.2.2.1 f hf).1
 have e2:q.2.all lR=true:=by rw[fj];exact fun f hf=>(this.2.2.2 f hf).1
 have h1:=this.1;have h2:=this.2.1;show(!(decide ((8:Int)<((q.1.length:Nat):Int))||decide ((8:Int)<((q.2.length:Nat):Int)))&&(q.1.all lQ&&q.2.all lR))=true
 rw[cQ (show ¬(8:Int)<((q.1.length:Nat):Int) by omega),cQ (show ¬(8:Int)<((q.2.length:Nat):Int) by omega),e1,e2];rfl
theorem alU(s:List UInt8)(x:ai)(h:ix s=.inr x):tf x=true/\Nw x:=by
 unfold ix at h;split at h
 ·rename_i h0;split at h
  ·cases h
  ·rename_i hp;cases h;exact alT _ (ML s h0).len _ _ _ hp
 ·cases h
theorem UQ(x:ai)(hx:x.sz<=1048576):M.vo x=some (iI x (iT dh x))/\M.qW x=some (iI x (iT dh x))/\(iI x (iT dh x)=true->M.pg x=some (iT dh x)):=
 akX x (iT dh x) hx (alC x hx) (tf x) (alD x) (fun h=>⟨_,UF x hx h⟩) (fun⟨t,ht⟩=>by
  obtain⟨w1,w2⟩:=alU t x ht;exact⟨w1,by rw[UF x hx w1,alJ x w2]⟩)
end M
namespace M
open Go.V (inB bV az ah bq)
noncomputable def okB(x:ai):Bool:=iI x (iT dh x)
def lg(x q:ai):Bool:=(x.Name==q.Name)&&(x.Version==q.Version)
noncomputable def Bm(l:List ai)(k:Nat):Bool:=okB (l.getD k ai.zero)&& !((l.take k).any (lg (l.getD k ai.zero)))
noncomputable def pI(l:List ai):Nat->Nat->Bool
 |0,_=>true
 |n+1,k=>Bm l k&&pI l n (k+1)
noncomputable def nX(l:List ai):Int:=bif decide ((8:Int)<((l.length:Nat):Int))then 4 else bif pI l l.length 0 then 0 else 1
theorem UR(s:List ai)(f:ai)(hs:s.length<=1048576):∀(n k:Nat),s.length-k<n->k<=s.length->∃y,M.yg s f ((s.length:Nat):Int) n (k:Int)=some y/\Sum.elim (fun a:Int=>0<=a/\(s.drop k).any (lg f)=true) (fun _=>(s.drop k).any (lg f)=false) y
 |0,k,h,_=>by omega
 |n+1,k,h,hk=>by
  rw[M.yg];rcases cN k s.length with q|q
  ·rw[jf q,List.any_cons];have e:((f.Name==s[k].Name)&&(f.Version==s[k].Version))=lg f s[k]:=rfl;simp only[eK q,bP,dy _ q,e,ad,dB q,al,bS q (by omega:s.length<2^62)];cases hc:lg f s[k]
   ·obtain⟨y,h1,h2⟩:=UR s f hs n (k+1) (by omega) (by omega);refine⟨y,by simpa only[ak]using h1,?_⟩;simpa only[jV]using h2
   ·exact⟨.inl (k:Int),rfl,show(0:Int)<=(k:Int) by omega,rfl⟩
  ·simp only[iR q,ak];rw[List.drop_eq_nil_of_le q];exact⟨_,rfl,rfl⟩
theorem alV(s:List ai)(f:ai)(hs:s.length<=1048576):M.Bn s f=some (s.any (lg f)):=by
 obtain⟨y,h1,h2⟩:=UR s f hs ah 0 (by have:=bq;omega) (dL _);rw[show((0:Nat):Int)=0 from rfl]at h1;rw[gX]at h2;unfold M.Bn M.F6;rw[h1];cases y with
 |inl a=>
  have h2:0<=a/\s.any (lg f)=true:=h2;simp only[aw,av,al,ad,h2.2,db h2.1]
 |inr u=>
  have h2:s.any (lg f)=false:=h2;rw[h2];rfl
theorem US(l:List ai)(hl:l.length<=8)(hz:∀x∈l,x.sz<=1048576):∀(n f k:Nat),n<f->k+n=l.length->M.vv l l ((l.length:Nat):Int) f (k:Int)=some (bif pI l n k then .inr ()else .inl 1)
 |n,0,k,h,_=>by omega
 |0,f+1,k,h,hk=>by
  rw[M.vv,pI];simp only[iR (show l.length<=k by omega),ak,ad]
 |n+1,f+1,k,h,hk=>by
  have q:k<l.length:=by omega
  have ih:=US l hl hz n f (k+1) (by omega) (by omega);rw[M.vv,pI];have e1:=(UQ l[k] (hz _ (cw q))).1;have e2:List.drop (Int.toNat (0:Int)) (List.take k l)=l.take k:=rfl;have e3:=alV (l.take k) l[k] (by rw[ni];omega);have e4:bV (0:Int) (k:Int) l.length=true:=by unfold bV;simp only[bB,bU];omega
  have eg:Bm l k=(iI l[k] (iT dh l[k])&& !((l.take k).any (lg l[k]))):=by unfold Bm okB;rw[dy _ q]
  rw[eg];simp only[eK q,bP,dy _ q,e1,e2,e3,e4,av,aw,dB q,bo,al,ad,bS q (by omega:l.length<2^62),ih];cases iI l[k] (iT dh l[k])<;>cases (l.take k).any (lg l[k])<;>rfl
theorem alW(l:List ai)(hz:∀x∈l,x.sz<=1048576):M.Bo l=some (nX l):=by
 unfold M.Bo nX;cases hc:decide ((8:Int)<((l.length:Nat):Int))
 ·have hl:l.length<=8:=by have:=of_decide_eq_false hc;omega
  have e:=US l hl hz l.length ah 0 (by have:=bq;omega) (by omega);rw[show((0:Nat):Int)=0 from rfl]at e;simp only[ak,e];cases pI l l.length 0<;>rfl
 ·rfl
theorem alX(x q:ai):((q.Name==x.Name)&&(q.Version==x.Version))=lg x q:=by
 unfold lg;rw[BEq.comm,BEq.comm (a:=q.Version)]
theorem UT(l:List ai)(hl:l.length<=8)(i:Nat)(hi:i<l.length):∀(n f k:Nat),n<f->k+n=i->M.vx l (i:Int) f (k:Int)=some (bif((l.take i).drop k).any (lg l[i])then .inl 1 else .inr (l,(i:Int)))
 |n,0,k,h,_=>by omega
 |0,f+1,k,h,hk=>by
  have hki:k=i:=by omega
  subst hki;rw[M.vx,List.drop_eq_nil_of_le (by rw[ni];omega)];have:decide ((k:Int)<(k:Int))=false:=cQ (by omega);simp only[this,ak];rfl
 |n+1,f+1,k,h,hk=>by
  have q:k<i:=by omega
  have hkl:k<l.length:=by omega
  have ih:=UT l hl i hi n f (k+1) (by omega) (by omega);have hd:(l.take i).drop k=l[k]::(l.take i).drop (k+1):=by
   have hk2:k<(l.take i).length:=by rw[ni];omega
   rw[jf hk2,List.getElem_take]
  rw[M.vx,hd,List.any_cons,<-alX];simp only[eK q,bP,dy _ hkl,dy _ hi,ad,dB hkl,dB hi,bo,al,bS q (by omega:i<2^62),ih];cases ((l[k].Name==l[i].Name)&&(l[k].Version==l[i].Version))<;>rfl
theorem UU(l:List ai)(hl:l.length<=8)(hz:∀x∈l,x.sz<=1048576):∀(n f k:Nat),n<f->k+n=l.length->M.vy f l (k:Int)=some (bif pI l n k then .inr ()else .inl 1)
 |n,0,k,h,_=>by omega
 |0,f+1,k,h,hk=>by
  rw[M.vy,pI];simp only[iR (show l.length<=k by omega),ak,ad]
 |n+1,f+1,k,h,hk=>by
  have q:k<l.length:=by omega
  have ih:=UU l hl hz n f (k+1) (by omega) (by omega);rw[M.vy,pI];have e1:=(UQ l[k] (hz _ (cw q))).2.1;have e2:=UT l hl k q k ah 0 (by have:=bq;omega) (by omega);rw[show((0:Nat):Int)=0 from rfl,gX]at e2;have eg:Bm l k=(iI l[k] (iT dh l[k])&& !((l.take k).any (lg l[k]))):=by unfold Bm okB;rw[dy _ q]
  rw[eg];simp only[eK q,bP,dy _ q,e1,e2,av,aw,dB q,al,ad];cases iI l[k] (iT dh l[k])
  ·rfl
  ·cases (l.take k).any (lg l[k])
   ·simp only[bM,ak,bw,al,bA,bS q (by omega:l.length<2^62),ih]
   ·rfl
theorem alY(l:List ai)(hz:∀x∈l,x.sz<=1048576):M.Bq l=some (nX l):=by
 unfold M.Bq nX;cases hc:decide ((8:Int)<((l.length:Nat):Int))
 ·have hl:l.length<=8:=by have:=of_decide_eq_false hc;omega
  have e:=UU l hl hz l.length ah 0 (by have:=bq;omega) (by omega);rw[show((0:Nat):Int)=0 from rfl]at e;simp only[ak,e];cases pI l l.length 0<;>rfl
 ·rfl
end M
namespace M
open Go.V (inB bV az ah bq)
def F7(s:List UInt8):Int×Bool:=match cK.ig s with
 |some n=>((n:Int),true)
 |none=>(0,false)
def F8(s:List UInt8):Int:=match cK.ov s with
 |some n=>(n:Int)
 |none=> -1
theorem F9(s:List UInt8)(h:s.length<=1048576):M.m5 s=some (F7 s):=by
 have hs:M.strings_Split s [46]=some (cK.d6 s):=by
  unfold M.strings_Split;have:decide (s.length<4294967281)=true:=by rw[bU];omega
  rw[this];rfl
 have hrd:∀p∈cK.d6 s,M.mG p=some (M.dX p):=fun p hp=>by
  have:=UW s p hp;unfold M.mG;have:decide (p.length<=281474976710656)=true:=by rw[bU];omega
  rw[this];rfl
 unfold M.m5 F7 cK.ig;rw[hs];simp only[av,aw,bA,cT,ad]
 match hp:cK.d6 s,hrd with
 |[],_=>rfl
 |[a],_=>rfl
 |[a,b],_=>rfl
 |a::b::c::d::r,_=>
  have:((((a::b::c::d::r).length:Nat):Int) !=3)=true:=by
   simp only[aU,yU];omega
  rw[this];rfl
 |[a,b,c],hrd=>
   have h3:((((([a,b,c]:List (List UInt8)).length:Nat):Int) !=3))=false:=rfl;rw[h3];simp only[ak];obtain⟨f0,hf0⟩:∃f0,ah=f0+4:=⟨ah-4,by have:=bq;omega⟩;have ra:=hrd a (by simp);have rb:=hrd b (by simp);have rc:=hrd c (by simp);have st:∀(f:Nat)(n:Int)(k:Nat)(p:List UInt8)(hk:k<3),([a,b,c].getD k [])=p->M.mG p=some (M.dX p)->M.lS [a,b,c] ((([a,b,c]:List (List UInt8)).length:Nat):Int) (f+1) n (k:Int)=
    bif((!(M.dX p).2)||(!(decide ((0:Int)<=(M.dX p).1)&&decide ((M.dX p).1<=999))))then some (.inl (0,false))else M.lS [a,b,c] ((([a,b,c]:List (List UInt8)).length:Nat):Int) f (Go.IntKind.wrap .i64 (Go.IntKind.wrap .i64 (n*1000)+(M.dX p).1)) ((k+1:Nat):Int):=fun f n k p hk hg hr=>by
    rw[M.lS];have hlt:decide ((k:Int)<((([a,b,c]:List (List UInt8)).length:Nat):Int))=true:=by simp;omega
    have hin:inB (k:Int) ([a,b,c]:List (List UInt8)).length=true:=by rw[dA];simp;omega
    simp only[hlt,ad,bP,hg,hr,av,aw,hin,bA,cT,bS (show k<3 from hk) (by omega)]
   have e0:=st (f0+3) 0 0 a (by omega) rfl ra;rw[hf0];change M.lS [a,b,c] ((([a,b,c]:List (List UInt8)).length:Nat):Int) (f0+4) 0 0=_ at e0;rw[e0];rcases yh a with⟨ha,ca⟩|⟨x,ha,hx,ea,ca⟩
   ·rw[ca,ha];rfl
   rw[ca,ha];have w1:Go.IntKind.wrap .i64 (Go.IntKind.wrap .i64 ((0:Int)*1000)+(M.dX a).1)=(x:Int):=by
    rw[ea,wrap_i64 (n:=0*1000) (by omega) (by omega),wrap_i64 (by omega) (by omega)];omega
   rw[ak,w1,st (f0+2) _ 1 b (by omega) rfl rb];rcases yh b with⟨hb,cb⟩|⟨y,hb,hy,eb,cb⟩
   ·rw[cb,hb];rfl
   rw[cb,hb];have w2:Go.IntKind.wrap .i64 (Go.IntKind.wrap .i64 ((x:Int)*1000)+(M.dX b).1)=((x*1000+y:Nat):Int):=by
    rw[eb,wrap_i64 (show -9223372036854775808<=(x:Int)*1000 by omega) (by omega),wrap_i64 (by omega) (by omega)];omega
   rw[ak,w2,st (f0+1) _ 2 c (by omega) rfl rc];rcases yh c with⟨hc,cc⟩|⟨z,hc,hz,ec,cc⟩
   ·rw[cc,hc];rfl
   rw[cc,hc];have w3:Go.IntKind.wrap .i64 (Go.IntKind.wrap .i64 (((x*1000+y:Nat):Int)*1000)+(M.dX c).1)=(((x*1000+y)*1000+z:Nat):Int):=by
    rw[ec,wrap_i64 (show -9223372036854775808<=((x*1000+y:Nat):Int)*1000 by omega) (by omega),wrap_i64 (by omega) (by omega)];omega
   rw[ak,w3,M.lS];rfl
theorem Ge(s:List UInt8):M.nY s=some (F8 s):=by
 unfold M.nY F8 cK.ov;have hl:=Gf s ah 0 0 0 0 0 (dL _) (by have:=bq;omega) ⟨by simp,ct _,fun _=>rfl,fun _=>rfl,fun h=>by omega,fun h=>by omega⟩;rw[gX]at hl;rcases hl with⟨e1,e2⟩|⟨m,q,e,m',e1,e2,hI⟩
 ·have e2':M.m6 s ah 0 0 0 0=_:=e2;rw[e1,e2']
 ·have e2':M.m6 s ah 0 0 0 0=_:=e2;rw[e1,e2'];simp only;have hq:q<1000000000000:=jU hI.fp (kG (Nat.pow_le_pow_right (by decide) (show min s.length 12<=12 by omega)) (by decide));by_cases he:e=2
  ·subst he;have hm:=hI.d2 rfl;have hw:Go.IntKind.wrap .i64 (m'+(q:Int))=((m+q:Nat):Int):=by
    rw[hI.eq (by omega),wrap_i64 (by omega) (by omega)];omega
   rw[hw];by_cases hc:q<=999/\m+q<1000000000
   ·have c1:((((2:Nat):Int) !=2)||decide ((999:Int)<(q:Int)))=false:=by
     rw[kD,eV];exact⟨rfl,by omega⟩
    have c2:(decide ((0:Int)<=((m+q:Nat):Int))&&decide (((m+q:Nat):Int)<=999999999))=true:=by
     rw[bB,bU,bU];omega
    rw[c1,c2,UX hc.2];by_cases ht:cK.jF (m+q)=s
    ·rw[ba ⟨rfl,hc.1,hc.2,ht⟩];simp[ht]
    ·rw[aX (fun h=>ht h.2.2.2)];have:(cK.jF (m+q)==s)=false:=by rw[cM];exact ht
     simp[this]
   ·rw[aX (fun h=>hc ⟨h.2.1,h.2.2.1⟩)];have c:(((((2:Nat):Int) !=2)||decide ((999:Int)<(q:Int)))|| !(decide ((0:Int)<=((m+q:Nat):Int))&&decide (((m+q:Nat):Int)<=999999999)))=true:=by
     rw[gi,gi,bU,fK,Bool.and_eq_false_iff,eV,eV];omega
    rw[c];simp
  ·rw[aX (fun h=>he h.1)];have c:((((e:Nat):Int) !=2))=true:=by rw[yU];omega
   rw[c];simp
end M
namespace M
open Go.V (inB bV az ah bq)
def tg(h w:List UInt8):Bool:=match cK.ig h,cK.ig w with
 |some x,some y=>bif decide ((x:Int)<(y:Int))||((Go.IntKind.wrap .i64 (Int.tdiv (x:Int) 1000000)) !=(Go.IntKind.wrap .i64 (Int.tdiv (y:Int) 1000000)))then false
  else decide ((1000000:Int)<=(x:Int))||((Go.IntKind.wrap .i64 (Int.tdiv (x:Int) 1000))==(Go.IntKind.wrap .i64 (Int.tdiv (y:Int) 1000)))
 |_,_=>false
def tj(a b:List UInt8):Bool:=match cK.ig a,cK.ig b with
 |some x,some y=>decide ((y:Int)<(x:Int))
 |_,_=>false
theorem UY:((1000000:Int) !=0)=true:=rfl
theorem UZ:((1000:Int) !=0)=true:=rfl
theorem alZ(h w:List UInt8)(h1:h.length<=1048576)(h2:w.length<=1048576):M.Br h w=some (tg h w):=by
 unfold M.Br tg;simp only[F9 h h1,F9 w h2,av,aw,UY,UZ,bo,al,ad];unfold F7;cases cK.ig h with
 |none=>rfl
 |some x=>
  cases cK.ig w with
  |none=>rfl
  |some y=>simp only[bM,kH,jV];exact Np _ _ _
theorem Gg(s:List UInt8):F8 s=match cK.ig s with
 |some n=>(n:Int)
 |none=> -1:=by unfold F8;rw[cK.Po];try (cases cK.ov s<;>rfl)
theorem nn(n:Nat):decide ((n:Int)<0)=false:=cQ (by omega)
theorem Gh:decide ((-1:Int)<0)=true:=rfl
theorem al0(h w:List UInt8):M.Bt h w=some (tg h w):=by
 unfold M.Bt tg;simp only[Ge h,Ge w,av,aw,UY,UZ,bo,al,ad];rw[Gg,Gg];cases cK.ig h with
 |none=>simp only[Gh,bo,ad]
 |some x=>
  cases cK.ig w with
  |none=>simp only[Gh,bo,dT,ad]
  |some y=>simp only[nn,kH,jV];exact Np _ _ _
theorem ne_self(x:Int):(x !=x)=false:=by rw[bne_eq_false_iff_eq]
theorem al1(a b:List UInt8)(h1:a.length<=1048576)(h2:b.length<=1048576):M.Bv a b=some (tj a b):=by
 unfold M.Bv M.Gi tj;simp only[F9 a h1,F9 b h2,av,aw,al,ad];unfold F7 M.Gj;cases cK.ig a with
 |none=>rfl
 |some x=>
  cases cK.ig b with
  |none=>rfl
  |some y=>
   simp only[bM,kH,ak,ne_self];by_cases c1:(x:Int)<(y:Int)
   ·rw[db c1,cQ (show ¬(y:Int)<(x:Int) by omega)];rfl
   ·rw[cQ c1];by_cases c2:(y:Int)<(x:Int)
    ·rw[db c2];rfl
    ·rw[cQ c2];rfl
theorem al2(a b:List UInt8):∃c e:Int,M.By a b=some (c,e)/\decide (c<=0)= !tj a b:=by
 unfold M.By tj;simp only[Ge a,Ge b,av,aw,al,ad];rw[Gg,Gg];cases cK.ig a with
 |none=>exact⟨0,14,by simp only[Gh,bo,ad],rfl⟩
 |some x=>
  cases cK.ig b with
  |none=>exact⟨0,14,by simp only[Gh,dT,ad],rfl⟩
  |some y=>
   simp only[nn,kH,ak];by_cases c1:(x:Int)<(y:Int)
   ·rw[db c1,cQ (show ¬(y:Int)<(x:Int) by omega)];exact⟨-1,0,rfl,rfl⟩
   ·rw[cQ c1];by_cases c2:(y:Int)<(x:Int)
    ·rw[db c2];exact⟨1,0,rfl,rfl⟩
    ·rw[cQ c2];exact⟨0,0,rfl,rfl⟩
def Bz(l:List ai)(name want:List UInt8)(s:Int×Bool)(k:Nat):Int×Bool:=
 bif !((l.getD k ai.zero).Name==name)then s
 else bif(!(want==[]))&& !tg (l.getD k ai.zero).Version want then(s.1,true)
 else bif decide (s.1<0)||tj (l.getD k ai.zero).Version (l.getD s.1.toNat ai.zero).Version then((k:Int),true)else(s.1,true)
def lT(l:List ai)(name want:List UInt8):Nat->Nat->Int×Bool->Int×Bool
 |0,_,s=>s
 |n+1,k,s=>lT l name want n (k+1) (Bz l name want s k)
def tl(k:Nat)(b:Int):Prop:=b= -1\/(0<=b/\b<(k:Int))
theorem NC(l:List ai)(name want:List UInt8)(s:Int×Bool)(k:Nat)(h:tl k s.1):tl (k+1) (Bz l name want s k).1:=by
 have up:tl (k+1) s.1:=h.imp id fun⟨a,b⟩=>⟨a,by omega⟩
 unfold Bz;cases (l.getD k ai.zero).Name==name
 ·exact up
 ·cases ((!(want==[]))&& !tg (l.getD k ai.zero).Version want)
  ·cases (decide (s.1<0)||tj (l.getD k ai.zero).Version (l.getD s.1.toNat ai.zero).Version)
   ·exact up
   ·exact .inr ⟨by show(0:Int)<=(k:Int);omega,by show(k:Int)<((k+1:Nat):Int);omega⟩
  ·exact up
theorem Gk(l:List ai)(name want:List UInt8):∀(n k:Nat)(s:Int×Bool),tl k s.1->tl (k+n) (lT l name want n k s).1
 |0,k,s,h=>h
 |n+1,k,s,h=>by
  have:=Gk l name want n (k+1) _ (NC l name want s k h);rw[show k+1+n=k+(n+1) by omega]at this;exact this
theorem ND(l:List ai)(hz:∀x∈l,x.sz<=1048576)(k:Nat):(l.getD k ai.zero).Version.length<=1048576:=by
 rcases cN k l.length with q|q
 ·rw[dy _ q];have h1:=hz _ (cw q);have h2:=ai.cf l[k];omega
 ·rw[gd,jS q];show([]:List UInt8).length<=1048576
  simp
theorem BB{l:List ai}{k:Nat}{b:Int}(h:tl k b)(hk:k<=l.length)(hb:¬b<0):inB b l.length=true:=by
 rcases h with rfl|⟨h1,h2⟩
 ·omega
 ·unfold inB;rw[bB,bU,bU];omega
theorem U0(l:List ai)(name want:List UInt8)(hl:l.length<=8)(hz:∀x∈l,x.sz<=1048576)(hw:want.length<=1048576):∀(n f k:Nat)(b:Int)(m:Bool),n<f->k+n=l.length->tl k b->
 M.rh l name want l ((l.length:Nat):Int) f b m (k:Int)=some (l,want,(lT l name want n k (b,m)).1,(lT l name want n k (b,m)).2)
 |n,0,k,b,m,h,_,_=>by omega
 |0,f+1,k,b,m,h,hk,_=>by
  rw[M.rh,lT];simp only[iR (show l.length<=k by omega),ak]
 |n+1,f+1,k,b,m,h,hk,hb=>by
  have q:k<l.length:=by omega
  have ih:=fun b' m' hb'=>U0 l name want hl hz hw n f (k+1) b' m' (by omega) (by omega) hb'
  have hst:=NC l name want (b,m) k hb;rw[M.rh,lT];have e1:=alZ (l.getD k ai.zero).Version want (ND l hz k) hw;have e2:=al1 (l.getD k ai.zero).Version (l.getD b.toNat ai.zero).Version (ND l hz k) (ND l hz _);have wk:=bS q (by omega:l.length<2^62);have hin:(inB b l.length|| !((decide (b<0))==false))=true:=by
   by_cases c:b<0
   ·rw[db c];simp
   ·rw[BB hb (by omega) c];rfl
  have hor:∀a c:Bool,a=true->((a|| !c)&&(a||c))=true:=fun a c e=>by rw[e];rfl
  simp only[eK q,bP,ad,e1,e2,av,aw,dB q,bo,al,hin,wk];unfold Bz at hst⊢;cases c1:((l.getD k ai.zero).Name==name)
  ·rw[c1]at hst;simp only[bw,ad]at hst⊢;exact ih b m hst
  ·rw[c1]at hst;simp only[bM,ak]at hst⊢;cases c2:((!(want==[]))&& !tg (l.getD k ai.zero).Version want)
   ·rw[c2]at hst;simp only[ak]at hst⊢;cases c3:(decide (b<0)||tj (l.getD k ai.zero).Version (l.getD b.toNat ai.zero).Version)
    ·rw[c3]at hst;simp only[ak]at hst⊢;exact ih b true hst
    ·rw[c3]at hst;simp only[ad]at hst⊢;exact ih (k:Int) true hst
   ·rw[c2]at hst;simp only[ad]at hst⊢;exact ih b true hst
theorem U1(l:List ai)(name want:List UInt8)(hl:l.length<=8):∀(n f k:Nat)(b:Int)(m:Bool),n<f->k+n=l.length->tl k b->
 M.nZ l name want f b m (k:Int)=some (l,want,(lT l name want n k (b,m)).1,(lT l name want n k (b,m)).2)
 |n,0,k,b,m,h,_,_=>by omega
 |0,f+1,k,b,m,h,hk,_=>by
  rw[M.nZ,lT];simp only[iR (show l.length<=k by omega),ak]
 |n+1,f+1,k,b,m,h,hk,hb=>by
  have q:k<l.length:=by omega
  have ih:=fun b' m' hb'=>U1 l name want hl n f (k+1) b' m' (by omega) (by omega) hb'
  have hst:=NC l name want (b,m) k hb;rw[M.nZ,lT];have e1:=al0 (l.getD k ai.zero).Version want;obtain⟨c,e,e2,e3⟩:=al2 (l.getD k ai.zero).Version (l.getD b.toNat ai.zero).Version;have wk:=bS q (by omega:l.length<2^62);simp only[eK q,bP,ad,e1,e2,e3,av,aw,dB q,bo,al,wk];unfold Bz at hst⊢;cases c1:((l.getD k ai.zero).Name==name)
  ·rw[c1]at hst;simp only[bw,ad]at hst⊢;exact ih b m hst
  ·rw[c1]at hst;simp only[bM,ak]at hst⊢;cases c2:((!(want==[]))&& !tg (l.getD k ai.zero).Version want)
   ·rw[c2]at hst;simp only[ak]at hst⊢;by_cases c0:b<0
    ·rw[db c0]at hst⊢;rw[cQ (show ¬(0:Int)<=b by omega)];simp only[bo,ad,ak]at hst⊢;exact ih (k:Int) true hst
    ·rw[cQ c0]at hst⊢;rw[db (show(0:Int)<=b by omega),BB hb (by omega) c0];simp only[jV,ad,al]at hst⊢;cases c3:tj (l.getD k ai.zero).Version (l.getD b.toNat ai.zero).Version
     ·rw[c3]at hst;simp only[bw,ad,ak]at hst⊢;exact ih b true hst
     ·rw[c3]at hst;simp only[bM,ad,ak]at hst⊢;exact ih (k:Int) true hst
   ·rw[c2]at hst;simp only[ad]at hst⊢;exact ih b true hst
def kA(l:List ai)(name want:List UInt8):Int×Int×Int:=
 let s:=lT l name want l.length 0 (-1,false)
 bif !s.2 then(0,0,3)else bif decide (s.1<0)then(0,0,14)else bif want==[]then(s.1,4,0)else bif(l.getD s.1.toNat ai.zero).Version==want then(s.1,2,0)else(s.1,3,0)
theorem al3(l:List ai)(name want:List UInt8)(hl:l.length<=8):M.BC l name want=some (kA l name want):=by
 unfold M.BC kA;have e:=U1 l name want hl l.length ah 0 (-1) false (by have:=bq;omega) (by omega) (.inl rfl);have hin:=Gk l name want l.length 0 (-1,false) (.inl rfl);rw[show((0:Nat):Int)=0 from rfl,show(-1:Int)= -(1:Int)from rfl]at e;rw[e];rw[show(-(1:Int))=(-1:Int)from rfl];generalize lT l name want l.length 0 (-1,false)=s at*;simp only;cases s.2
 ·rfl
 ·by_cases c:s.1<0
  ·rw[db c];rfl
  ·rw[cQ c,BB hin (by omega) c];cases (want==[])<;>cases ((l.getD s.1.toNat ai.zero).Version==want)<;>rfl
def Gl(l:List ai)(name want:List UInt8):Int×Int×Int:=bif(!(want==[]))&& !km want then(0,0,1)else kA l name want
theorem al4(l:List ai)(name want:List UInt8)(hl:l.length<=8)(hz:∀x∈l,x.sz<=1048576)(hw:want.length<=1048576):M.BD l name want=some (Gl l name want):=by
 unfold M.BD Gl;simp only[MQ want hw,av,aw,bo,al,ad];cases ((!(want==[]))&& !km want)
 ·simp only[ak];unfold kA;have e:=U0 l name want hl hz hw l.length ah 0 (-1) false (by have:=bq;omega) (by omega) (.inl rfl);have hin:=Gk l name want l.length 0 (-1,false) (.inl rfl);rw[show((0:Nat):Int)=0 from rfl,show(-1:Int)= -(1:Int)from rfl]at e;rw[e];rw[show(-(1:Int))=(-1:Int)from rfl];generalize lT l name want l.length 0 (-1,false)=s at*;simp only;cases s.2
  ·rfl
  ·by_cases c:s.1<0
   ·rw[db c];rfl
   ·rw[cQ c,BB hin (by omega) c];cases (want==[])<;>cases ((l.getD s.1.toNat ai.zero).Version==want)<;>rfl
 ·rfl
theorem al5{l:List ai}(h:(nX l !=0)=false):l.length<=8:=by
 unfold nX at h;cases hc:decide ((8:Int)<((l.length:Nat):Int))<;>rw[hc]at h
 ·have:=of_decide_eq_false hc;omega
 ·exact absurd h (by show ¬(((4:Int) !=0)=false);decide)
end M
namespace M
open Go.V (inB bV az ah bq)
theorem U2(l:List ai)(name want:List UInt8)(h:((kA l name want).2.2 !=0)=false):inB (kA l name want).1 l.length=true:=by
 unfold kA at h⊢;have hin:=Gk l name want l.length 0 (-1,false) (.inl rfl);generalize lT l name want l.length 0 (-1,false)=s at*;simp only at h⊢;cases c1:s.2<;>rw[c1]at h
 ·exact absurd h (by show ¬(((3:Int) !=0)=false);decide)
 ·by_cases c:s.1<0
  ·rw[db c]at h;exact absurd h (by show ¬(((14:Int) !=0)=false);decide)
  ·have e:inB s.1 l.length=true:=BB hin (by omega) c;rw[cQ c];cases (want==[])<;>cases ((l.getD s.1.toNat ai.zero).Version==want)<;>exact e
def pJ(p:aQ):Bool:=ib p.Name&&((p.aJ==[]&&p.Version==[])||ib p.aJ)&&(p.Version==[]||km p.Version)
theorem U3(p:aQ)(h:pJ p=true):(p.aJ=[]->p.Version=[])/\((!(p.Version==[]))&& !km p.Version)=false:=by
 unfold pJ at h;refine⟨fun e=>?_,?_⟩
 ·rw[e]at h;have:ib []=false:=rfl;rw[this]at h;simp only[ln,bB,cA]at h;exact h.1.2.2
 ·rw[bB]at h;have h3:=h.2;cases e1:(p.Version==[])<;>cases e2:km p.Version<;>rw[e1,e2]at h3<;>first|rfl|exact absurd h3 (by decide)
def tn(l:List ai)(k:Int)(p:aQ):Int×dr×cJ:=
 bif p.aJ==[]then(k,dr.mk p (l.getD k.toNat ai.zero).Version 1,cJ.mk 0 [])
 else bif(kA l p.aJ p.Version).2.2 !=0 then(0,dr.mk (aQ.mk [] [] []) [] 0,cJ.mk (kA l p.aJ p.Version).2.2 (dh p))
 else((kA l p.aJ p.Version).1,dr.mk p (l.getD (kA l p.aJ p.Version).1.toNat ai.zero).Version (kA l p.aJ p.Version).2.1,cJ.mk 0 [])
theorem al6(l:List ai)(k:Int)(p:aQ)(hl:l.length<=8)(hk:inB k l.length=true)(hp:p.sz<=1048576)(hf:p.aJ=[]->p.Version=[]):M.BE l k p=some (tn l k p):=by
 unfold M.BE tn;have e2:=Nb p hp;rw[Nc p hf]at e2;have e1:=al3 l p.aJ p.Version hl;have hin:=U2 l p.aJ p.Version;simp only[e1,e2,hk,av,aw,al,ad];cases h1:(p.aJ==[])
 ·simp only[ak];cases h2:((kA l p.aJ p.Version).2.2 !=0)
  ·simp only[hin h2,ak,al,ad]
  ·simp only[ad]
 ·simp only[ad]
theorem al7(l:List ai)(k:Int)(p:aQ)(hl:l.length<=8)(hz:∀x∈l,x.sz<=1048576)(hk:inB k l.length=true)(hp:p.sz<=1048576)(hf:((!(p.Version==[]))&& !km p.Version)=false):M.BF k p l=some ((tn l k p).1,(tn l k p).2.1,(tn l k p).2.2,l):=by
 unfold M.BF tn;have hs:=aQ.cf p;have e2:=Na p hp;have e1:=al4 l p.aJ p.Version hl hz (by omega);have e3:Gl l p.aJ p.Version=kA l p.aJ p.Version:=by unfold Gl;rw[hf];rfl
 rw[e3]at e1;have hin:=U2 l p.aJ p.Version;simp only[e1,e2,av,aw,al,ad];cases h1:(p.aJ==[])
 ·simp only[ak,bw,ad];cases h2:((kA l p.aJ p.Version).2.2 !=0)
  ·simp only[hin h2,ak,al,ad,bo,dT]
  ·simp only[ad,bo,al]
 ·have z:((0:Int) !=0)=false:=rfl;simp only[bM,ad,ak,z,hk,bo,dT,al]
theorem al8(p:aQ)(hp:p.sz<=1048576):M.BG p=some (pJ p):=by
 unfold M.BG pJ;have hs:=aQ.cf p;simp only[E1 p.Name (by omega),E1 p.aJ (by omega),MQ p.Version (by omega),av,aw,bo,al,ad]
theorem al9(p:aQ)(hp:p.sz<=1048576):M.BH p=some (pJ p):=by
 have hs:=aQ.cf p;have n1:M.mI p.Name=some (ib p.Name):=by unfold M.mI;rw[MN _ (by omega)];rfl
 have n2:M.mI p.aJ=some (ib p.aJ):=by unfold M.mI;rw[MN _ (by omega)];rfl
 unfold M.BH pJ;simp only[n1,n2,Tn,av,aw,bo,al,ad];cases hq:(p.aJ==[])
 ·cases ib p.Name<;>cases ib p.aJ<;>cases (p.Version==[])<;>cases km p.Version<;>rfl
 ·have e:p.aJ=[]:=cA.1 hq;have e2:ib []=false:=rfl;rw[e,e2];cases ib p.Name<;>cases (p.Version==[])<;>cases km p.Version<;>rfl
noncomputable def oa(l:List ai)(k:Int):Int:=bif nX l !=0 then nX l else bif !(decide (0<=k)&&decide (k<=Go.IntKind.wrap Go.IntKind.i64 (((l.length:Nat):Int)-1)))then 2 else 0
theorem ama(l:List ai)(k:Int)(hz:∀x∈l,x.sz<=1048576):M.BI l k=some (cJ.mk (oa l k) []):=by
 unfold M.BI oa;simp only[alW l hz,av,aw,al,ad];cases (nX l !=0)
 ·cases (!(decide (0<=k)&&decide (k<=Go.IntKind.wrap Go.IntKind.i64 (((l.length:Nat):Int)-1))))<;>rfl
 ·rfl
theorem amb(l:List ai)(k:Int)(hz:∀x∈l,x.sz<=1048576):M.BJ l k=some (cJ.mk (oa l k) []):=by
 unfold M.BJ oa;simp only[alY l hz,av,aw,al,ad];cases (nX l !=0)
 ·cases (!(decide (0<=k)&&decide (k<=Go.IntKind.wrap Go.IntKind.i64 (((l.length:Nat):Int)-1))))<;>rfl
 ·rfl
theorem U4(l:List ai)(k:Int)(h:(oa l k !=0)=false):l.length<=8/\inB k l.length=true:=by
 unfold oa at h;cases hc:(nX l !=0)
 ·have hl:=al5 hc;rw[hc]at h;refine⟨hl,?_⟩;cases hd:(decide (0<=k)&&decide (k<=Go.IntKind.wrap Go.IntKind.i64 (((l.length:Nat):Int)-1)))
  ·rw[hd]at h;exact absurd h (by show ¬(((2:Int) !=0)=false);decide)
  ·rw[wrap_i64 (by omega) (by omega),bB,bU,bU]at hd;unfold inB;rw[bB,bU,bU];omega
 ·rw[hc]at h;simp only[ad]at h;rw[h]at hc;exact absurd hc (by decide)
noncomputable def yi(l:List ai)(k:Int)(p:aQ):Int×dr×cJ:=
 bif oa l k !=0 then(0,dr.mk (aQ.mk [] [] []) [] 0,cJ.mk (oa l k) [])
 else bif !pJ p then(0,dr.mk (aQ.mk [] [] []) [] 0,cJ.mk 1 [])
 else tn l k p
theorem amc(l:List ai)(k:Int)(p:aQ)(hz:∀x∈l,x.sz<=1048576)(hp:p.sz<=1048576):M.BK l k p=some (yi l k p):=by
 unfold M.BK yi;simp only[amb l k hz,al9 p hp,av,aw,al,ad];cases h1:(oa l k !=0)
 ·obtain⟨hl,hk⟩:=U4 l k h1;simp only[ak];cases h2:pJ p
  ·rfl
  ·simp only[al6 l k p hl hk hp (U3 p h2).1,bM,ak,av,aw,al,ad]
 ·rfl
theorem amd(l:List ai)(k:Int)(p:aQ)(hz:∀x∈l,x.sz<=1048576)(hp:p.sz<=1048576):M.BL l k p=some (yi l k p):=by
 unfold M.BL yi;simp only[ama l k hz,al8 p hp,av,aw,al,ad];cases h1:(oa l k !=0)
 ·obtain⟨hl,hk⟩:=U4 l k h1;simp only[ak];cases h2:pJ p
  ·rfl
  ·have e:M.NF l=some l:=rfl;simp only[e,al7 l k p hl hz hk hp (U3 p h2).2,bM,ak,av,aw,al,ad]
 ·rfl
theorem ame(a:dr)(h:a.Path.sz<=1048576):M.BM a a=some true:=by
 unfold M.BM;simp only[NG a.Path h,ne_self,da,av,aw,bM,ak,al,ad]
theorem amf(a:cJ):M.BN a a=some true:=by
 unfold M.BN;simp only[ne_self,da,bM,ak]
theorem amg(l:List ai)(k:Int)(p:aQ)(hp:p.sz<=1048576):(yi l k p).2.1.Path.sz<=1048576:=by
 have hz:(aQ.mk [] [] []).sz<=1048576:=by decide
 unfold yi tn;cases (oa l k !=0)
 ·cases pJ p
  ·exact hz
  ·cases (p.aJ==[])
   ·cases ((kA l p.aJ p.Version).2.2 !=0)
    ·exact hp
    ·exact hz
   ·exact hp
 ·exact hz
theorem amh(l:List ai)(k:Int)(p:aQ)(ok:gn ai.Ok l)(okp:p.Ok):M.BO l k p=some true:=by
 unfold M.BO;have e:=amj l 1048576 ok (by omega) (by omega);by_cases hs:((aT ai.sz l:Nat):Int)<=1048576
 ·have hx:aT ai.sz l<=1048576:=by omega
  rw[ba hs]at e;have hz:∀x∈l,x.sz<=1048576:=fun x hm=>kG (dK ai.sz l x hm) hx
  have e0:=NH p (1048576-((aT ai.sz l:Nat):Int)) okp (by omega) (by omega);by_cases hq:(p.sz:Int)<=1048576-((aT ai.sz l:Nat):Int)
  ·rw[ba hq]at e0;have hp:p.sz<=1048576:=by omega
   simp only[e,e0,amk l hx,amd l k p hz hp,amc l k p hz hp,ame _ (amg l k p hp),amf,ne_self,aml l hx,av,aw,cQ (show ¬(1048576:Int)-((aT ai.sz l:Nat):Int)<0 by omega),cQ (show ¬(1048576:Int)-((aT ai.sz l:Nat):Int)-(p.sz:Int)<0 by omega),ak,kH,bM,bo,al,ad]
  ·rw[aX hq]at e0;simp only[e,e0,av,aw,cQ (show ¬(1048576:Int)-((aT ai.sz l:Nat):Int)<0 by omega),ak,al,ad];rfl
 ·rw[aX hs]at e;simp only[e,av,aw,al,ad];rfl
end M
