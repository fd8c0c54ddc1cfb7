/-
  EQUALITY of terms, on both sides.
-/
import Derived.Test.YtghkckfhaljjjaaGreatDoorXXPb
import Derived.Test.YtghkckfhaljjjaaGreatDoorXYCH
import Derived.Lib.Join
import Derived.Test.YtghkckfhaljjjaaGreatDoorXXTF
set_option linter.unusedVariables false
set_option linter.unusedSimpArgs false
namespace M
open Go.V (inB cg ad bz)
def fE:Nat->aa->aa->Bool
 |0,_,_=>false
 |n+1,a,b=>((a.Kind==b.Kind)&&(a.Name==b.Name))&&(dM (· ==·) a.bj b.bj&&dM (fE n) a.Kids b.Kids)
def kO:Nat->aa->Prop
 |0,_=>False
 |n+1,t=>∀x∈t.Kids,kO n x
theorem qG{α:Type}{p:α->α->Bool}:∀(a b:List α),(∀x∈a,∀y,p x y=true->x=y)->dM p a b=true->a=b
 |[],[],_,_=>rfl
 |[],_::_,_,h=>by cases h
 |_::_,[],_,h=>by cases h
 |x::a,y::b,hp,h=>by
  rw[dM,cG]at h;rw[hp x (by simp) y h.1,qG a b (fun z hz=>hp z (by simp[hz])) h.2]
theorem LC:∀(n:Nat)(a b:aa),fE n a b=true->a=b
 |0,_,_,h=>by cases h
 |n+1,a,b,h=>by
  rw[fE,cG,cG,cG]at h;obtain⟨⟨h1,h2⟩,h3,h4⟩:=h;have e3:=qG _ _ (fun x _ y q=>cK.1 q) h3;have e4:=qG _ _ (fun x _ y q=>LC n x y q) h4;have e1:=cK.1 h1;have e2:=cK.1 h2;cases a;cases b;cases e1;cases e2;cases e3;cases e4;rfl
theorem EN:∀(n:Nat)(a:aa),kO n a->fE n a a=true
 |0,_,h=>h.elim
 |n+1,a,h=>by
  rw[fE,df,df,qH a.bj (fun x _=>df x),qH a.Kids (fun x hx=>EN n x (h x hx))];rfl
theorem aa.Am{a x:aa}(h:x∈a.Kids):x.sz<a.sz:=by
 rw[aa.cu a];have:=EO aa.sz _ _ h;omega
theorem LD:∀(n:Nat)(a:aa),a.sz<n->kO n a
 |0,_,h=>absurd h (Dw _)
 |n+1,a,h=>fun x hx=>LD n x (by have:=aa.Am hx;omega)
theorem aa.R9{a:aa}{N:Nat}(h:a.sz<=N):a.bj.length<=N:=by
 rw[aa.cu]at h;have:=de List.length a.bj;omega
theorem aa.EP{a:aa}{N:Nat}(h:a.sz<=N):a.Kids.length<=N:=by
 rw[aa.cu]at h;have:=de aa.sz a.Kids;omega
theorem aiz(a b:List (List UInt8))(ha:a.length<=1048576):M.An a b=some (dM (· ==·) a b):=by
 unfold M.An;exact sx a b ha (fun f k hl h h'=>by
  rw[M.xy];simp only[getD_lt h,getD_lt h',bw,dD,kD,h,h',bZ h (dY ha),ed,dB,ae];cases a[k]==b[k]<;>rfl) (fun f=>by rw[M.xy];simp)
theorem Si:∀(m:Nat)(a b:aa)(n:Nat),n<=100->n<m->a.sz<=1048576->M.u0 m a b (n:Int)=some (fE n a b)
 |0,a,b,n,h1,h2,h3=>absurd h2 (Dw _)
 |m+1,a,b,n,h1,h2,h3=>by
  show M.ER (M.u0 m) a b _=_
  unfold M.ER;rw[aiz _ _ (aa.R9 h3)];cases n with
  |zero=>rfl
  |succ n=>
   have hk:a.Kids.length<=1048576:=aa.EP h3;have d:(((n+1:Nat):Int)==0)=false:=by rw[cQ];omega
   have hw:Go.IntKind.wrap .i64 (((n+1:Nat):Int)-1)=(n:Int):=by rw[wrap_i64 (by omega) (by omega)];omega
   have kids:M.Ao (M.u0 m) a.Kids b.Kids ((n+1:Nat):Int)=some (dM (fE n) a.Kids b.Kids):=by
    unfold M.Ao;exact sx a.Kids b.Kids hk (fun f k hl h h'=>by
     rw[M.xz];have hx:=aa.Am (cE h);have:=Si m a.Kids[k] b.Kids[k] n (by omega) (by omega) (by omega);unfold M.ES;simp only[aa.aC,getD_lt h,getD_lt h',bw,dD,kD,h,h',bZ h (dY hk),hw,this,ed,dB,ae,aB,ay];cases fE n a.Kids[k] b.Kids[k]<;>rfl) (fun f=>by rw[M.xz];simp)
   simp only[d,kids,fE,bne,ay,aB,mm,cq,al,ae];cases (a.Kind==b.Kind)<;>cases (a.Name==b.Name)<;>cases dM (· ==·) a.bj b.bj<;>rfl
end M
namespace M
open Go.V (inB cg ad bz)
theorem sy{α β:Type}(a:List α)(b:List β):(((a.length:Nat):Int) !=((b.length:Nat):Int))= !decide (a.length=b.length):=by
 by_cases h:a.length=b.length
 ·rw[h,da rfl];simp
 ·have:(((a.length:Nat):Int) !=((b.length:Nat):Int))=true:=by rw[yN];omega
  rw[this,cA h];rfl
theorem Sj:∀(m:Nat)(a b:aa)(n:Nat),kO n a->n<=m->a.sz<=1048576->M.sB m a b=some (fE n a b)
 |0,a,b,n,h1,h2,h3=>by
  cases n with
  |zero=>exact h1.elim
  |succ n=>omega
 |m+1,a,b,n,h1,h2,h3=>by
  cases n with
  |zero=>exact h1.elim
  |succ n=>
   show M.ET (M.sB m) a b=_
   have hk:a.Kids.length<=1048576:=aa.EP h3;have hl:a.bj.length<=1048576:=aa.R9 h3;have labels:a.bj.length=b.bj.length->M.sC ad 0 a b=some (if dM (· ==·) a.bj b.bj then .inr (a,b)else .inl false):=fun hle=>
    qI (p:=(· ==·)) (F:=fun f i=>M.sC f i a b) (e:=(a,b)) a.bj b.bj hl hle (fun f k h h'=>by
     rw[M.sC];simp only[aa.aC,getD_lt h,getD_lt h',bw,dD,kD,h,h',bZ h (dY hl),ed,dB,ae];cases a.bj[k]==b.bj[k]<;>rfl) (fun f=>by rw[M.sC];simp[aa.aC])
   have kids:a.Kids.length=b.Kids.length->M.sD (M.sB m) ad 0 a b=some (if dM (fE n) a.Kids b.Kids then .inr ()else .inl false):=fun hle=>
    qI (p:=fE n) (F:=fun f i=>M.sD (M.sB m) f i a b) (e:=()) a.Kids b.Kids hk hle (fun f k h h'=>by
     rw[M.sD];have hx:=aa.Am (cE h);have:=Sj m a.Kids[k] b.Kids[k] n (h1 _ (cE h)) (by omega) (by omega);simp only[aa.aC,getD_lt h,getD_lt h',bw,dD,kD,h,h',bZ h (dY hk),this,ed,dB,ae,aB,ay];cases fE n a.Kids[k] b.Kids[k]<;>rfl) (fun f=>by rw[M.sD];simp)
   unfold M.ET;rw[fE,sy,sy];by_cases hle:a.bj.length=b.bj.length
   ·by_cases hke:a.Kids.length=b.Kids.length
    ·rw[da hle,da hke];simp only[bne,dT,lg,aa.aC,labels hle];cases (a.Kind==b.Kind)<;>cases (a.Name==b.Name)<;>cases hA:dM (· ==·) a.bj b.bj<;>simp[kids hke]<;>cases hB:dM (fE n) a.Kids b.Kids<;>simp
    ·rw[cA hke,oO _ _ _ hke];simp only[bu,iz,ae,Bool.and_false]
   ·rw[cA hle,oO _ _ _ hle];simp only[bu,iz,cq,ae,Bool.and_false,cL]
end M
namespace M
open Go.V (inB cg ad bz)
def mO(te:aa->aa->Bool)(x y:az):Bool:=(x.Name==y.Name)&&te x.Term y.Term
def oP(x y:aM):Bool:=(x.Name==y.Name)&&(x.As==y.As)
def mP(x y:bc):Bool:=(x.ba==y.ba)&&((x.Name==y.Name)&&(x.Version==y.Version))
def kP(te:aa->aa->Bool)(a b:ah):Bool:=((((((a.Kind==b.Kind)&&(a.Name==b.Name))&&te a.Term b.Term)&&(a.Async==b.Async))&&mP a.From b.From)&&dM oP a.Uses b.Uses)&&dM (mO te) a.Params b.Params
def mQ(te:aa->aa->Bool)(a b:aE):Bool:=(a.Name==b.Name)&&dM (kP te) a.Items b.Items
def oQ(a b:aH):Bool:=(a.Kind==b.Kind)&&mP a.Path b.Path
def mR(a b:aJ):Bool:=(a.Name==b.Name)&&dM oQ a.Items b.Items
def lG(te:aa->aa->Bool)(a b:aj):Bool:=(((a.Name==b.Name)&&(a.Version==b.Version))&&dM (mQ te) a.aF b.aF)&&dM mR a.Worlds b.Worlds
theorem aiA(a b:List aM)(ha:a.length<=1048576):M.Ap a b=some (dM oP a b):=by
 unfold M.Ap;exact sx a b ha (fun f k hl h h'=>by
  rw[M.xA];unfold oP;simp only[getD_lt h,getD_lt h',bw,dD,kD,h,h',bZ h (dY ha),ed,dB,ae];cases ((a[k].Name==b[k].Name)&&(a[k].As==b[k].As))<;>rfl) (fun f=>by rw[M.xA];simp)
theorem aiB(a b:List aH)(ha:a.length<=1048576):M.Aq a b=some (dM oQ a b):=by
 unfold M.Aq;exact sx a b ha (fun f k hl h h'=>by
  rw[M.xB];unfold oQ mP;simp only[getD_lt h,getD_lt h',bw,dD,kD,h,h',bZ h (dY ha),ed,dB,ae];cases ((a[k].Kind==b[k].Kind)&&((a[k].Path.ba==b[k].Path.ba)&&((a[k].Path.Name==b[k].Path.Name)&&(a[k].Path.Version==b[k].Path.Version))))<;>rfl) (fun f=>by rw[M.xB];simp)
theorem Sl(a b:aa)(h:a.sz<=1048576):M.xC a b 5=some (fE 5 a b):=Si ad a b 5 (by omega) (by have:=bz;omega) h
theorem aiC(x y:az)(h:x.Term.sz<=1048576):M.Ar x y=some (mO (fE 5) x y):=by
 unfold M.Ar mO;simp only[aa.aC,Sl _ _ h,ay,aB,cq,al,ae]
theorem aiD(a b:List az)(ha:a.length<=1048576)(hs:∀x∈a,x.Term.sz<=1048576):M.Au a b=some (dM (mO (fE 5)) a b):=by
 unfold M.Au;exact sx a b ha (fun f k hl h h'=>by
  rw[M.xE];simp only[az.aC,getD_lt h,getD_lt h',bw,dD,kD,h,h',bZ h (dY ha),aiC _ _ (hs _ (cE h)),ed,dB,ae,aB,ay];cases mO (fE 5) a[k] b[k]<;>rfl) (fun f=>by rw[M.xE];simp)
theorem aiE(a b:ah)(h:a.sz<=1048576):M.Av a b=some (kP (fE 5) a b):=by
 have hs:=ah.cu a;have l1:=de az.sz a.Params;have l2:=de aM.sz a.Uses;unfold M.Av kP mP;simp only[aa.aC,Sl a.Term b.Term (by omega),aiA a.Uses b.Uses (by omega),aiD a.Params b.Params (by omega) (fun x hx=>by
  have:=dL az.sz a.Params x hx;have:=az.cu x;omega),ay,aB,cq,al,dB,ae]
theorem aiF(a b:List ah)(ha:a.length<=1048576)(hs:∀x∈a,x.sz<=1048576):M.Aw a b=some (dM (kP (fE 5)) a b):=by
 unfold M.Aw;exact sx a b ha (fun f k hl h h'=>by
  rw[M.xF];simp only[ah.aC,getD_lt h,getD_lt h',bw,dD,kD,h,h',bZ h (dY ha),aiE _ _ (hs _ (cE h)),ed,dB,ae,aB,ay];cases kP (fE 5) a[k] b[k]<;>rfl) (fun f=>by rw[M.xF];simp)
theorem aiG(a b:aE)(h:a.sz<=1048576):M.Ax a b=some (mQ (fE 5) a b):=by
 have hs:=aE.cu a;have l1:=de ah.sz a.Items;unfold M.Ax mQ;simp only[aiF a.Items b.Items (by omega) (fun x hx=>by have:=dL ah.sz a.Items x hx;omega),ay,aB,cq,al,ae]
theorem aiH(a b:List aE)(ha:a.length<=1048576)(hs:∀x∈a,x.sz<=1048576):M.Az a b=some (dM (mQ (fE 5)) a b):=by
 unfold M.Az;exact sx a b ha (fun f k hl h h'=>by
  rw[M.xG];simp only[getD_lt h,getD_lt h',bw,dD,kD,h,h',bZ h (dY ha),aiG _ _ (hs _ (cE h)),ed,dB,ae,aB,ay];cases mQ (fE 5) a[k] b[k]<;>rfl) (fun f=>by rw[M.xG];simp)
theorem aiI(a b:aJ)(h:a.sz<=1048576):M.AA a b=some (mR a b):=by
 have hs:=aJ.cu a;have l1:=de aH.sz a.Items;unfold M.AA mR;simp only[aiB a.Items b.Items (by omega),ay,aB,cq,al,ae]
theorem aiJ(a b:List aJ)(ha:a.length<=1048576)(hs:∀x∈a,x.sz<=1048576):M.AB a b=some (dM mR a b):=by
 unfold M.AB;exact sx a b ha (fun f k hl h h'=>by
  rw[M.xH];simp only[getD_lt h,getD_lt h',bw,dD,kD,h,h',bZ h (dY ha),aiI _ _ (hs _ (cE h)),ed,dB,ae,aB,ay];cases mR a[k] b[k]<;>rfl) (fun f=>by rw[M.xH];simp)
theorem aiK(a b:aj)(h:a.sz<=1048576):M.AD a b=some (lG (fE 5) a b):=by
 have hs:=aj.cu a;have l1:=de aE.sz a.aF;have l2:=de aJ.sz a.Worlds;unfold M.AD lG;simp only[aiH a.aF b.aF (by omega) (fun x hx=>by have:=dL aE.sz a.aF x hx;omega),aiJ a.Worlds b.Worlds (by omega) (fun x hx=>by have:=dL aJ.sz a.Worlds x hx;omega),ay,aB,cq,al,ae]
end M
namespace M
open Go.V (inB cg ad bz)
def jh(a b:aa):Bool:=fE (a.sz+1) a b
theorem LF(a b:aa):jh a b=true↔a=b:=⟨LC _ _ _,fun h=>by subst h;exact EN _ _ (LD _ _ (by omega))⟩
theorem Sm(a b:aa)(h:a.sz<=1048576):M.AE a b=some (jh a b):=Sj ad a b (a.sz+1) (LD _ _ (by omega)) (by have:=bz;omega) h
theorem aiL(a b:ah)(h:a.sz<=1048576):M.AG a b=some (kP jh a b):=by
 have hs:=ah.cu a;have l1:=de az.sz a.Params;have l2:=de aM.sz a.Uses;have hp:a.Params.length<=1048576:=by omega
 have hu:a.Uses.length<=1048576:=by omega
 have params:a.Params.length=b.Params.length->M.sE ad 0 a b=some (if dM (mO jh) a.Params b.Params then .inr (a,b)else .inl false):=fun hle=>
  qI (p:=mO jh) (F:=fun f i=>M.sE f i a b) (e:=(a,b)) a.Params b.Params hp hle (fun f k h h'=>by
   have z1:=dL az.sz a.Params _ (cE h);have z2:=az.cu a.Params[k];rw[M.sE];unfold mO;simp only[ah.aC,aa.aC,getD_lt h,getD_lt h',bw,dD,kD,h,h',bZ h (dY hp),Sm _ _ (show a.Params[k].Term.sz<=1048576 by omega),ed,dB,cq,ae,aB,ay];cases (a.Params[k].Name==b.Params[k].Name)<;>cases jh a.Params[k].Term b.Params[k].Term<;>rfl) (fun f=>by rw[M.sE];simp[ah.aC])
 have uses:a.Uses.length=b.Uses.length->M.sF ad 0 a b=some (if dM oP a.Uses b.Uses then .inr ()else .inl false):=fun hle=>
  qI (p:=oP) (F:=fun f i=>M.sF f i a b) (e:=()) a.Uses b.Uses hu hle (fun f k h h'=>by
   rw[M.sF];unfold oP;simp only[ah.aC,getD_lt h,getD_lt h',bw,dD,kD,h,h',bZ h (dY hu),ed,dB,ae];cases (a.Uses[k].Name==b.Uses[k].Name)<;>cases (a.Uses[k].As==b.Uses[k].As)<;>rfl) (fun f=>by rw[M.sF];simp)
 unfold M.AG kP;rw[sy,sy];have aiM:(((a.From.ba==b.From.ba)&&((a.From.Name==b.From.Name)&&((a.From.Version==b.From.Version)&&true))))=mP a.From b.From:=by unfold mP;rw[dB]
 simp only[aa.aC,ah.aC,Sm a.Term b.Term (by omega),ay,aB,aiM,bne,cq,al];by_cases hle:a.Params.length=b.Params.length
 ·by_cases hue:a.Uses.length=b.Uses.length
  ·rw[da hle,da hue,params hle];cases hA:dM (mO jh) a.Params b.Params<;>cases hB:dM oP a.Uses b.Uses<;>simp[uses hue,hB,ah.aC]<;>cases (a.Kind==b.Kind)<;>cases (a.Name==b.Name)<;>cases jh a.Term b.Term<;>cases (a.Async==b.Async)<;>cases mP a.From b.From<;>rfl
  ·rw[cA hue,oO _ _ _ hue];simp only[bu,iz,ae,Bool.and_false,cL]
 ·rw[cA hle,oO _ _ _ hle];simp only[bu,iz,cq,ae,Bool.and_false,cL]
end M
namespace M
open Go.V (inB cg ad bz)
theorem aiN(a b:aj)(h:a.sz<=1048576)(hle:a.aF.length=b.aF.length):M.sG ad 0 a b=some (if dM (mQ jh) a.aF b.aF then .inr (a,b)else .inl false):=by
 have hs:=aj.cu a;have l1:=de aE.sz a.aF;have hf:a.aF.length<=1048576:=by omega
 refine qI (p:=mQ jh) (F:=fun f i=>M.sG f i a b) (e:=(a,b)) a.aF b.aF hf hle (fun f k h1 h2=>?_) (fun f=>by rw[M.sG];simp);have z1:=dL aE.sz a.aF _ (cE h1);have z2:=aE.cu a.aF[k];have z3:=de ah.sz a.aF[k].Items;have hi:a.aF[k].Items.length<=1048576:=by omega
 have inner:a.aF[k].Items.length=b.aF[k].Items.length->M.sH (k:Int) a b ad 0=some (if dM (kP jh) a.aF[k].Items b.aF[k].Items then .inr ((k:Int),a,b)else .inl false):=fun gv=>
  qI (p:=kP jh) (F:=fun f j=>M.sH (k:Int) a b f j) (e:=((k:Int),a,b)) a.aF[k].Items b.aF[k].Items hi gv (fun f j g1 g2=>by
   have y1:=dL ah.sz a.aF[k].Items _ (cE g1);rw[M.sH];simp only[ah.aC,getD_lt h1,getD_lt h2,getD_lt g1,getD_lt g2,bw,dD,kD,h1,h2,g1,g2,bZ g1 (dY hi),aiL _ _ (show(a.aF[k].Items[j]).sz<=1048576 by omega),ed,dB,ae,aB,ay];cases kP jh a.aF[k].Items[j] b.aF[k].Items[j]<;>rfl) (fun f=>by rw[M.sH];simp[getD_lt h1,dD,h1])
 rw[M.sG];unfold mQ;simp only[getD_lt h1,getD_lt h2,bw,dD,kD,h1,h2,sy,ed,bU,cq,dB,ae,al];by_cases gv:a.aF[k].Items.length=b.aF[k].Items.length
 ·rw[da gv,inner gv];cases (a.aF[k].Name==b.aF[k].Name)<;>cases dM (kP jh) a.aF[k].Items b.aF[k].Items<;>simp[bZ h1 (dY hf)]
 ·rw[cA gv,oO _ _ _ gv];simp only[bu,iz,ae,Bool.and_false,aR]
theorem aiO(a b:aj)(h:a.sz<=1048576)(hle:a.Worlds.length=b.Worlds.length):M.sJ ad 0 a b=some (if dM mR a.Worlds b.Worlds then .inr ()else .inl false):=by
 have hs:=aj.cu a;have l1:=de aJ.sz a.Worlds;have hf:a.Worlds.length<=1048576:=by omega
 refine qI (p:=mR) (F:=fun f i=>M.sJ f i a b) (e:=()) a.Worlds b.Worlds hf hle (fun f k h1 h2=>?_) (fun f=>by rw[M.sJ];simp);have z1:=dL aJ.sz a.Worlds _ (cE h1);have z2:=aJ.cu a.Worlds[k];have z3:=de aH.sz a.Worlds[k].Items;have hi:a.Worlds[k].Items.length<=1048576:=by omega
 have inner:a.Worlds[k].Items.length=b.Worlds[k].Items.length->M.sK (k:Int) a b ad 0=some (if dM oQ a.Worlds[k].Items b.Worlds[k].Items then .inr ((k:Int),a,b)else .inl false):=fun gv=>
  qI (p:=oQ) (F:=fun f j=>M.sK (k:Int) a b f j) (e:=((k:Int),a,b)) a.Worlds[k].Items b.Worlds[k].Items hi gv (fun f j g1 g2=>by
   rw[M.sK];unfold oQ mP;simp only[getD_lt h1,getD_lt h2,getD_lt g1,getD_lt g2,bw,dD,kD,h1,h2,g1,g2,bZ g1 (dY hi),ed,dB,ae];cases ((a.Worlds[k].Items[j].Kind==b.Worlds[k].Items[j].Kind)&&((a.Worlds[k].Items[j].Path.ba==b.Worlds[k].Items[j].Path.ba)&&((a.Worlds[k].Items[j].Path.Name==b.Worlds[k].Items[j].Path.Name)&&(a.Worlds[k].Items[j].Path.Version==b.Worlds[k].Items[j].Path.Version))))<;>rfl) (fun f=>by rw[M.sK];simp[getD_lt h1,dD,h1])
 rw[M.sJ];unfold mR;simp only[getD_lt h1,getD_lt h2,bw,dD,kD,h1,h2,sy,ed,bU,cq,dB,ae,al];by_cases gv:a.Worlds[k].Items.length=b.Worlds[k].Items.length
 ·rw[da gv,inner gv];cases (a.Worlds[k].Name==b.Worlds[k].Name)<;>cases dM oQ a.Worlds[k].Items b.Worlds[k].Items<;>simp[bZ h1 (dY hf)]
 ·rw[cA gv,oO _ _ _ gv];simp only[bu,iz,ae,Bool.and_false,aR]
theorem aiP(a b:aj)(h:a.sz<=1048576):M.AH a b=some (lG jh a b):=by
 unfold M.AH lG;rw[sy,sy];by_cases hf:a.aF.length=b.aF.length
 ·by_cases hw:a.Worlds.length=b.Worlds.length
  ·rw[da hf,da hw,aiN a b h hf];cases (a.Name==b.Name)<;>cases (a.Version==b.Version)<;>cases hA:dM (mQ jh) a.aF b.aF<;>cases hB:dM mR a.Worlds b.Worlds<;>simp[aiO a b h hw,hB]
  ·rw[cA hw,oO _ _ _ hw];simp only[bu,iz,ae,Bool.and_false]
 ·rw[cA hf,oO _ _ _ hf];simp only[bu,iz,cq,ae,Bool.and_false,cL]
end M
namespace M
open Go.V (inB cg ad bz)
theorem Sr(a b:bc)(h:mP a b=true):a=b:=by
 unfold mP at h;rw[cG,cG]at h;obtain⟨h1,h2,h3⟩:=h;cases a;cases b;cases cK.1 h1;cases cK.1 h2;cases cK.1 h3;rfl
theorem aiQ(a b:aM)(h:oP a b=true):a=b:=by
 unfold oP at h;rw[cG]at h;cases a;cases b;cases cK.1 h.1;cases cK.1 h.2;rfl
theorem aiR{te:aa->aa->Bool}(ht:∀a b,te a b=true->a=b)(a b:az)(h:mO te a b=true):a=b:=by
 unfold mO at h;rw[cG]at h;cases a;cases b;cases cK.1 h.1;cases ht _ _ h.2;rfl
theorem aiS{te:aa->aa->Bool}(ht:∀a b,te a b=true->a=b)(a b:ah)(h:kP te a b=true):a=b:=by
 unfold kP at h;simp only[cG]at h;obtain⟨⟨⟨⟨⟨⟨h1,h2⟩,h3⟩,h4⟩,h5⟩,h6⟩,h7⟩:=h;have e1:=cK.1 h1;have e2:=cK.1 h2;have e3:=ht _ _ h3;have e4:=cK.1 h4;have e5:=Sr _ _ h5;have e6:=qG _ _ (fun x _ y q=>aiQ x y q) h6;have e7:=qG _ _ (fun x _ y q=>aiR ht x y q) h7;cases a;cases b;cases e1;cases e2;cases e3;cases e4;cases e5;cases e6;cases e7;rfl
theorem aiT{te:aa->aa->Bool}(ht:∀a b,te a b=true->a=b)(a b:aE)(h:mQ te a b=true):a=b:=by
 unfold mQ at h;rw[cG]at h;have e1:=cK.1 h.1;have e2:=qG _ _ (fun x _ y q=>aiS ht x y q) h.2;cases a;cases b;cases e1;cases e2;rfl
theorem aiU(a b:aH)(h:oQ a b=true):a=b:=by
 unfold oQ at h;rw[cG]at h;have e1:=cK.1 h.1;have e2:=Sr _ _ h.2;cases a;cases b;cases e1;cases e2;rfl
theorem aiV(a b:aJ)(h:mR a b=true):a=b:=by
 unfold mR at h;rw[cG]at h;have e1:=cK.1 h.1;have e2:=qG _ _ (fun x _ y q=>aiU x y q) h.2;cases a;cases b;cases e1;cases e2;rfl
theorem Ss{te:aa->aa->Bool}(ht:∀a b,te a b=true->a=b)(a b:aj)(h:lG te a b=true):a=b:=by
 unfold lG at h;simp only[cG]at h;obtain⟨⟨⟨h1,h2⟩,h3⟩,h4⟩:=h;have e1:=cK.1 h1;have e2:=cK.1 h2;have e3:=qG _ _ (fun x _ y q=>aiT ht x y q) h3;have e4:=qG _ _ (fun x _ y q=>aiV x y q) h4;cases a;cases b;cases e1;cases e2;cases e3;cases e4;rfl
theorem Su(a:bc):mP a a=true:=by unfold mP;simp
theorem aiW{te:aa->aa->Bool}(a:ah)(h1:te a.Term a.Term=true)(h2:∀p∈a.Params,te p.Term p.Term=true):kP te a a=true:=by
 unfold kP;rw[h1,Su,qH a.Uses (fun x _=>by unfold oP;simp),qH a.Params (fun x hx=>by unfold mO;rw[h2 x hx];simp)];simp
theorem Sv{te:aa->aa->Bool}(a:aj)(h:∀f∈a.aF,∀x∈f.Items,te x.Term x.Term=true/\∀p∈x.Params,te p.Term p.Term=true):lG te a a=true:=by
 unfold lG;rw[qH a.aF (fun f hf=>by unfold mQ;rw[qH f.Items (fun x hx=>aiW x (h f hf x hx).1 (h f hf x hx).2)];simp),qH a.Worlds (fun w _=>by unfold mR;rw[qH w.Items (fun x _=>by unfold oQ;rw[Su];simp)];simp)];simp
theorem Sz(a b:aj):lG jh a b=true↔a=b:=⟨Ss (fun x y h=>(LF x y).1 h) a b,fun h=>by
 subst h;exact Sv a fun f _ x _=>⟨(LF _ _).2 rfl,fun p _=>(LF _ _).2 rfl⟩⟩
def EU(a:aj):Prop:=∀f∈a.aF,∀x∈f.Items,kO 5 x.Term/\∀p∈x.Params,kO 5 p.Term
theorem aiX(a b:aj)(hb:EU b):lG (fE 5) a b=true↔a=b:=⟨Ss (fun x y h=>LC 5 x y h) a b,fun h=>by
 subst h;exact Sv a fun f hf x hx=>⟨EN 5 _ (hb f hf x hx).1,fun p hp=>EN 5 _ ((hb f hf x hx).2 p hp)⟩⟩
end M
namespace M
open Go.V (inB cg ad bz)
theorem LG(d:Nat):kO (d+1) dG:=fun x hx=>by cases hx
theorem LH(d:Nat)(K:Int)(nm:List UInt8)(ls:List (List UInt8)):kO (d+1) (aa.mk K nm ls []):=fun x hx=>by cases hx
theorem aiY{l:List ai}{K:Int}{g:Nat->PR aa}{P:aa->Prop}(hu:P dG)(hg:∀k t k',g k=.ok t k'->P t){k k':Nat}{v:List UInt8×List aa}(h:gB l K g k=.ok v k'):∀t∈v.2,P t:=by
 unfold gB at h;obtain⟨w,k1,_,h⟩:=bind_ok h;cases h16:(K==(16:Int))<;>rw[h16]at h
 ·cases h17:(K==(17:Int))<;>rw[h17]at h
  ·cases h;intro t ht;cases ht
  ·simp only[aR,ae]at h;cases hc:aI l [40] k1<;>rw[hc]at h
   ·cases h;intro t ht;rw[fJ.1 ht];exact hu
   ·obtain⟨t0,_,h0,h⟩:=bind_ok h;obtain⟨_,_,_,h⟩:=bind_ok h;cases h;intro t ht;rw[fJ.1 ht];exact hg _ _ _ h0
 ·obtain⟨_,_,_,h⟩:=bind_ok h;obtain⟨t0,_,h0,h⟩:=bind_ok h;cases h;intro t ht;rw[fJ.1 ht];exact hg _ _ _ h0
theorem aiZ{l:List ai}{g:Nat->PR aa}{P:aa->Prop}(hu:P dG)(hg:∀k t k',g k=.ok t k'->P t){k k':Nat}{v:List aa}(h:nA l g k=.ok v k'):∀t∈v,P t:=by
 unfold nA at h;cases h60:aI l [60] k<;>rw[h60]at h
 ·cases h;intro t ht;simp only[jm,I5,or_false]at ht;rcases ht with q|q<;>(rw[q];exact hu)
 ·simp only[ae]at h;obtain⟨a,k1,ha,h⟩:=bind_ok h;obtain⟨b,k2,hb,h⟩:=bind_ok h;obtain⟨_,_,_,h⟩:=bind_ok h;cases h;have pa:P a:=by
   cases h95:aI l [95] (k+1)<;>rw[h95]at ha
   ·exact hg _ _ _ ha
   ·cases ha;exact hu
  have pb:P b:=by
   cases iR:aI l [44] k1<;>rw[iR]at hb
   ·cases hb;exact hu
   ·exact hg _ _ _ hb
  intro t ht;simp only[jm,I5,or_false]at ht;rcases ht with q|q<;>(rw[q];assumption)
theorem EV(l:List ai):∀(d k:Nat)(t:aa)(k':Nat),dX l d k=.ok t k'->kO (d+1) t
 |0,k,t,k',h=>by cases h
 |d+1,k,t,k',h=>by
  rw[dX]at h;obtain⟨w,k1,_,h⟩:=bind_ok h;have ih:=EV l d;generalize dK w=K at h;cases c0:(K==0)<;>rw[c0]at h
  ·simp only[aR]at h;cases c1:((K==12)||((K==13)||((K==22)||(K==23))))<;>rw[c1]at h
   ·simp only[aR]at h;cases c2:(K==15)<;>rw[c2]at h
    ·simp only[aR]at h;cases c3:((K==20)||(K==21))<;>rw[c3]at h
     ·simp only[aR]at h;cases c4:(K==14)<;>rw[c4]at h
      ·simp only[aR]at h;cases c5:((K==16)||((K==17)||((K==18)||(K==19))))<;>rw[c5]at h
       ·cases h;exact LH _ _ _ _
       ·simp only[ae]at h;obtain⟨_,_,_,h⟩:=bind_ok h;obtain⟨ps,_,hp,h⟩:=bind_ok h;obtain⟨_,_,_,h⟩:=bind_ok h;cases h;have:=(uZ (P:=fun v:List UInt8×List aa=>∀t∈v.2,kO (d+1) t) l _ (fun k v k' hv=>aiY (LG d) ih hv) 15 [] _ ps _ (fun v hv=>by cases hv) hp).2;intro x hx;obtain⟨q,hq,hx⟩:=List.mem_flatten.1 hx;obtain⟨v,hv,rfl⟩:=List.mem_map.1 hq;exact this v hv x hx
      ·simp only[ae]at h;obtain⟨ts,_,hp,h⟩:=bind_ok h;cases h;exact aiZ (LG d) ih hp
     ·simp only[ae]at h;obtain⟨_,_,_,h⟩:=bind_ok h;obtain⟨_,_,_,h⟩:=bind_ok h;obtain⟨_,_,_,h⟩:=bind_ok h;cases h;exact LH _ _ _ _
    ·simp only[ae]at h;obtain⟨_,_,_,h⟩:=bind_ok h;obtain⟨ts,_,hp,h⟩:=bind_ok h;obtain⟨_,_,_,h⟩:=bind_ok h;cases h;exact(uZ (P:=fun v=>kO (d+1) v) l _ ih 5 [] _ ts _ (fun v hv=>by cases hv) hp).2
   ·simp only[ae]at h;obtain⟨_,_,_,h⟩:=bind_ok h;obtain⟨t0,_,h0,h⟩:=bind_ok h;obtain⟨_,_,_,h⟩:=bind_ok h;cases h;intro x hx;rw[fJ.1 hx];exact ih _ _ _ h0
  ·cases h;exact LH _ _ _ _
end M
namespace M
open Go.V (inB cg ad bz)
def u4(x:ah):Prop:=kO 5 x.Term/\∀p∈x.Params,kO 5 p.Term
theorem ai0{l:List ai}{k k':Nat}{v:az}(h:kh l k=.ok v k'):kO 5 v.Term:=by
 unfold kh at h;obtain⟨_,_,_,h⟩:=bind_ok h;obtain⟨_,_,_,h⟩:=bind_ok h;obtain⟨t,_,ht,h⟩:=bind_ok h;cases h;exact EV l 4 _ _ _ ht
theorem ai1(l:List ai)(nm:List UInt8)(k:Nat)(v:ah)(k':Nat)(h:nD l nm k=.ok v k'):u4 v:=by
 have:∀as k,qz l nm as k=.ok v k'->u4 v:=fun as k h=>by
  unfold qz at h;obtain⟨_,_,_,h⟩:=bind_ok h;obtain⟨ps,k1,hp,h⟩:=bind_ok h;obtain⟨t,k2,ht,h⟩:=bind_ok h;cases h;refine⟨?_,?_⟩
  ·unfold zV at ht;cases hc:aI l [45,62] k1<;>rw[hc]at ht
   ·cases ht;exact LG 4
   ·exact EV l 4 _ _ _ ht
  ·unfold xf at hp;obtain⟨_,k3,_,hp⟩:=bind_ok hp;cases hc:aI l [41] k3<;>rw[hc]at hp
   ·simp only[aR]at hp;obtain⟨qs,_,hq,hp⟩:=bind_ok hp;obtain⟨_,_,_,hp⟩:=bind_ok hp;cases hp;exact(uZ (P:=fun v:az=>kO 5 v.Term) l _ (fun _ _ _ hv=>ai0 hv) 5 [] _ _ _ (fun v hv=>by cases hv) hq).2
   ·cases hp;intro p hp;cases hp
 unfold nD at h;cases hc:aI l qy k<;>rw[hc]at h<;>exact this _ _ h
theorem ai2(l:List ai)(k:Nat)(v:ah)(k':Nat)(h:ki l k=.ok v k'):u4 v:=by
 have hn:∀(K:Int)(n:List UInt8)(p:bc)(us:List aM),u4 (ah.mk K n lF [] false p us):=fun K n p us=>⟨(fun x hx=>by cases hx),(fun p hp=>by cases hp)⟩
 unfold ki nE at h;obtain⟨x,k1,hx,h⟩:=bind_ok h;obtain⟨_,_,_,h⟩:=bind_ok h;cases h;obtain⟨nm,k2,_,hx⟩:=bind_ok hx;unfold kN at hx;cases jA:aI l [58] k2<;>rw[jA]at hx
 ·cases hR:(nm==mM)<;>rw[hR]at hx
  ·cases hY:(nm==oK)<;>rw[hY]at hx
   ·cases hU:(nm==oL)<;>rw[hU]at hx
    ·cases hx
    ·simp only[ae,aR]at hx;unfold xg at hx;obtain⟨_,_,_,hx⟩:=bind_ok hx;obtain⟨_,_,_,hx⟩:=bind_ok hx;obtain⟨_,_,_,hx⟩:=bind_ok hx;obtain⟨us,_,hu,hx⟩:=bind_ok hx;obtain⟨_,_,_,hx⟩:=bind_ok hx;cases hx;exact hn _ _ _ _
   ·simp only[ae,aR]at hx;obtain⟨_,_,_,hx⟩:=bind_ok hx;obtain⟨_,_,_,hx⟩:=bind_ok hx;obtain⟨t,_,ht,hx⟩:=bind_ok hx;cases hx;exact⟨EV l 4 _ _ _ ht,(fun p hp=>by cases hp)⟩
  ·simp only[ae,aR]at hx;obtain⟨_,_,_,hx⟩:=bind_ok hx;cases hx;exact hn _ _ _ _
 ·exact ai1 l _ _ _ _ hx
theorem ai3(l:List ai)(k:Nat)(p:aj)(k':Nat)(h:jd l k=.ok p k'):EU p:=by
 unfold jd at h;obtain⟨_,_,_,h⟩:=bind_ok h;obtain⟨_,_,_,h⟩:=bind_ok h;obtain⟨_,_,_,h⟩:=bind_ok h;obtain⟨_,_,_,h⟩:=bind_ok h;obtain⟨_,_,_,h⟩:=bind_ok h;obtain⟨q,k6,h6,h⟩:=bind_ok h;cases h;have hf:∀k v k',l9 l k=.ok v k'->∀x∈v.Items,u4 x:=fun k v k' h=>by
  unfold l9 at h;obtain⟨_,_,_,h⟩:=bind_ok h;obtain⟨_,_,_,h⟩:=bind_ok h;obtain⟨xs,_,hx,h⟩:=bind_ok h;cases h;exact(Ai (P:=u4) l (ki l) (ai2 l) 16 [] _ xs _ (fun v hv=>by cases hv) hx).2
 exact(Aj (P:=fun f=>∀x∈f.Items,u4 x) (Q:=fun _=>True) l hf (fun _ _ _ _=>trivial) 16 [] [] _ q _ (by simp) (by simp) (by simp) (by simp) h6).2.2.1
theorem ai4(s:List UInt8):EU (mN s).1:=by
 unfold mN ix;have h0:EU noPack:=fun f hf=>by cases hf
 split
 ·exact h0
 ·rename_i p hp;split at hp
  ·split at hp
   ·cases hp
   ·rename_i hq;cases hp;cases qF p
    ·exact h0
    ·exact ai3 _ _ _ _ hq
  ·cases hp
end M
namespace M
open Go.V (inB cg ad bz)
noncomputable def iJ(x:aj)(t:List UInt8):Bool:=((mN t).2.2==0)&&lG jh x (mN t).1
theorem ai5(x:aj)(t:List UInt8):(((mN t).2.2==(0:Int))&&lG (fE 5) x (mN t).1)=iJ x t:=by
 unfold iJ;have e:lG (fE 5) x (mN t).1=lG jh x (mN t).1:=by
  rw[nc,aiX x _ (ai4 t),Sz]
 rw[e]
theorem SA(x:aj)(t:List UInt8)(h:iJ x t=true):ix t=.inr x:=by
 unfold iJ at h;rw[cG,Sz]at h;obtain⟨h1,h2⟩:=h;have h1:=cK.1 h1;unfold mN at h1 h2;cases hw:ix t with
 |inl e=>
  rw[hw]at h1;have:=RO t;rw[hw]at this;exact absurd h1 this.1
 |inr p=>
  rw[hw]at h1 h2;cases hc:qF p
  ·simp only[hc,aR]at h1;exact absurd h1 (by decide)
  ·simp only[hc,ae]at h2;rw[h2]
theorem ai6(x:aj)(t:List UInt8)(hx:x.sz<=1048576)(ht:M.sL x=some t):M.AI x=some (t,iJ x t):=by
 unfold M.AI;rw[<-ai5];simp only[ht,aiy,aiK x _ hx,ay,aB,cq,al,ae]
theorem ai7(x:aj)(t:List UInt8)(hx:x.sz<=1048576)(ht:M.sL x=some t):M.u6 x=some (iJ x t):=by
 unfold M.u6;rw[ai6 x t hx ht];rfl
theorem ai8(x:aj)(hs:M.sM x=some false):M.qJ x=some false:=by
 unfold M.qJ;simp only[hs,ay,aB,bu,ae,al]
theorem SB(x:aj)(t:List UInt8)(hx:x.sz<=1048576)(hs:M.sM x=some true)(ht:M.oR x=some t):M.qJ x=some (iJ x t):=by
 unfold M.qJ iJ;simp only[hs,ht,aix,aiP x _ hx,ay,aB,dT,aR,cq,al,ae]
end M
namespace M
open Go.V (inB cg ad bz)
theorem SC(x:aj)(h:¬∃t,ix t=.inr x)(t:List UInt8):iJ x t=false:=by
 cases hb:iJ x t with
 |false=>rfl
 |true=>exact absurd ⟨t,SA x t hb⟩ h
theorem ai9(x:aj)(ti:List UInt8)(hx:x.sz<=1048576)(hi:M.sL x=some ti)(sh:Bool)(hs:M.sM x=some sh)
 (h0:sh=true->∃ts,M.oR x=some ts) (h1:(∃t,ix t=.inr x)->sh=true/\M.oR x=some ti):
 M.u6 x=some (iJ x ti)/\M.qJ x=some (iJ x ti)/\(iJ x ti=true->M.oR x=some ti):=by
 refine⟨ai7 x ti hx hi,?_,fun h=>(h1 ⟨ti,SA x ti h⟩).2⟩;by_cases hw:∃t,ix t=.inr x
 ·obtain⟨e1,e2⟩:=h1 hw;rw[e1]at hs;exact SB x ti hx hs e2
 ·rw[SC x hw ti];cases sh with
  |false=>exact ai8 x hs
  |true=>
   obtain⟨ts,e⟩:=h0 rfl;rw[SB x ts hx hs e,SC x hw ts]
end M
namespace M
open Go.V (inB cg ad bz)
theorem bA{a b:List UInt8}(h:a.length+b.length<=4611686018427387904):Go.V.aw a b=true:=da h
def dk(p:bc):List UInt8:=bif p.ba==[]then p.Name else bif p.Version==[]then(p.ba++[47])++p.Name else(((p.ba++[47])++p.Name)++[64])++p.Version
def eC(p:bc):List UInt8:=
 let q:=bif !(p.ba==[])then(p.ba++[47])++p.Name else p.Name
 bif !(p.Version==[])then q++([64]++p.Version)else q
theorem SD(p:bc)(h:p.sz<=1048576):M.sN p=some (dk p):=by
 have hs:=bc.cu p;unfold M.sN dk;cases (p.ba==[])
 ·have c1:Go.V.aw p.ba [47]=true:=bA (by simp;omega);have c2:Go.V.aw (p.ba++[47]) p.Name=true:=bA (by simp;omega);have c3:Go.V.aw ((p.ba++[47])++p.Name) [64]=true:=bA (by simp;omega);have c4:Go.V.aw (((p.ba++[47])++p.Name)++[64]) p.Version=true:=bA (by simp;omega);simp only[c1,c2,c3,c4,aR,al,ae];cases (p.Version==[])<;>rfl
 ·rfl
theorem SE(p:bc)(h:p.sz<=1048576):M.sO p=some (eC p):=by
 have hs:=bc.cu p;unfold M.sO eC;have c1:Go.V.aw p.ba [47]=true:=bA (by simp;omega);have c2:Go.V.aw (p.ba++[47]) p.Name=true:=bA (by simp;omega);have c3:Go.V.aw [64] p.Version=true:=bA (by simp;omega);have c4:Go.V.aw (bif !(p.ba==[])then(p.ba++[47])++p.Name else p.Name) ([64]++p.Version)=true:=bA (by cases (p.ba==[])<;>simp<;>omega);simp only[c1,c2,c3,c4,al,cq,ae]
theorem SG(p:bc)(h:p.ba=[]->p.Version=[]):eC p=dk p:=by
 unfold eC dk;cases hp:(p.ba==[])
 ·cases (p.Version==[])
  ·simp
  ·rfl
 ·rw[h (cK.1 hp)];rfl
end M
namespace M
open Go.V (inB cg ad bz)
theorem aja{α:Type}{l:List α}{x:α}(h:l.length<=4000000):decide (l.length+[x].length<=1073741824)=true:=by
 rw[bB,List.length_singleton];omega
theorem wrapM{k:Nat}(h:k<=4000000):Go.IntKind.wrap .i64 ((k:Int)+1)=((k+1:Nat):Int):=by rw[wrap_i64 (by omega) (by omega)];omega
theorem SH{rec:aa->Int->Option (List UInt8)}{lv:Int}{word:List UInt8}{t:aa}(tt:aa->List UInt8)(xs:List aa)(hX:xs.length<=1048576)(hr:∀x∈xs,rec x (Go.IntKind.wrap .i64 (lv-1))=some (tt x)):∀(n k:Nat)(acc:List (List UInt8)),xs.length-k<n->k<=xs.length->acc.length+(xs.length-k)<=2000000->
 M.sP rec lv word xs ((xs.length:Nat):Int) n (k:Int) t acc=some (word,t,acc++(xs.drop k).map tt)
 |0,k,_,h,_,_=>by omega
 |n+1,k,acc,h,hk,hb=>by
  rw[M.sP];rcases cP k xs.length with q|q
  ·have ih:=SH (word:=word) (t:=t) tt xs hX hr n (k+1) (acc++[tt xs[k]]) (by omega) (by omega) (by rw[aN,List.length_singleton];omega);simp only[eS q,bw,dz _ q,aa.aC,hr _ (cE q),ay,aB,ae,dI q,al,wrapM (show k<=4000000 by omega),aja (show acc.length<=4000000 by omega),ih];rw[jg q,eG,fO,List.singleton_append]
  ·simp only[jD q,aR,aa.aC];rw[List.drop_eq_nil_of_le q];simp
end M
namespace M
open Go.V (inB cg aw ad bz)
def jn(l:List (List UInt8)):List UInt8:=Go.Lib.join l [44,32]
theorem LI:jn []=[]:=rfl
theorem EW(x:List UInt8)(r:List (List UInt8)):jn (x::r)=x++Go.Lib.joinTail [44,32] r:=Go.Lib.join_cons x r [44,32]
theorem SI:Go.Lib.joinTail [44,32] []=[]:=rfl
theorem SJ(x:List UInt8)(r:List (List UInt8)):Go.Lib.joinTail [44,32] (x::r)=44::32::(x++Go.Lib.joinTail [44,32] r):=by simp[Go.Lib.joinTail]
theorem ajb(a b:List (List UInt8)):Go.Lib.joinTail [44,32] (a++b)=Go.Lib.joinTail [44,32] a++Go.Lib.joinTail [44,32] b:=by simp[Go.Lib.joinTail]
theorem ajc(l:List (List UInt8))(x:List UInt8):jn (l++[x])=(if 0<l.length then jn l++[44,32]else[])++x:=by
 cases l with
 |nil=>simp[EW,SI]
 |cons y r=>rw[od,EW,EW,ajb];simp[SJ,SI]
theorem kQ:∀(l:List (List UInt8)),(jn l).length<=aQ List.length l+l.length
 |[]=>by simp[LI]
 |x::r=>by
  rw[EW,aN];have:∀r:List (List UInt8),(Go.Lib.joinTail [44,32] r).length=aQ List.length r+r.length:=fun r=>by
   induction r with
   |nil=>rfl
   |cons y t ih=>rw[SJ];simp only[ak,aN,ih,aQ];omega
  rw[this];simp only[aQ,ak];omega
theorem EX(l:List (List UInt8))(h:aQ List.length l<=536870912):M.strings_Join l [44,32]=some (jn l):=by
 have h1:=kQ l;have h2:=de List.length l;unfold M.strings_Join;have e1:decide (l.length<=1073741824)=true:=by rw[bB];omega
 have e2:decide ((Go.Lib.join l [44,32]).length<=1073741824)=true:=by rw[bB];unfold jn at h1;omega
 rw[e1,e2];rfl
theorem EY{a b:Nat}(h:a+b<=1073741824):decide (a+b<=1073741824)=true:=by rw[bB];exact h
theorem EZ{a b:Bool}:(bif a then a else b)=(a||b):=by cases a<;>rfl
def fM(K:Int):List UInt8:=bif decide (1<=K)&&decide (K<=23)then List.getD ([]::words) K.toNat []else[]
theorem LJ(K:Int):(fM K).length<=7:=by
 unfold fM;have h:∀w∈([]::words),w.length<=7:=by
  have:((([]:List UInt8)::words).all fun w=>decide (w.length<=7))=true:=by decide
  intro w hw;simpa using fN.1 this w hw
 cases decide (1<=K)&&decide (K<=23)
 ·simp
 ·rw[ae];rcases cP K.toNat (List.length ([]::words))with hk|hk
  ·rw[getD_lt hk];exact h _ (cE hk)
  ·rw[gn,hZ hk];simp
def E0(K:Int):Bool:=(K==12)||((K==13)||((K==22)||((K==23)||(K==15))))
def E1(K:Int):Bool:=(K==16)||((K==17)||((K==18)||(K==19)))
def labT(K:Int):List (List UInt8)->List aa->List (List UInt8)->List (List UInt8)
 |[],_,_=>[]
 |l::r,c::cs,x::xs=>(bif K==16 then l++([58,32]++x)else bif(K==17)&&(c.Kind !=1)then l++(([40]++x)++[41])else l)::labT K r cs xs
 |l::r,_,_=>l::labT K r [] []
def sQ(t:aa)(ks:List (List UInt8)):List UInt8:=
 bif((ks.length:Nat):Int) !=2 then[]
 else bif((List.getD t.Kids 0 aa.zero).Kind==1)&&((List.getD t.Kids 1 aa.zero).Kind==1)then[]
 else bif(List.getD t.Kids 1 aa.zero).Kind==1 then([60]++List.getD ks 0 [])++[62]
 else bif(List.getD t.Kids 0 aa.zero).Kind==1 then([60,95,44,32]++List.getD ks 1 [])++[62]
 else((([60]++List.getD ks 0 [])++[44,32])++List.getD ks 1 [])++[62]
def bodyT(t:aa)(ks:List (List UInt8)):List UInt8:=
 bif t.Kind==30 then t.Name
 else bif(t.Kind==20)||(t.Kind==21)then((fM t.Kind++[60])++t.Name)++[62]
 else bif E0 t.Kind then((fM t.Kind++[60])++jn ks)++[62]
 else bif t.Kind==14 then fM t.Kind++sQ t ks
 else bif E1 t.Kind then((fM t.Kind++[32,123,32])++jn (labT t.Kind t.bj t.Kids ks))++[32,125]
 else fM t.Kind
def cN:Nat->aa->List UInt8
 |0,_=>[]
 |n+1,t=>bodyT t (t.Kids.map (cN n))
theorem u7(K:Int):∀(ls:List (List UInt8))(cs:List aa)(xs:List (List UInt8)),aQ List.length (labT K ls cs xs)<=aQ List.length ls+2*ls.length+aQ List.length xs
 |[],_,_=>by simp[labT,aQ]
 |l::r,[],xs=>by
  have:=u7 K r [] [];have e:aQ List.length ([]:List (List UInt8))=0:=rfl;cases xs<;>simp only[labT,aQ,ak]at*<;>omega
 |l::r,c::cs,[]=>by
  have:=u7 K r [] [];simp only[labT,aQ,ak]at*;omega
 |l::r,c::cs,x::xs=>by
  have:=u7 K r cs xs;simp only[labT,aQ,ak];cases (K==16)
  ·cases ((K==17)&&(c.Kind !=1))<;>simp only[ae,aR,aN,ak,bf]<;>omega
  ·simp only[ae,aN,ak,bf];omega
theorem mS(K:Int):∀(ls:List (List UInt8))(cs:List aa)(xs:List (List UInt8)),(labT K ls cs xs).length=ls.length
 |[],_,_=>by simp[labT]
 |l::r,[],xs=>by cases xs<;>simp[labT,mS K r [] []]
 |l::r,c::cs,[]=>by simp[labT,mS K r [] []]
 |l::r,c::cs,x::xs=>by simp[labT,mS K r cs xs]
theorem E2(K:Int)(f:aa->List UInt8):∀(ls:List (List UInt8))(cs:List aa)(k:Nat),k<ls.length->(labT K ls cs (cs.map f)).getD k []=if h:k<cs.length then(bif K==16 then ls.getD k []++([58,32]++f cs[k])else bif(K==17)&&(cs[k].Kind !=1)then ls.getD k []++(([40]++f cs[k])++[41])else ls.getD k [])else ls.getD k []
 |[],_,k,h=>by simp at h
 |l::r,[],k,h=>by
  cases k with
  |zero=>simp[labT]
  |succ k=>
   have:=E2 K f r [] k (by simpa using h);simpa [labT]using this
 |l::r,x::cs,k,h=>by
  cases k with
  |zero=>simp[labT]
  |succ k=>
   have:=E2 K f r cs k (by simpa using h);simp only[eG,labT,List.getD_cons_succ,this,ak,Nat.add_lt_add_iff_right,List.getElem_cons_succ]
theorem SK(t:aa)(ks:List (List UInt8)):(sQ t ks).length<=aQ List.length ks+5:=by
 unfold sQ;cases hc:(((ks.length:Nat):Int) !=2)
 ·have h2:ks.length=2:=by have:=bne_eq_false_iff_eq.1 hc;omega
  obtain⟨a,b,rfl⟩:∃a b,ks=[a,b]:=by
   match ks,h2 with
   |[a,b],_=>exact⟨a,b,rfl⟩
  simp only[aR,aQ];cases (((List.getD t.Kids 0 aa.zero).Kind==1)&&((List.getD t.Kids 1 aa.zero).Kind==1))
  ·cases ((List.getD t.Kids 1 aa.zero).Kind==1)
   ·cases ((List.getD t.Kids 0 aa.zero).Kind==1)<;>simp<;>omega
   ·simp;omega
  ·simp
 ·simp
theorem sR:∀(n:Nat)(t:aa),(cN n t).length<=16*t.sz+14
 |0,t=>by simp[cN]
 |n+1,t=>by
  have hs:=aa.cu t;have hk:=LJ t.Kind;have hx:aQ List.length (t.Kids.map (cN n))+(t.Kids.map (cN n)).length<=16*aQ aa.sz t.Kids:=by
   have key:∀l:List aa,aQ List.length (l.map (cN n))+(l.map (cN n)).length<=16*aQ aa.sz l:=fun l=>by
    induction l with
    |nil=>simp[aQ]
    |cons y r ih=>
     have h1:=sR n y;simp only[eG,aQ,ak]at ih⊢;omega
   exact key _
  have hj:=kQ (t.Kids.map (cN n));have hl:=u7 t.Kind t.bj t.Kids (t.Kids.map (cN n));have hll:=mS t.Kind t.bj t.Kids (t.Kids.map (cN n));have hle:=de List.length t.bj;have hj2:=kQ (labT t.Kind t.bj t.Kids (t.Kids.map (cN n)));have hr:=SK t (t.Kids.map (cN n));rw[cN];unfold bodyT;cases (t.Kind==30)
  ·cases ((t.Kind==20)||(t.Kind==21))
   ·cases (E0 t.Kind)
    ·cases (t.Kind==14)
     ·cases (E1 t.Kind)
      ·simp only[aR];omega
      ·simp only[aR,ae,aN,ak,bf];omega
     ·simp only[aR,ae,aN];omega
    ·simp only[aR,ae,aN,ak,bf];omega
   ·simp only[aR,ae,aN,ak,bf];omega
  ·simp only[ae];omega
theorem SL(n:Nat)(l:List aa):aQ List.length (l.map (cN n))<=16*aQ aa.sz l:=by
 induction l with
 |nil=>simp[aQ]
 |cons y r ih=>
  have h1:=sR n y;simp only[eG,aQ];omega
theorem LK{α β Y:Type}{F:Nat->Int->List β->Option Y}{h:List β->Option Y}(g:α->β)(l:List α)(hn:l.length<=2097152)(AK:List β)
 (step:∀f k out,∀hk:k<l.length,out.length=AK.length+k->F (f+1) (k:Int) out=F f ((k+1:Nat):Int) (out++[g l[k]]))
 (stop:∀f out,F (f+1) (l.length:Int) out=h out):F ad 0 AK=h (AK++l.map g):=by
 have key:∀f k out,k<=l.length->l.length-k<f->out.length=AK.length+k->F f (k:Int) out=h (out++(l.drop k).map g):=by
  intro f
  induction f with
  |zero=>intro k out h1 h2;omega
  |succ f ih=>
   intro k out h1 h2 ho;rcases cP k l.length with hk|hk
   ·rw[step f k out hk ho,ih (k+1) _ (by omega) (by omega) (by simp[ho];omega),rU hk];simp only[eG,fO,List.singleton_append]
   ·have:k=l.length:=by omega
    subst this;rw[stop,tY];simp
 have:=key ad 0 AK (dN _) (by have:=bz;omega) rfl;simpa using this
theorem LL{α:Type}(f:α->Nat):∀(l:List α)(k:Nat),aQ f (l.take k)<=aQ f l
 |[],k=>by simp[aQ]
 |x::r,0=>by simp[aQ]
 |x::r,k+1=>by have:=LL f r k;simp only[List.take_succ_cons,aQ];omega
theorem E3{Y:Type}{F:Nat->List UInt8->Int->Option Y}{h:List UInt8->Option Y}(L:List (List UInt8))(hn:L.length<=2097152)(s0:List UInt8)
 (step:∀f k s,∀hk:k<L.length,s.length<=s0.length+2*aQ List.length L->F (f+1) s (k:Int)=F f ((bif decide ((0:Int)<(k:Int))then s++[44,32]else s)++L[k]) ((k+1:Nat):Int))
 (stop:∀f s,F (f+1) s (L.length:Int)=h s):F ad s0 0=h (s0++jn L):=by
 have key:∀f k,k<=L.length->L.length-k<f->F f (s0++jn (L.take k)) (k:Int)=h (s0++jn L):=by
  intro f
  induction f with
  |zero=>intro k h1 h2;omega
  |succ f ih=>
   intro k h1 h2;rcases cP k L.length with hk|hk
   ·have hj:=kQ (L.take k);have ht:=LL List.length L k;have hl:=de List.length L;have hm:(L.take k).length<=L.length:=by rw[om];omega
    rw[step f k _ hk (by rw[aN];omega)];have e:(bif decide ((0:Int)<(k:Int))then s0++jn (L.take k)++[44,32]else s0++jn (L.take k))++L[k]=s0++jn (L.take (k+1)):=by
     rw[Dt,cH hk,Option.toList_some,ajc,om,Nat.min_eq_left (by omega)];by_cases hz:0<k
     ·rw[aY hz,da (by omega),ae];simp only[fO]
     ·have:k=0:=by omega
      subst this;simp[LI]
    rw[e];exact ih (k+1) (by omega) (by omega)
   ·have:k=L.length:=by omega
    subst this;rw[stop,Du]
 have:=key ad 0 (dN _) (by have:=bz;omega);simpa [LI]using this
end M
namespace M
open Go.V (inB cg aw ad bz)
theorem ajd(t:aa)(ks:List (List UInt8))(hl:ks.length=t.Kids.length)(hb:aQ List.length ks<=536870912):M.xI t ks=some (sQ t ks):=by
 unfold M.xI sQ;cases hc:(((ks.length:Nat):Int) !=2)
 ·have h2:ks.length=2:=by have:=bne_eq_false_iff_eq.1 hc;omega
  obtain⟨a,b,rfl⟩:∃a b,ks=[a,b]:=by
   match ks,h2 with
   |[a,b],_=>exact⟨a,b,rfl⟩
  simp only[aQ]at hb;have i0:inB (0:Int) t.Kids.length=true:=by rw[<-hl];rfl
  have i1:inB (1:Int) t.Kids.length=true:=by rw[<-hl];rfl
  have j0:inB (0:Int) [a,b].length=true:=rfl;have j1:inB (1:Int) [a,b].length=true:=rfl;have c1:aw [60] (List.getD [a,b] 0 [])=true:=bA (by simp;omega);have c2:aw ([60]++List.getD [a,b] 0 []) [62]=true:=bA (by simp;omega);have c3:aw [60,95,44,32] (List.getD [a,b] 1 [])=true:=bA (by simp;omega);have c4:aw ([60,95,44,32]++List.getD [a,b] 1 []) [62]=true:=bA (by simp;omega);have c5:aw ([60]++List.getD [a,b] 0 []) [44,32]=true:=bA (by simp;omega);have c6:aw (([60]++List.getD [a,b] 0 [])++[44,32]) (List.getD [a,b] 1 [])=true:=bA (by simp;omega);have c7:aw ((([60]++List.getD [a,b] 0 [])++[44,32])++List.getD [a,b] 1 []) [62]=true:=bA (by simp;omega);have n0:Int.toNat (0:Int)=0:=rfl;have n1:Int.toNat (1:Int)=1:=rfl;simp only[aR,i0,i1,j0,j1,c1,c2,c3,c4,c5,c6,c7,n0,n1,al,ae];cases (List.getD t.Kids 0 aa.zero).Kind==1<;>cases (List.getD t.Kids 1 aa.zero).Kind==1<;>rfl
 ·rfl
theorem aje(f:aa->List UInt8)(t:aa)(hL:t.bj.length<=1048576)(hb:aQ List.length t.bj+aQ List.length (t.Kids.map f)<=268435456):M.xJ t (t.Kids.map f)=some (labT t.Kind t.bj t.Kids (t.Kids.map f)):=by
 unfold M.xJ;have e:=LK (F:=fun n i o=>M.qK (t.Kids.map f) t.bj ((t.bj.length:Nat):Int) n i t o) (h:=fun o=>some o) id (labT t.Kind t.bj t.Kids (t.Kids.map f)) (by rw[mS];omega) [] (fun n k out hk ho=>by
  have hk':=hk;rw[mS]at hk;have hg:=E2 t.Kind f t.bj t.Kids k hk;rw[getD_lt hk']at hg
  show M.qK (t.Kids.map f) t.bj ((t.bj.length:Nat):Int) (n+1) (k:Int) t out=_
  rw[M.qK];have hc:∀y:List UInt8,decide (out.length+[y].length<=1073741824)=true:=fun y=>EY (by simp at ho⊢;omega)
  have hml:=dL List.length t.bj t.bj[k] (cE hk);simp only[aa.aC,eS hk,ae,bw,dI hk,hc,bU,dB,bZ hk (by omega:t.bj.length<2^62),id,dz _ hk];by_cases hkk:k<t.Kids.length
  ·rw[dif_pos hkk]at hg;have SN:k<(t.Kids.map f).length:=by rw[fq];exact hkk
   have hmx:=dL List.length (t.Kids.map f) (f t.Kids[k]) (List.mem_map_of_mem (cE hkk));have e1:List.getD (t.Kids.map f) k []=f t.Kids[k]:=by rw[getD_lt SN,Dv]
   have e2:decide ((((t.Kids.map f).length:Nat):Int)<=(k:Int))=false:=cA (by omega);have c1:aw [58,32] (f t.Kids[k])=true:=bA (by simp;omega);have c2:aw t.bj[k] ([58,32]++f t.Kids[k])=true:=bA (by simp;omega);have c3:aw [40] (f t.Kids[k])=true:=bA (by simp;omega);have c4:aw ([40]++f t.Kids[k]) [41]=true:=bA (by simp;omega);have c5:aw t.bj[k] (([40]++f t.Kids[k])++[41])=true:=bA (by simp;omega);rw[dz _ hk]at hg;simp only[e1,e2,dI hkk,dI SN,c1,c2,c3,c4,c5,dz _ hkk,aR,bu,iz,cq,al,lg,bU,Bool.or_not_self,Bool.not_or_self];cases h16:(t.Kind==16)<;>cases h17:((t.Kind==17)&&(t.Kids[k].Kind !=1))<;>rw[h16,h17]at hg<;>rw[hg]<;>rfl
  ·rw[dif_neg hkk,dz _ hk]at hg;have e2:decide ((((t.Kids.map f).length:Nat):Int)<=(k:Int))=true:=da (by rw[fq];omega);simp only[e2,ae,iz,dT,lg,al,hg]) (fun n out=>by
  show M.qK (t.Kids.map f) t.bj ((t.bj.length:Nat):Int) (n+1) _ t out=_
  rw[mS,M.qK];simp)
 simp only[fB,List.map_id]at e;rw[aa.aC,e]
theorem SO{K:Int}(h:(decide (1<=K)&&decide (K<=23))=true):fM K=List.getD ([]::words) K.toNat []:=by
 unfold fM;rw[h,ae]
theorem ajf{K:Int}(h:(decide (1<=K)&&decide (K<=23))=false):fM K=[]:=by
 unfold fM;rw[h,aR]
theorem ajg{K:Int}(h:(decide (1<=K)&&decide (K<=23))=true):inB K (List.length ([]::words))=true:=by
 simp only[cG,bB]at h;obtain⟨n,rfl⟩:=Dq (show 0<=K by omega);rw[dD,bB,show List.length (([]:List UInt8)::words)=24 from rfl];omega
theorem SQ:∀(m n:Nat)(t:aa),n<m->n<=100->t.sz<=1048576->M.sS m t (n:Int)=some (cN n t)
 |0,n,t,h,_,_=>by omega
 |m+1,0,t,h,_,_=>rfl
 |m+1,n+1,t,h,hn,hs=>by
  show M.E4 (M.sS m) t _=_
  have hz:=aa.cu t;have hw:Go.IntKind.wrap .i64 (((n+1:Nat):Int)-1)=(n:Int):=by rw[wrap_i64 (by omega) (by omega)];omega
  have hrec:∀x∈t.Kids,M.sS m x (Go.IntKind.wrap .i64 (((n+1:Nat):Int)-1))=some (cN n x):=fun x hx=>by
   rw[hw];exact SQ m n x (by omega) (by omega) (by have:=aa.Am hx;omega)
  have hk:=aa.EP hs;have e0:∀word,M.sP (M.sS m) ((n+1:Nat):Int) word t.Kids ((t.Kids.length:Nat):Int) ad 0 t []=some (word,t,t.Kids.map (cN n)):=fun word=>by
   have:=SH (word:=word) (t:=t) (cN n) t.Kids hk hrec ad 0 [] (by have:=bz;omega) (by omega) (by simp;omega);simpa using this
  have hkl:=SL n t.Kids;have hkw:=LJ t.Kind;have hj:=kQ (t.Kids.map (cN n));have hl:=u7 t.Kind t.bj t.Kids (t.Kids.map (cN n));have hll:=mS t.Kind t.bj t.Kids (t.Kids.map (cN n));have hle:=de List.length t.bj;have hj2:=kQ (labT t.Kind t.bj t.Kids (t.Kids.map (cN n)));have hr:=SK t (t.Kids.map (cN n));have hsk:=de aa.sz t.Kids;have hmk:(t.Kids.map (cN n)).length=t.Kids.length:=fq _;have d:(((n+1:Nat):Int)==0)=false:=by rw[cQ];omega
  have r1:=ajd t (t.Kids.map (cN n)) hmk (by omega);have r2:=aje (cN n) t (by omega) (by omega);have r3:=EX (t.Kids.map (cN n)) (by omega);have r4:=EX (labT t.Kind t.bj t.Kids (t.Kids.map (cN n))) (by omega);rw[cN];unfold M.E4 bodyT E0 E1;have c1:aw (fM t.Kind) [60]=true:=bA (by simp only[aN,ak,bf];omega);have c2:aw (fM t.Kind++[60]) t.Name=true:=bA (by simp only[aN,ak,bf];omega);have c3:aw ((fM t.Kind++[60])++t.Name) [62]=true:=bA (by simp only[aN,ak,bf];omega);have c4:aw (fM t.Kind++[60]) (jn (t.Kids.map (cN n)))=true:=bA (by simp only[aN,ak,bf];omega);have c5:aw ((fM t.Kind++[60])++jn (t.Kids.map (cN n))) [62]=true:=bA (by simp only[aN,ak,bf];omega);have c6:aw (fM t.Kind) (sQ t (t.Kids.map (cN n)))=true:=bA (by omega);have c7:aw (fM t.Kind) [32,123,32]=true:=bA (by simp only[aN,ak,bf];omega);have c8:aw (fM t.Kind++[32,123,32]) (jn (labT t.Kind t.bj t.Kids (t.Kids.map (cN n))))=true:=bA (by simp only[aN,ak,bf];omega);have c9:aw ((fM t.Kind++[32,123,32])++jn (labT t.Kind t.bj t.Kids (t.Kids.map (cN n)))) [32,125]=true:=bA (by simp only[aN,ak,bf];omega);cases hK:decide (1<=t.Kind)&&decide (t.Kind<=23)
  ·rw[ajf hK]at c1 c2 c3 c4 c5 c6 c7 c8 c9⊢;simp only[d,hK,aR,aa.aC,e0];simp only[EZ,r1,r2,r3,r4,c1,c2,c3,c4,c5,c6,c7,c8,c9,ay,aB,al,ae];cases (t.Kind==30)<;>cases ((t.Kind==20)||(t.Kind==21))<;>cases ((t.Kind==12)||((t.Kind==13)||((t.Kind==22)||((t.Kind==23)||(t.Kind==15)))))<;>cases (t.Kind==14)<;>cases ((t.Kind==16)||((t.Kind==17)||((t.Kind==18)||(t.Kind==19))))<;>rfl
  ·simp only[d,hK,aR,ae,aa.aC,e0,Es,ay,aB,ajg hK,al,cq,bU,dB];simp only[<-SO hK,EZ,r1,r2,r3,r4,c1,c2,c3,c4,c5,c6,c7,c8,c9,ay,aB,al,ae];cases (t.Kind==30)<;>cases ((t.Kind==20)||(t.Kind==21))<;>cases ((t.Kind==12)||((t.Kind==13)||((t.Kind==22)||((t.Kind==23)||(t.Kind==15)))))<;>cases (t.Kind==14)<;>cases ((t.Kind==16)||((t.Kind==17)||((t.Kind==18)||(t.Kind==19))))<;>rfl
theorem SR(t:aa)(hs:t.sz<=1048576):M.sU t 5=some (cN 5 t):=SQ ad 5 t (by have:=bz;omega) (by omega) hs
end M
namespace M
open Go.V (inB cg aw ad bz)
def AL(K:Int):Bool:=(K==12)||((K==13)||((K==22)||(K==23)))
def dt(K:Int):Bool:=(K==14)||(K==17)
def lH(K:Int)(n:Int):Int:=bif AL K then 1 else bif K==14 then 2 else bif K==15 then 1 else bif(K==16)||(K==17)then n else 0
def km(K:Int)(n:Int):Int:=bif AL K then 1 else bif K==14 then 2 else bif K==15 then 6 else bif(K==16)||(K==17)then n else 0
def nK(K:Int):Bool:= !((!(decide (1<=K)&&decide (K<=23)))&&(K !=30))
def kR(g:aa->Int)(u:Bool):List aa->Int->Int
 |[],s=>s
 |x::r,s=>bif u&&(x.Kind==1)then kR g u r (s+1)else bif decide (g x<0)||decide (12000<s)then -1 else kR g u r (s+g x)
def bX:Nat->aa->Int
 |0,_=> -1
 |d+1,t=>bif(decide ((16:Int)<((t.bj.length:Nat):Int))||decide ((16:Int)<((t.Kids.length:Nat):Int)))||decide ((12:Int)<((t.Name.length:Nat):Int))then -1
  else bif(!nK t.Kind)|| !(decide (lH t.Kind ((t.bj.length:Nat):Int)<=((t.Kids.length:Nat):Int))&&decide (((t.Kids.length:Nat):Int)<=km t.Kind ((t.bj.length:Nat):Int)))then -1
  else kR (bX d) (dt t.Kind) t.Kids 1
theorem LM(g:aa->Int)(u:Bool)(B:Int)(hB:0<=B):∀(l:List aa)(s:Int),(∀x∈l,g x<=B)->l.length<=16->s+l.length<=12016+B->kR g u l s<=12016+B
 |[],s,_,_,h=>by rw[kR];simpa using h
 |x::r,s,hg,hl,h=>by
  simp only[ak]at hl h;rw[kR];cases (u&&(x.Kind==1))
  ·rw[aR];cases hc:(decide (g x<0)||decide (12000<s))
   ·rw[aR];rw[jU,fi,fi]at hc;have:=hg x (by simp);exact LM g u B hB r _ (fun y hy=>hg y (by simp[hy])) (by omega) (by omega)
   ·rw[ae];omega
  ·rw[ae];exact LM g u B hB r _ (fun y hy=>hg y (by simp[hy])) (by omega) (by omega)
theorem SS:∀(d:Nat)(t:aa),bX d t<=12016*(d:Int)
 |0,t=>by show(-1:Int)<=_;omega
 |d+1,t=>by
  rw[bX];cases hc:((decide ((16:Int)<((t.bj.length:Nat):Int))||decide ((16:Int)<((t.Kids.length:Nat):Int)))||decide ((12:Int)<((t.Name.length:Nat):Int)))
  ·rw[aR];simp only[jU,fi]at hc;have h1:=LM (bX d) (dt t.Kind) (12016*(d:Int)) (by omega) t.Kids 1 (fun x _=>SS d x) (by omega) (by omega);have key:∀q:Bool,(bif q then -1 else kR (bX d) (dt t.Kind) t.Kids 1)<=12016*((d+1:Nat):Int):=fun q=>by
    cases q<;>simp only[ae,aR]<;>omega
   exact key _
  ·rw[ae];omega
theorem LN{rec:aa->Int->Option Int}{deep:Int}{g:aa->Int}{t:aa}{B:Int}(hk:t.Kids.length<=16)(hr:∀x∈t.Kids,rec x (Go.IntKind.wrap .i64 (deep-1))=some (g x))(hB:∀x∈t.Kids,g x<=B)(h0:0<=B)(h1:B<=1000000):
 ∀(f k:Nat)(s:Int),t.Kids.length-k<f->k<=t.Kids.length->0<=s->s+((t.Kids.length-k:Nat):Int)<=12016+B->∃y,M.va rec deep f s (k:Int) t=some y/\Sum.elim id id y=kR g (dt t.Kind) (t.Kids.drop k) s
 |0,k,s,h,_,_,_=>by omega
 |f+1,k,s,h,hkl,hs,hsb=>by
  rw[M.va];rcases cP k t.Kids.length with q|q
  ·have hm:=cE q;rw[jg q,kR];simp only[eS q,bw,dz _ q,aa.aC,hr _ hm,ay,aB,ae,dI q,al,cq,bZ q (by omega:t.Kids.length<2^62)]
   show ∃y,(bif dt t.Kind&&_ then _ else _)=some y/\_
   cases hu:(dt t.Kind&&(t.Kids[k].Kind==1))
   ·simp only[aR];cases hc:(decide (g t.Kids[k]<0)||decide (12000<s))
    ·simp only[aR];rw[jU,fi,fi]at hc;have:=hB _ hm;rw[wrap_i64 (show -9223372036854775808<=s+g t.Kids[k] by omega) (by omega)];exact LN hk hr hB h0 h1 f (k+1) _ (by omega) (by omega) (by omega) (by omega)
    ·simp only[ae];exact⟨_,rfl,rfl⟩
   ·simp only[ae];rw[wrap_i64 (show -9223372036854775808<=s+1 by omega) (by omega)];exact LN hk hr hB h0 h1 f (k+1) _ (by omega) (by omega) (by omega) (by omega)
  ·simp only[jD q,aR];rw[List.drop_eq_nil_of_le q,kR];exact⟨_,rfl,rfl⟩
theorem ajh{α:Type}(q:Bool)(a b:α):(bif q then some a else some b)=some (bif q then a else b):=by cases q<;>rfl
theorem SU:∀(m d:Nat)(t:aa),d<m->d<=10->M.vc m t (d:Int)=some (bX d t)
 |0,d,t,h,_=>by omega
 |m+1,0,t,h,_=>rfl
 |m+1,d+1,t,h,hd=>by
  show M.E5 (M.vc m) t _=_
  have e0:(((d+1:Nat):Int)==0)=false:=by rw[cQ];omega
  have hw:Go.IntKind.wrap .i64 (((d+1:Nat):Int)-1)=(d:Int):=by rw[wrap_i64 (by omega) (by omega)];omega
  unfold M.E5;rw[bX];simp only[e0,mm,EZ,aa.aC];cases hc:((decide ((16:Int)<((t.bj.length:Nat):Int))||decide ((16:Int)<((t.Kids.length:Nat):Int)))||decide ((12:Int)<((t.Name.length:Nat):Int)))
  ·simp only[aR];simp only[jU,fi]at hc;have e1:(!nK t.Kind)=((!(decide (1<=t.Kind)&&decide (t.Kind<=23)))&&(t.Kind !=30)):=by unfold nK;rw[Bool.not_not]
   rw[e1];unfold lH km AL;obtain⟨y,hy,hv⟩:=LN (rec:=M.vc m) (deep:=((d+1:Nat):Int)) (g:=bX d) (t:=t) (B:=12016*(d:Int)) (by omega) (fun x hx=>by rw[hw];exact SU m d x (by omega) (by omega)) (fun x _=>SS d x) (by omega) (by omega) ad 0 1 (by have:=bz;omega) (by omega) (by omega) (by omega);rw[show((0:Nat):Int)=0 from rfl]at hy;rw[lR]at hv;simp only[hy,<-hv];cases y<;>exact ajh _ _ _
  ·rfl
theorem SV(t:aa):M.AM t 4=some (bX 4 t):=SU ad 4 t (by have:=bz;omega) (by omega)
structure aji (d:Nat) (t:aa):Prop where
 kin:(1<=t.Kind/\t.Kind<=23)\/t.Kind=30
 res:t.Kind=14->t.Kids.length=2
 lab:(t.Kind=16\/t.Kind=17)->t.Kids.length=t.bj.length
 non:(t.Kind=18\/t.Kind=19)->t.Kids.length=0
 kid:∀x∈t.Kids,(dt t.Kind&&(x.Kind==1))=true\/0<=bX d x
theorem LP(g:aa->Int)(u:Bool):∀(l:List aa)(s:Int),0<=kR g u l s->∀x∈l,(u&&(x.Kind==1))=true\/0<=g x
 |[],s,_,x,hx=>by cases hx
 |y::r,s,h,x,hx=>by
  rw[kR]at h;cases hu:(u&&(y.Kind==1))<;>rw[hu]at h
  ·rw[aR]at h;cases hc:(decide (g y<0)||decide (12000<s))<;>rw[hc]at h
   ·rw[aR]at h;rw[jU,fi,fi]at hc;rcases jm.1 hx with q|q
    ·rw[q];right;omega
    ·exact LP g u r _ h x q
   ·rw[ae]at h;omega
  ·rw[ae]at h;rcases jm.1 hx with q|q
   ·rw[q];left;exact hu
   ·exact LP g u r _ h x q
theorem ajj{d:Nat}{t:aa}(h:0<=bX (d+1) t):aji d t:=by
 rw[bX]at h;cases hc:((decide ((16:Int)<((t.bj.length:Nat):Int))||decide ((16:Int)<((t.Kids.length:Nat):Int)))||decide ((12:Int)<((t.Name.length:Nat):Int)))<;>rw[hc]at h
 ·rw[aR]at h;cases hq:((!nK t.Kind)|| !(decide (lH t.Kind ((t.bj.length:Nat):Int)<=((t.Kids.length:Nat):Int))&&decide (((t.Kids.length:Nat):Int)<=km t.Kind ((t.bj.length:Nat):Int))))<;>rw[hq]at h
  ·rw[aR]at h;simp only[jU,Bool.not_eq_false',cG,bB]at hq;obtain⟨h1,h2,h3⟩:=hq;refine⟨?_,?_,?_,?_,LP _ _ _ _ h⟩
   ·unfold nK at h1;simp only[fk,Bool.and_eq_false_iff,Bool.not_eq_false',cG,bB,bne_eq_false_iff_eq]at h1;exact h1
   ·intro e;rw[e]at h2 h3;have a:lH 14 ((t.bj.length:Nat):Int)=2:=rfl;have b:km 14 ((t.bj.length:Nat):Int)=2:=rfl;rw[a]at h2;rw[b]at h3;omega
   ·intro e;rcases e with e|e<;>rw[e]at h2 h3
    ·have a:lH 16 ((t.bj.length:Nat):Int)=((t.bj.length:Nat):Int):=rfl;have b:km 16 ((t.bj.length:Nat):Int)=((t.bj.length:Nat):Int):=rfl;rw[a]at h2;rw[b]at h3;omega
    ·have a:lH 17 ((t.bj.length:Nat):Int)=((t.bj.length:Nat):Int):=rfl;have b:km 17 ((t.bj.length:Nat):Int)=((t.bj.length:Nat):Int):=rfl;rw[a]at h2;rw[b]at h3;omega
   ·intro e;rcases e with e|e<;>rw[e]at h3
    ·have b:km 18 ((t.bj.length:Nat):Int)=0:=rfl;rw[b]at h3;omega
    ·have b:km 19 ((t.bj.length:Nat):Int)=0:=rfl;rw[b]at h3;omega
  ·rw[ae]at h;omega
 ·rw[ae]at h;omega
end M
namespace M
open Go.V (inB cg aw ad bz)
theorem ajk:Option.getD M.jw default++Option.getD M.jx default=words:=by decide
theorem ajl:Option.isSome M.jw=true:=by decide
theorem ajm:Option.isSome M.jx=true:=by decide
theorem kwS{K:Int}(h1:1<=K)(h2:K<=23):List.getD words (Int.toNat (Go.IntKind.wrap .i64 (K-1))) []=fM K/\inB (Go.IntKind.wrap .i64 (K-1)) words.length=true:=by
 rw[wrap_i64 (by omega) (by omega)];obtain⟨n,hn⟩:=Dq (show 0<=K-1 by omega);have hK:K=((n+1:Nat):Int):=by omega
 subst hK;rw[hn,SO (by rw[cG,bB,bB];exact⟨h1,h2⟩),bw,bw,dD,bB,show words.length=23 from rfl];exact⟨rfl,by omega⟩
theorem E6(k:Nat)(s:List UInt8):(bif decide ((0:Int)<(k:Int))then s++[(44:UInt8),32]else s).length<=s.length+2:=by
 cases decide ((0:Int)<(k:Int))<;>simp
theorem E7(k:Nat){s:List UInt8}(h:s.length<=2000000000):aw s [(44:UInt8),32]=true:=bA (by simp only[ak,bf];omega)
theorem ajo{rec:aa->Option (List UInt8)}(f:aa->List UInt8)(l:List aa)(hl:l.length<=1048576)(hb:aQ List.length (l.map f)<=268435456)(hr:∀x∈l,rec x=some (f x)):M.AN rec l=some (jn (l.map f)):=by
 unfold M.AN;have e:=E3 (F:=fun n s i=>M.qL rec l n s i) (h:=some) (l.map f) (by rw[fq];omega) [] (fun n k s hk hs=>by
  rw[fq]at hk
  show M.qL rec l (n+1) s (k:Int)=_
  rw[M.qL];have hm:=cE hk;have hx:=dL List.length (l.map f) (f l[k]) (List.mem_map_of_mem hm);have hc:=E6 k s;simp only[bf]at hs;have c1:aw (bif decide ((0:Int)<(k:Int))then s++[44,32]else s) (f l[k])=true:=bA (by omega);simp only[eS hk,bw,dz _ hk,aa.aC,hr _ hm,ay,aB,ae,dI hk,E7 k (show s.length<=2000000000 by omega),c1,al,cq,bZ hk (by omega:l.length<2^62),Dv]) (fun n s=>by
  show M.qL rec l (n+1) s _=_
  rw[fq,M.qL];simp)
 simp only[fB]at e;rw[e]
theorem ajp{rec:aa->Option (List UInt8)}(f:aa->List UInt8)(t:aa)(hL:t.bj.length<=1048576)(hb:aQ List.length t.bj+aQ List.length (t.Kids.map f)<=134217728)(hlab:(t.Kind=16\/t.Kind=17)->t.Kids.length=t.bj.length)(SX:(t.Kind=18\/t.Kind=19)->t.Kids.length=0)
 (hK:t.Kind=16\/t.Kind=17\/t.Kind=18\/t.Kind=19) (hr:∀x∈t.Kids,(dt t.Kind&&(x.Kind==1))=true\/rec x=some (f x)):M.AO rec t=some (([32,123,32]++jn (labT t.Kind t.bj t.Kids (t.Kids.map f)))++[32,125]):=by
 have hs1:=u7 t.Kind t.bj t.Kids (t.Kids.map f);have hs2:=mS t.Kind t.bj t.Kids (t.Kids.map f);have hle:=de List.length t.bj;have hj:=kQ (labT t.Kind t.bj t.Kids (t.Kids.map f));unfold M.AO;have e:=E3 (F:=fun n s i=>M.qM rec n s i t) (h:=some) (labT t.Kind t.bj t.Kids (t.Kids.map f)) (by omega) [] (fun n k s hk hs=>by
  have hk':=hk;rw[mS]at hk;have hg:=E2 t.Kind f t.bj t.Kids k hk;rw[getD_lt hk',dz _ hk]at hg
  show M.qM rec (n+1) s (k:Int) t=_
  rw[M.qM];have hml:=dL List.length t.bj t.bj[k] (cE hk);have hc:=E6 k s;simp only[bf]at hs;have c1:aw (bif decide ((0:Int)<(k:Int))then s++[44,32]else s) t.bj[k]=true:=bA (by omega);simp only[eS hk,bw,dz _ hk,aa.aC,ae,dI hk,E7 k (show s.length<=2000000000 by omega),c1,al,cq,bZ hk (by omega:t.bj.length<2^62),hg];generalize hq:(bif decide ((0:Int)<(k:Int))then s++[44,32]else s)=q at*;rcases hK with h|h|h|h
  ·have hkk:k<t.Kids.length:=by rw[hlab (.inl h)];exact hk
   have hm:=cE hkk;have hx:=dL List.length (t.Kids.map f) (f t.Kids[k]) (List.mem_map_of_mem hm);have er:rec t.Kids[k]=some (f t.Kids[k]):=(hr _ hm).resolve_left (by rw[h,show dt 16=false from rfl,cL];decide);have c2:aw [58,32] (f t.Kids[k])=true:=bA (by simp only[ak,bf];omega);have c3:aw (q++t.bj[k]) ([58,32]++f t.Kids[k])=true:=bA (by simp only[aN,ak,bf];omega);rw[dif_pos hkk];simp only[h,dz _ hkk,er,ay,aB,dI hkk,c2,c3,al,df,iz,cq,ae];simp only[fO]
  ·have hkk:k<t.Kids.length:=by rw[hlab (.inr h)];exact hk
   have hm:=cE hkk;have n16:((17:Int)==16)=false:=rfl;rw[dif_pos hkk];cases h1:(t.Kids[k].Kind==1)
   ·have hx:=dL List.length (t.Kids.map f) (f t.Kids[k]) (List.mem_map_of_mem hm);have er:rec t.Kids[k]=some (f t.Kids[k]):=(hr _ hm).resolve_left (by rw[h1,Bool.and_false];decide);have c2:aw [40] (f t.Kids[k])=true:=bA (by simp only[ak,bf];omega);have c3:aw ([40]++f t.Kids[k]) [41]=true:=bA (by simp only[aN,ak,bf];omega);have c4:aw (q++t.bj[k]) (([40]++f t.Kids[k])++[41])=true:=bA (by simp only[aN,ak,bf];omega);simp only[h,n16,xK,h1,dz _ hkk,er,ay,aB,dI hkk,c2,c3,c4,al,df,iz,cq,bu,dT,lg,dB,bU,ae,aR];simp only[fO]
   ·simp only[h,n16,xK,h1,dz _ hkk,dI hkk,al,df,iz,cq,bu,dT,lg,dB,bU,Bool.and_false,ae,aR]
  ·have hkk:¬k<t.Kids.length:=by rw[SX (.inl h)];omega
   have n16:((18:Int)==16)=false:=rfl;have n17:((18:Int)==17)=false:=rfl;have ft:(false==true)=false:=rfl;rw[dif_neg hkk];simp only[h,n16,n17,ft,cL,bu,iz,lg,al,ae,aR]
  ·have hkk:¬k<t.Kids.length:=by rw[SX (.inr h)];omega
   have n16:((19:Int)==16)=false:=rfl;have n17:((19:Int)==17)=false:=rfl;have ft:(false==true)=false:=rfl;rw[dif_neg hkk];simp only[h,n16,n17,ft,cL,bu,iz,lg,al,ae,aR]) (fun n s=>by
  show M.qM rec (n+1) s _ t=_
  rw[mS,M.qM];simp)
 simp only[fB]at e;rw[aa.aC,e];have c1:aw [32,123,32] (jn (labT t.Kind t.bj t.Kids (t.Kids.map f)))=true:=bA (by simp only[ak,bf];omega);have c2:aw ([32,123,32]++jn (labT t.Kind t.bj t.Kids (t.Kids.map f))) [32,125]=true:=bA (by simp only[aN,ak,bf];omega);simp only[c1,c2,al,ae]
theorem ajq:fM 14=[114,101,115,117,108,116]:=by decide
theorem ajr{rec:aa->Option (List UInt8)}(f:aa->List UInt8)(t:aa)(x y:aa)(hxy:t.Kids=[x,y])(hb:(f x).length+(f y).length<=134217728)(hx:(x.Kind==1)=true\/rec x=some (f x))(hy:(y.Kind==1)=true\/rec y=some (f y)):M.AP rec x y=some (fM 14++sQ t (t.Kids.map f)):=by
 unfold M.AP sQ;rw[hxy,ajq];simp only[eG,List.map_nil,ak,bf,List.getD_cons_zero,List.getD_cons_succ,aa.aC,xK];have e2:((((0+1+1:Nat)):Int)==2)=true:=rfl;rw[e2];simp only[dT,aR];cases h1:(x.Kind==1)<;>cases h2:(y.Kind==1)
 ·have ex:=hx.resolve_left (by rw[h1];decide);have ey:=hy.resolve_left (by rw[h2];decide);have c1:aw [44,32] (f y)=true:=bA (by simp only[ak,bf];omega);have c2:aw (f x) ([44,32]++f y)=true:=bA (by simp only[aN,ak,bf];omega);have c3:aw [114,101,115,117,108,116,60] (f x++([44,32]++f y))=true:=bA (by simp only[aN,ak,bf];omega);have c4:aw ([114,101,115,117,108,116,60]++(f x++([44,32]++f y))) [62]=true:=bA (by simp only[aN,ak,bf];omega);simp only[ex,ey,bu,dT,al,ae,aR,ay,aB,cq,iz,c1,c2,c3,c4];simp
 ·have ex:=hx.resolve_left (by rw[h1];decide);have c3:aw [114,101,115,117,108,116,60] (f x)=true:=bA (by simp only[aN,ak,bf];omega);have c4:aw ([114,101,115,117,108,116,60]++f x) [62]=true:=bA (by simp only[aN,ak,bf];omega);simp only[ex,bu,dT,al,Bool.and_false,dB,ae,aR,ay,aB,cq,iz,lg,c3,c4];simp
 ·have ey:=hy.resolve_left (by rw[h2];decide);have c1:aw [44,32] (f y)=true:=bA (by simp only[ak,bf];omega);have c2:aw [95] ([44,32]++f y)=true:=bA (by simp only[aN,ak,bf];omega);have c3:aw [114,101,115,117,108,116,60] ([95]++([44,32]++f y))=true:=bA (by simp only[aN,ak,bf];omega);have c4:aw ([114,101,115,117,108,116,60]++([95]++([44,32]++f y))) [62]=true:=bA (by simp only[aN,ak,bf];omega);simp only[ey,bu,dT,al,Bool.and_false,dB,cL,ae,aR,ay,aB,cq,iz,lg,c1,c2,c3,c4];simp
 ·simp
theorem SY:∀(m n:Nat)(t:aa),n<m->t.sz<=1048576->0<=bX n t->M.mT m t=some (cN (n+1) t)
 |0,n,t,h,_,_=>by omega
 |m+1,0,t,h,_,h0=>absurd h0 (by show ¬(0:Int)<= -1;omega)
 |m+1,n+1,t,h,hs,h0=>by
  show M.E8 (M.mT m) t=_
  have hS:=ajj h0;have hz:=aa.cu t;have hrec:∀x∈t.Kids,0<=bX n x->M.mT m x=some (cN (n+1) x):=fun x hx h=>SY m n x (by omega) (by have:=aa.Am hx;omega) h
  have hrk:∀x∈t.Kids,(dt t.Kind&&(x.Kind==1))=true\/M.mT m x=some (cN (n+1) x):=fun x hx=>(hS.kid x hx).imp id (hrec x hx)
  have hk:=aa.EP hs;have hkl:=SL (n+1) t.Kids;have hkw:=LJ t.Kind;have hj:=kQ (t.Kids.map (cN (n+1)));have hle:=de List.length t.bj;have hsk:=de aa.sz t.Kids;have hmk:(t.Kids.map (cN (n+1))).length=t.Kids.length:=fq _;have hl:=u7 t.Kind t.bj t.Kids (t.Kids.map (cN (n+1)));have hll:=mS t.Kind t.bj t.Kids (t.Kids.map (cN (n+1)));have hj2:=kQ (labT t.Kind t.bj t.Kids (t.Kids.map (cN (n+1))));rw[cN];unfold M.E8 bodyT E0 E1;cases h30:(t.Kind==30)
  ·have hK:1<=t.Kind/\t.Kind<=23:=hS.kin.resolve_right (fun e=>by rw[e]at h30;exact absurd h30 (by decide));obtain⟨w1,w2⟩:=kwS hK.1 hK.2;simp only[aR,EZ,ajk,ajl,ajm,w1,w2,al,cq,bU,aa.aC];have c1:aw (fM t.Kind) [60]=true:=bA (by simp only[aN,ak,bf];omega);have c2:aw (fM t.Kind++[60]) t.Name=true:=bA (by simp only[aN,ak,bf];omega);have c3:aw ((fM t.Kind++[60])++t.Name) [62]=true:=bA (by simp only[aN,ak,bf];omega);have c4:aw (fM t.Kind++[60]) (jn (t.Kids.map (cN (n+1))))=true:=bA (by simp only[aN,ak,bf];omega);have c5:aw ((fM t.Kind++[60])++jn (t.Kids.map (cN (n+1)))) [62]=true:=bA (by simp only[aN,ak,bf];omega);cases hW:((t.Kind==12)||((t.Kind==13)||((t.Kind==22)||((t.Kind==23)||(t.Kind==15)))))
   ·simp only[aR];cases uL:(t.Kind==14)
    ·simp only[aR];cases h20:((t.Kind==20)||(t.Kind==21))
     ·simp only[aR];cases hL:((t.Kind==16)||((t.Kind==17)||((t.Kind==18)||(t.Kind==19))))
      ·simp only[aR,ae]
      ·have hL':t.Kind=16\/t.Kind=17\/t.Kind=18\/t.Kind=19:=by simpa only[ej,cK]using hL
       have r:=ajp (rec:=M.mT m) (cN (n+1)) t (by omega) (by omega) hS.lab hS.non hL' hrk;have c6:aw (fM t.Kind) (([32,123,32]++jn (labT t.Kind t.bj t.Kids (t.Kids.map (cN (n+1)))))++[32,125])=true:=bA (by simp only[aN,ak,bf];omega);simp only[r,c6,ae,ay,aB,al];simp only[fO]
     ·simp only[c1,c2,c3,ae,al]
    ·have e14:t.Kind=14:=cK.1 uL;have h2:=hS.res e14;obtain⟨x,y,hxy⟩:∃x y,t.Kids=[x,y]:=by
      match hh:t.Kids,h2 with
      |[x,y],_=>exact⟨x,y,rfl⟩
     have h20:((t.Kind==20)||(t.Kind==21))=false:=by rw[e14];rfl
     have u:∀z∈t.Kids,(z.Kind==1)=true\/M.mT m z=some (cN (n+1) z):=fun z hz=>(hrk z hz).imp (fun q=>(Bool.and_eq_true_iff.1 q).2) id
     have hkl':=hkl;rw[hxy]at hkl';simp only[eG,List.map_nil,aQ]at hkl';have hsz:=hz;rw[hxy]at hsz;simp only[aQ]at hsz;have r:=ajr (rec:=M.mT m) (cN (n+1)) t x y hxy (by omega) (u x (by rw[hxy];simp)) (u y (by rw[hxy];simp));have i0:inB (0:Int) t.Kids.length=true:=by rw[hxy];rfl
     have i1:inB (1:Int) t.Kids.length=true:=by rw[hxy];rfl
     have g0:List.getD t.Kids (Int.toNat 0) aa.zero=x:=by rw[hxy];rfl
     have g1:List.getD t.Kids (Int.toNat 1) aa.zero=y:=by rw[hxy];rfl
     simp only[g0,g1,i0,i1,r,h20,e14,ae,aR,ay,aB,al];rfl
   ·have hW':t.Kind=12\/t.Kind=13\/t.Kind=22\/t.Kind=23\/t.Kind=15:=by simpa only[ej,cK]using hW
    have h20:((t.Kind==20)||(t.Kind==21))=false:=by rcases hW' with e|e|e|e|e<;>rw[e]<;>rfl
    have hun:dt t.Kind=false:=by rcases hW' with e|e|e|e|e<;>rw[e]<;>rfl
    have r:=ajo (rec:=M.mT m) (cN (n+1)) t.Kids hk (by omega) (fun x hx=>(hrk x hx).resolve_left (by rw[hun,cL];decide));simp only[h20,r,c1,c4,c5,ae,aR,ay,aB,al]
  ·simp only[ae]
theorem LQ(t:aa)(hs:t.sz<=1048576)(h:0<=bX 4 t):M.xM t=some (cN 5 t):=SY ad 4 t (by have:=bz;omega) hs h
end M
namespace M
open Go.V (inB cg aw ad bz)
def ji(u:aM):List UInt8:=bif !(u.As==[])then u.Name++([32,97,115,32]++u.As)else u.Name
def iK(p:az):List UInt8:=(p.Name++[58,32])++cN 5 p.Term
def oS(x:ah):List UInt8:=bif x.Async then(x.Name++[58,32])++[97,115,121,110,99,32]else x.Name++[58,32]
def vd(x:ah):List UInt8:=oS x++(([102,117,110,99,40]++jn (x.Params.map iK))++[41])
def kn(pt:bc->List UInt8)(x:ah):List UInt8:=
 bif x.Kind==1 then[114,101,115,111,117,114,99,101,32]++x.Name
 else bif x.Kind==2 then(([116,121,112,101,32]++x.Name)++[32,61,32])++cN 5 x.Term
 else bif x.Kind==4 then((([117,115,101,32]++pt x.From)++[46,123])++jn (x.Uses.map ji))++[125]
 else bif x.Term.Kind !=1 then vd x++([32,45,62,32]++cN 5 x.Term)else vd x
theorem ajs(u:aM):(ji u).length<=u.sz+4:=by
 have:=aM.cu u;unfold ji;cases (u.As==[])<;>simp<;>omega
theorem AQ:∀l:List aM,aQ List.length (l.map ji)<=20*aQ aM.sz l
 |[]=>by simp[aQ]
 |u::r=>by have:=ajs u;have:=AQ r;simp only[eG,aQ];omega
theorem ajt(p:az):(iK p).length<=16*p.sz+16:=by
 have:=az.cu p;have:=sR 5 p.Term;unfold iK;simp only[aN,ak,bf];omega
theorem AS:∀l:List az,aQ List.length (l.map iK)<=20*aQ az.sz l
 |[]=>by simp[aQ]
 |u::r=>by have:=ajt u;have:=AS r;simp only[eG,aQ];omega
theorem LR(x:ah):(oS x).length<=x.Name.length+8:=by
 unfold oS;cases x.Async<;>simp
theorem mU(p:bc):(dk p).length<=p.sz+2:=by
 have:=bc.cu p;unfold dk;cases (p.ba==[])<;>cases (p.Version==[])<;>simp<;>omega
theorem oU(p:bc):(eC p).length<=p.sz+2:=by
 have:=bc.cu p;unfold eC;cases (p.ba==[])<;>cases (p.Version==[])<;>simp<;>omega
theorem LS(pt:bc->List UInt8)(hp:∀p,(pt p).length<=p.sz+2)(x:ah):(kn pt x).length<=40*x.sz+40:=by
 have hz:=ah.cu x;have h1:=sR 5 x.Term;have h2:=AQ x.Uses;have h3:=AS x.Params;have h4:=LR x;have h5:=hp x.From;have j1:=kQ (x.Uses.map ji);have j2:=kQ (x.Params.map iK);have l1:=de List.length (x.Uses.map ji);have l2:=de List.length (x.Params.map iK);unfold kn vd;cases (x.Kind==1)<;>cases (x.Kind==2)<;>cases (x.Kind==4)<;>cases (x.Term.Kind !=1)<;>simp only[ae,aR,aN,ak,bf]<;>omega
theorem aju(x:ah)(h:x.sz<=1048576):M.oV x.Uses ((x.Uses.length:Nat):Int) ad 0 x []=some (x,x.Uses.map ji):=by
 have hz:=ah.cu x;have hl:=de aM.sz x.Uses;have e:=LK (F:=fun n i o=>M.oV x.Uses ((x.Uses.length:Nat):Int) n i x o) (h:=fun o=>some (x,o)) ji x.Uses (by omega) [] (fun n k out hk ho=>by
  show M.oV x.Uses ((x.Uses.length:Nat):Int) (n+1) (k:Int) x out=_
  rw[M.oV];have hm:=dL aM.sz x.Uses x.Uses[k] (cE hk);have hu:=aM.cu x.Uses[k];have hc:∀y:List UInt8,decide (out.length+[y].length<=1073741824)=true:=fun y=>EY (by simp at ho⊢;omega)
  have c1:aw [32,97,115,32] x.Uses[k].As=true:=bA (by simp only[ak,bf];omega);have c2:aw x.Uses[k].Name ([32,97,115,32]++x.Uses[k].As)=true:=bA (by simp only[aN,ak,bf];omega);simp only[eS hk,bw,dz _ hk,ae,dI hk,hc,c1,c2,al,cq,ah.aC,bZ hk (by omega:x.Uses.length<2^62)];rfl) (fun n out=>by
  show M.oV x.Uses ((x.Uses.length:Nat):Int) (n+1) _ x out=_
  rw[M.oV];simp only[Int.lt_irrefl,gU,aR,ah.aC])
 simpa using e
theorem ajv(text:List UInt8)(x:ah)(h:x.sz<=1048576):M.oW text x.Params ((x.Params.length:Nat):Int) ad 0 x []=some (text,x,x.Params.map iK):=by
 have hz:=ah.cu x;have hl:=de az.sz x.Params;have e:=LK (F:=fun n i o=>M.oW text x.Params ((x.Params.length:Nat):Int) n i x o) (h:=fun o=>some (text,x,o)) iK x.Params (by omega) [] (fun n k out hk ho=>by
  show M.oW text x.Params ((x.Params.length:Nat):Int) (n+1) (k:Int) x out=_
  rw[M.oW];have hm:=dL az.sz x.Params x.Params[k] (cE hk);have hu:=az.cu x.Params[k];have ht:=sR 5 x.Params[k].Term;have hc:∀y:List UInt8,decide (out.length+[y].length<=1073741824)=true:=fun y=>EY (by simp at ho⊢;omega)
  have c1:aw x.Params[k].Name [58,32]=true:=bA (by simp only[ak,bf];omega);have c2:aw (x.Params[k].Name++[58,32]) (cN 5 x.Params[k].Term)=true:=bA (by simp only[aN,ak,bf];omega);have et:M.sU x.Params[k].Term 5=some (cN 5 x.Params[k].Term):=SR _ (by omega);simp only[eS hk,bw,dz _ hk,ae,aa.aC,et,ay,aB,dI hk,hc,c1,c2,al,ah.aC,bZ hk (by omega:x.Params.length<2^62)];rfl) (fun n out=>by
  show M.oW text x.Params ((x.Params.length:Nat):Int) (n+1) _ x out=_
  rw[M.oW];simp only[Int.lt_irrefl,gU,aR,ah.aC])
 simpa using e
theorem ajw(x:ah)(h:x.sz<=1048576):M.AT x=some (kn dk x):=by
 have hz:=ah.cu x;have h1:=sR 5 x.Term;have h2:=AQ x.Uses;have h3:=AS x.Params;have h4:=LR x;have h5:=mU x.From;have j1:=kQ (x.Uses.map ji);have j2:=kQ (x.Params.map iK);have l1:=de List.length (x.Uses.map ji);have l2:=de List.length (x.Params.map iK);have et:M.sU x.Term 5=some (cN 5 x.Term):=SR _ (by omega);have ep:M.sN x.From=some (dk x.From):=SD _ (by omega);have ej1:=EX (x.Uses.map ji) (by omega);have ej2:=EX (x.Params.map iK) (by omega);have ex:ah.re x=x:=ah.aC x;unfold M.AT kn;cases hK1:(x.Kind==1)
 ·cases hK2:(x.Kind==2)
  ·cases hK4:(x.Kind==4)
   ·have c1:aw x.Name [58,32]=true:=bA (by simp only[aN,ak,bf];omega);have c2:aw (x.Name++[58,32]) [97,115,121,110,99,32]=true:=bA (by simp only[aN,ak,bf];omega);have c3:aw [102,117,110,99,40] (jn (x.Params.map iK))=true:=bA (by simp only[aN,ak,bf];omega);have c4:aw ([102,117,110,99,40]++jn (x.Params.map iK)) [41]=true:=bA (by simp only[aN,ak,bf];omega);have c5:aw (oS x) (([102,117,110,99,40]++jn (x.Params.map iK))++[41])=true:=bA (by simp only[aN,ak,bf];omega);have c6:aw [32,45,62,32] (cN 5 x.Term)=true:=bA (by simp only[aN,ak,bf];omega);have c7:aw (vd x) ([32,45,62,32]++cN 5 x.Term)=true:=bA (by unfold vd;simp only[aN,ak,bf];omega);simp only[aR,ex,ajv _ x h,aa.aC,et,ej2,ay,aB];rw[show(bif x.Async then(x.Name++[58,32])++[97,115,121,110,99,32]else x.Name++[58,32])=oS x from rfl];rw[show oS x++(([102,117,110,99,40]++jn (x.Params.map iK))++[41])=vd x from rfl];simp only[c1,c2,c3,c4,c5,c6,c7,al,cq,ae]
   ·have c1:aw [117,115,101,32] (dk x.From)=true:=bA (by simp only[aN,ak,bf];omega);have c2:aw ([117,115,101,32]++dk x.From) [46,123]=true:=bA (by simp only[aN,ak,bf];omega);have c3:aw (([117,115,101,32]++dk x.From)++[46,123]) (jn (x.Uses.map ji))=true:=bA (by simp only[aN,ak,bf];omega);have c4:aw ((([117,115,101,32]++dk x.From)++[46,123])++jn (x.Uses.map ji)) [125]=true:=bA (by simp only[aN,ak,bf];omega);simp only[aR,ae,ex,aju x h,ep,ej1,ay,aB,c1,c2,c3,c4,al]
  ·have c1:aw [116,121,112,101,32] x.Name=true:=bA (by simp only[aN,ak,bf];omega);have c2:aw ([116,121,112,101,32]++x.Name) [32,61,32]=true:=bA (by simp only[aN,ak,bf];omega);have c3:aw (([116,121,112,101,32]++x.Name)++[32,61,32]) (cN 5 x.Term)=true:=bA (by simp only[aN,ak,bf];omega);simp only[aR,ae,aa.aC,et,ay,aB,c1,c2,c3,al]
 ·have c1:aw [114,101,115,111,117,114,99,101,32] x.Name=true:=bA (by simp only[aN,ak,bf];omega);simp only[ae,c1,al]
def ma(x:ah):Bool:= !((decide ((6:Int)<((x.Params.length:Nat):Int))||decide ((16:Int)<((x.Uses.length:Nat):Int)))||(decide (bX 4 x.Term<0)&&((x.Kind==2)||(x.Kind==3))))&&((x.Params.all fun p=> !decide (bX 4 p.Term<0))&&(decide (1<=x.Kind)&&decide (x.Kind<=4)))
theorem SZ(x:ah)(hl:x.Params.length<=6):∀(f k:Nat),x.Params.length-k<f->k<=x.Params.length->M.xN f (k:Int) x=some (bif((x.Params.drop k).all fun p=> !decide (bX 4 p.Term<0))then .inr x else .inl false)
 |0,k,h,_=>by omega
 |f+1,k,h,hk=>by
  rw[M.xN];have ex:ah.re x=x:=ah.aC x;rcases cP k x.Params.length with q|q
  ·have ih:=SZ x hl f (k+1) (by omega) (by omega);rw[jg q,mj];simp only[eS q,bw,dz _ q,aa.aC,SV,ay,aB,ae,dI q,al,bZ q (by omega:x.Params.length<2^62),ex,ih];cases decide (bX 4 x.Params[k].Term<0)<;>rfl
  ·simp only[jD q,aR,ex];rw[List.drop_eq_nil_of_le q];rfl
theorem ajz(x:ah):M.AU x=some (ma x):=by
 unfold M.AU ma;have ex:ah.re x=x:=ah.aC x;simp only[aa.aC,SV,ay,aB,cq,al,ae];cases hc:((decide ((6:Int)<((x.Params.length:Nat):Int))||decide ((16:Int)<((x.Uses.length:Nat):Int)))||(decide (bX 4 x.Term<0)&&((x.Kind==2)||(x.Kind==3))))
 ·have hl:x.Params.length<=6:=by
   simp only[jU,fi]at hc;omega
  have e:=SZ x hl ad 0 (by have:=bz;omega) (by omega);rw[show((0:Nat):Int)=0 from rfl,lR]at e;simp only[aR,ex,e,bu,bU];cases (x.Params.all fun p=> !decide (bX 4 p.Term<0))<;>rfl
 ·rfl
theorem ajA(x:ah)(s0:List UInt8)(h:x.sz<=1048576)(h0:s0.length<=100000000):M.oY ad s0 0 x=some (s0++jn (x.Uses.map ji)):=by
 have hz:=ah.cu x;have hl:=de aM.sz x.Uses;have h2:=AQ x.Uses;exact E3 (F:=fun n s i=>M.oY n s i x) (h:=some) (x.Uses.map ji) (by rw[fq];omega) s0 (fun n k s hk hs=>by
  rw[fq]at hk
  show M.oY (n+1) s (k:Int) x=_
  rw[M.oY];have hm:=dL aM.sz x.Uses x.Uses[k] (cE hk);have hu:=aM.cu x.Uses[k];have hc:=E6 k s;have ex:ah.re x=x:=ah.aC x;have c0:=E7 k (s:=s) (by omega);have c1:aw (bif decide ((0:Int)<(k:Int))then s++[44,32]else s) x.Uses[k].Name=true:=bA (by omega);have c2:aw [32,97,115,32] x.Uses[k].As=true:=bA (by simp only[ak,bf];omega);have c3:aw ((bif decide ((0:Int)<(k:Int))then s++[44,32]else s)++x.Uses[k].Name) ([32,97,115,32]++x.Uses[k].As)=true:=bA (by simp only[aN,ak,bf];omega);simp only[eS hk,bw,dz _ hk,ae,dI hk,c0,c1,c2,c3,al,cq,bZ hk (by omega:x.Uses.length<2^62),ex,Dv];unfold ji;cases (x.Uses[k].As==[])<;>simp only[bu,dT,ae,aR,fO]) (fun n s=>by
  show M.oY (n+1) s _ x=_
  rw[fq,M.oY];simp only[Int.lt_irrefl,gU,aR])
theorem ajB(x:ah)(s0:List UInt8)(h:x.sz<=1048576)(h0:s0.length<=100000000)(hp:∀p∈x.Params,0<=bX 4 p.Term):M.oZ ad s0 0 x=some (s0++jn (x.Params.map iK),x):=by
 have hz:=ah.cu x;have hl:=de az.sz x.Params;have h2:=AS x.Params;exact E3 (F:=fun n s i=>M.oZ n s i x) (h:=fun s=>some (s,x)) (x.Params.map iK) (by rw[fq];omega) s0 (fun n k s hk hs=>by
  rw[fq]at hk
  show M.oZ (n+1) s (k:Int) x=_
  rw[M.oZ];have hm:=dL az.sz x.Params x.Params[k] (cE hk);have hu:=az.cu x.Params[k];have ht:=sR 5 x.Params[k].Term;have hc:=E6 k s;have ex:ah.re x=x:=ah.aC x;have et:=LQ x.Params[k].Term (by omega) (hp _ (cE hk));have c0:=E7 k (s:=s) (by omega);have c1:aw x.Params[k].Name [58,32]=true:=bA (by simp only[ak,bf];omega);have c2:aw (x.Params[k].Name++[58,32]) (cN 5 x.Params[k].Term)=true:=bA (by simp only[aN,ak,bf];omega);have c3:aw (bif decide ((0:Int)<(k:Int))then s++[44,32]else s) ((x.Params[k].Name++[58,32])++cN 5 x.Params[k].Term)=true:=bA (by simp only[aN,ak,bf];omega);simp only[eS hk,bw,dz _ hk,ae,aa.aC,et,ay,aB,dI hk,c0,c1,c2,c3,al,cq,bZ hk (by omega:x.Params.length<2^62),ex,Dv];rfl) (fun n s=>by
  show M.oZ (n+1) s _ x=_
  rw[fq,M.oZ];simp only[Int.lt_irrefl,gU,aR,ah.aC])
theorem ajC(x:ah)(h:x.sz<=1048576)(hS:ma x=true):M.AW x=some (kn eC x):=by
 have hz:=ah.cu x;have h1:=sR 5 x.Term;have h2:=AQ x.Uses;have h3:=AS x.Params;have h4:=LR x;have h5:=oU x.From;have j1:=kQ (x.Uses.map ji);have j2:=kQ (x.Params.map iK);have l1:=de List.length (x.Uses.map ji);have l2:=de List.length (x.Params.map iK);have ep:M.sO x.From=some (eC x.From):=SE _ (by omega);unfold ma at hS;simp only[cG,fk,jU,Bool.and_eq_false_iff,fi,bB,fN,fk,fi]at hS;obtain⟨⟨⟨hs1,hs2⟩,hs3⟩,hs4,hs5,hs6⟩:=hS;have hp:∀p∈x.Params,0<=bX 4 p.Term:=fun p hp=>by have:=hs4 p hp;omega
 have ex:ah.re x=x:=ah.aC x;unfold M.AW kn;cases hK1:(x.Kind==1)
 ·cases hK2:(x.Kind==2)
  ·cases hK4:(x.Kind==4)
   ·have hK3:(x.Kind==3)=true:=by
     rw[cQ]at hK1 hK2 hK4;rw[cK];omega
    have ht:0<=bX 4 x.Term:=by
     rcases hs3 with q|⟨_,q⟩
     ·omega
     ·rw[hK3]at q;cases q
    have et:=LQ x.Term (by omega) ht;have c1:aw x.Name [58,32]=true:=bA (by simp only[aN,ak,bf];omega);have c2:aw (x.Name++[58,32]) [97,115,121,110,99,32]=true:=bA (by simp only[aN,ak,bf];omega);have c3:aw (oS x) [102,117,110,99,40]=true:=bA (by simp only[aN,ak,bf];omega);have c4:aw ((oS x++[102,117,110,99,40])++jn (x.Params.map iK)) [41]=true:=bA (by simp only[aN,ak,bf];omega);have c6:aw [32,45,62,32] (cN 5 x.Term)=true:=bA (by simp only[aN,ak,bf];omega);have c7:aw (((oS x++[102,117,110,99,40])++jn (x.Params.map iK))++[41]) ([32,45,62,32]++cN 5 x.Term)=true:=bA (by simp only[aN,ak,bf];omega);simp only[aR,ex];rw[show(bif x.Async then(x.Name++[58,32])++[97,115,121,110,99,32]else x.Name++[58,32])=oS x from rfl];rw[ajB x _ h (by simp only[aN,ak,bf];omega) hp];simp only[aa.aC,et,ay,aB,c1,c2,c3,c4,c6,c7,al,cq,ae];unfold vd;cases (x.Term.Kind !=1)<;>simp only[ae,aR,fO]
   ·have c1:aw [117,115,101,32] (eC x.From)=true:=bA (by simp only[aN,ak,bf];omega);have c2:aw ([117,115,101,32]++eC x.From) [46,123]=true:=bA (by simp only[aN,ak,bf];omega);have c4:aw ((([117,115,101,32]++eC x.From)++[46,123])++jn (x.Uses.map ji)) [125]=true:=bA (by simp only[aN,ak,bf];omega);have e:=ajA x (([117,115,101,32]++eC x.From)++[46,123]) h (by simp only[aN,ak,bf];omega);simp only[aR,ae,ex,ep,ay,aB,e,c1,c2,c4,al]
  ·have ht:0<=bX 4 x.Term:=by
    rcases hs3 with q|⟨q,_⟩
    ·omega
    ·rw[hK2]at q;cases q
   have et:=LQ x.Term (by omega) ht;have c1:aw [116,121,112,101,32] x.Name=true:=bA (by simp only[aN,ak,bf];omega);have c2:aw ([116,121,112,101,32]++x.Name) [32,61,32]=true:=bA (by simp only[aN,ak,bf];omega);have c3:aw (([116,121,112,101,32]++x.Name)++[32,61,32]) (cN 5 x.Term)=true:=bA (by simp only[aN,ak,bf];omega);simp only[aR,ae,aa.aC,et,ay,aB,c1,c2,c3,al]
 ·have c1:aw [114,101,115,111,117,114,99,101,32] x.Name=true:=bA (by simp only[aN,ak,bf];omega);simp only[ae,c1,al]
def nL(p:bc):Prop:=p.ba=[]->p.Version=[]
theorem ajD(x:ah)(h:nL x.From):kn eC x=kn dk x:=by
 unfold kn;rw[SG x.From h]
end M
namespace M
open Go.V (inB cg aw ad bz)
theorem nM{α:Type}(g:α->List UInt8):∀l:List α,((l.map g).flatten).length<=aQ (fun x=>(g x).length) l
 |[]=>by simp[aQ]
 |x::r=>by have:=nM g r;simp only[eG,List.flatten_cons,aN,aQ];omega
theorem sV{α Y:Type}{F:Nat->Int->List UInt8->Option Y}{h:List UInt8->Option Y}(g:α->List UInt8)(l:List α)(hn:l.length<=2097152)(s0:List UInt8)
 (step:∀f k s,∀hk:k<l.length,s.length<=s0.length+aQ (fun x=>(g x).length) l->F (f+1) (k:Int) s=F f ((k+1:Nat):Int) (s++g l[k]))
 (stop:∀f s,F (f+1) (l.length:Int) s=h s):F ad 0 s0=h (s0++(l.map g).flatten):=by
 have key:∀f k,k<=l.length->l.length-k<f->F f (k:Int) (s0++((l.take k).map g).flatten)=h (s0++(l.map g).flatten):=by
  intro f
  induction f with
  |zero=>intro k h1 h2;omega
  |succ f ih=>
   intro k h1 h2;rcases cP k l.length with hk|hk
   ·have hj:=nM g (l.take k);have ht:=LL (fun x=>(g x).length) l k;rw[step f k _ hk (by rw[aN];omega)];have e:(s0++((l.take k).map g).flatten)++g l[k]=s0++((l.take (k+1)).map g).flatten:=by
     rw[Dt,cH hk,Option.toList_some,yP,List.flatten_append,fO];simp
    rw[e];exact ih (k+1) (by omega) (by omega)
   ·have:k=l.length:=by omega
    subst this;rw[stop,Du]
 have:=key ad 0 (dN _) (by have:=bz;omega);simpa using this
theorem ve(s o:List UInt8)(h:o.length+s.length<=1073741824):M.nN s o=some (((s.length:Nat):Int),o++s):=by
 unfold M.nN;rw[List.map_id'];simp only[EY h,al,ae]
def kS(pt:bc->List UInt8)(x:ah):List UInt8:=([32,32]++kn pt x)++[59,10]
def jE(pt:bc->List UInt8)(f:aE):List UInt8:=((([10,105,110,116,101,114,102,97,99,101,32]++f.Name)++[32,123,10])++(f.Items.map (kS pt)).flatten)++[125,10]
def iS:List (List UInt8):=[[105,109,112,111,114,116],[101,120,112,111,114,116],[105,110,99,108,117,100,101]]
def ko(K:Int):List UInt8:=bif decide (1<=K)&&decide (K<=3)then List.getD ([]::iS) K.toNat []else[]
def kT(pt:bc->List UInt8)(x:aH):List UInt8:=((([32,32]++ko x.Kind)++[32])++pt x.Path)++[59,10]
def worldT(pt:bc->List UInt8)(w:aJ):List UInt8:=((([10,119,111,114,108,100,32]++w.Name)++[32,123,10])++(w.Items.map (kT pt)).flatten)++[125,10]
def firstT(x:aj):List UInt8:=((([112,97,99,107,97,103,101,32]++x.Name)++[64])++x.Version)++[59,10]
def iT(pt:bc->List UInt8)(x:aj):List UInt8:=(firstT x++(x.aF.map (jE pt)).flatten)++(x.Worlds.map (worldT pt)).flatten
theorem LU(K:Int):(ko K).length<=7:=by
 unfold ko;have h:∀w∈([]::iS),w.length<=7:=by
  have:((([]:List UInt8)::iS).all fun w=>decide (w.length<=7))=true:=by decide
  intro w hw;simpa using fN.1 this w hw
 cases decide (1<=K)&&decide (K<=3)
 ·simp
 ·rw[ae];rcases cP K.toNat (List.length ([]::iS))with hk|hk
  ·rw[getD_lt hk];exact h _ (cE hk)
  ·rw[gn,hZ hk];simp
theorem ajE{pt:bc->List UInt8}(hp:∀p,(pt p).length<=p.sz+2)(x:ah):(kS pt x).length<=40*x.sz+44:=by
 have:=LS pt hp x;unfold kS;simp only[aN,ak,bf];omega
theorem xO{pt:bc->List UInt8}(hp:∀p,(pt p).length<=p.sz+2):∀l:List ah,aQ (fun x=>(kS pt x).length) l<=48*aQ ah.sz l
 |[]=>by simp[aQ]
 |x::r=>by have:=ajE hp x;have:=xO hp r;simp only[aQ];omega
theorem ajF{pt:bc->List UInt8}(hp:∀p,(pt p).length<=p.sz+2)(f:aE):(jE pt f).length<=48*f.sz+16:=by
 have h1:=aE.cu f;have h2:=nM (kS pt) f.Items;have h3:=xO hp f.Items;unfold jE;simp only[aN,ak,bf];omega
theorem AX{pt:bc->List UInt8}(hp:∀p,(pt p).length<=p.sz+2):∀l:List aE,aQ (fun x=>(jE pt x).length) l<=48*aQ aE.sz l
 |[]=>by simp[aQ]
 |x::r=>by have:=ajF hp x;have:=AX hp r;simp only[aQ];omega
theorem S3{pt:bc->List UInt8}(hp:∀p,(pt p).length<=p.sz+2)(x:aH):(kT pt x).length<=x.sz+14:=by
 have h1:=aH.cu x;have h2:=LU x.Kind;have h3:=hp x.Path;unfold kT;simp only[aN,ak,bf];omega
theorem xP{pt:bc->List UInt8}(hp:∀p,(pt p).length<=p.sz+2):∀l:List aH,aQ (fun x=>(kT pt x).length) l<=48*aQ aH.sz l
 |[]=>by simp[aQ]
 |x::r=>by have:=S3 hp x;have:=xP hp r;simp only[aQ];omega
theorem ajG{pt:bc->List UInt8}(hp:∀p,(pt p).length<=p.sz+2)(f:aJ):(worldT pt f).length<=48*f.sz+16:=by
 have h1:=aJ.cu f;have h2:=nM (kT pt) f.Items;have h3:=xP hp f.Items;unfold worldT;simp only[aN,ak,bf];omega
theorem E9{pt:bc->List UInt8}(hp:∀p,(pt p).length<=p.sz+2):∀l:List aJ,aQ (fun x=>(worldT pt x).length) l<=48*aQ aJ.sz l
 |[]=>by simp[aQ]
 |x::r=>by have:=ajG hp x;have:=E9 hp r;simp only[aQ];omega
theorem ajH(a:List aE)(b c:Int)(x:aj)(l:List ah)(h:aQ ah.sz l<=1048576)(o:List UInt8)(ho:o.length<=300000000):M.pd a b c l ((l.length:Nat):Int) x ad 0 o=some (a,b,c,x,o++(l.map (kS dk)).flatten):=by
 have hl:=de ah.sz l;have hs:=xO mU l;exact sV (F:=fun n i s=>M.pd a b c l ((l.length:Nat):Int) x n i s) (h:=fun s=>some (a,b,c,x,s)) (kS dk) l (by omega) o (fun n k s hk hs'=>by
  show M.pd a b c l ((l.length:Nat):Int) x (n+1) (k:Int) s=_
  rw[M.pd];have hm:=dL ah.sz l l[k] (cE hk);have hi:=LS dk mU l[k];have ex:∀y:ah,ah.re y=y:=ah.aC;have et:=ajw l[k] (by omega);have c1:aw [32,32] (kn dk l[k])=true:=bA (by simp only[ak,bf];omega);have c2:aw ([32,32]++kn dk l[k]) [59,10]=true:=bA (by simp only[aN,ak,bf];omega);have ew:=ve (([32,32]++kn dk l[k])++[59,10]) s (by simp only[aN,ak,bf];omega);simp only[eS hk,bw,dz _ hk,ae,ex,et,ay,aB,dI hk,c1,c2,ew,al,bZ hk (by omega:l.length<2^62)];rfl) (fun n s=>by
  show M.pd a b c l ((l.length:Nat):Int) x (n+1) _ s=_
  rw[M.pd];simp only[Int.lt_irrefl,gU,aR])
theorem ajI(x:aj)(l:List aE)(h:aQ aE.sz l<=1048576)(o:List UInt8)(ho:o.length<=100000000):M.pe ad l ((l.length:Nat):Int) 0 x o=some (x,o++(l.map (jE dk)).flatten):=by
 have hl:=de aE.sz l;have hs:=AX mU l;exact sV (F:=fun n i s=>M.pe n l ((l.length:Nat):Int) i x s) (h:=fun s=>some (x,s)) (jE dk) l (by omega) o (fun n k s hk hs'=>by
  show M.pe (n+1) l ((l.length:Nat):Int) (k:Int) x s=_
  rw[M.pe];have hm:=dL aE.sz l l[k] (cE hk);have hz:=aE.cu l[k];have hi:=nM (kS dk) l[k].Items;have hi2:=xO mU l[k].Items;have c1:aw [10,105,110,116,101,114,102,97,99,101,32] l[k].Name=true:=bA (by simp only[ak,bf];omega);have c2:aw ([10,105,110,116,101,114,102,97,99,101,32]++l[k].Name) [32,123,10]=true:=bA (by simp only[aN,ak,bf];omega);have w1:=ve (([10,105,110,116,101,114,102,97,99,101,32]++l[k].Name)++[32,123,10]) s (by simp only[aN,ak,bf];omega);have ei:=ajH l ((l.length:Nat):Int) (k:Int) x l[k].Items (by omega) (s++(([10,105,110,116,101,114,102,97,99,101,32]++l[k].Name)++[32,123,10])) (by simp only[aN,ak,bf];omega);have w2:=ve [125,10] ((s++(([10,105,110,116,101,114,102,97,99,101,32]++l[k].Name)++[32,123,10]))++(l[k].Items.map (kS dk)).flatten) (by simp only[aN,ak,bf];omega);simp only[eS hk,bw,dz _ hk,ae,ay,aB,dI hk,c1,c2,w1,w2,ei,al,bZ hk (by omega:l.length<2^62)];unfold jE;simp only[fO]) (fun n s=>by
  show M.pe (n+1) l ((l.length:Nat):Int) _ x s=_
  rw[M.pe];simp only[Int.lt_irrefl,gU,aR])
theorem ajJ(a:List aJ)(b c:Int)(l:List aH)(h:aQ aH.sz l<=1048576)(o:List UInt8)(ho:o.length<=300000000):M.pf a b c l ((l.length:Nat):Int) ([]::iS) ad 0 o=some (a,b,c,[]::iS,o++(l.map (kT dk)).flatten):=by
 have hl:=de aH.sz l;have hs:=xP mU l;exact sV (F:=fun n i s=>M.pf a b c l ((l.length:Nat):Int) ([]::iS) n i s) (h:=fun s=>some (a,b,c,[]::iS,s)) (kT dk) l (by omega) o (fun n k s hk hs'=>by
  show M.pf a b c l ((l.length:Nat):Int) ([]::iS) (n+1) (k:Int) s=_
  rw[M.pf];have hm:=dL aH.sz l l[k] (cE hk);have hz:=aH.cu l[k];have hi:=S3 mU l[k];have hpl:=mU l[k].Path;have hww:=LU l[k].Kind;have et:=SD l[k].Path (by omega);have c0:aw [32,32] (ko l[k].Kind)=true:=bA (by simp only[ak,bf];omega);have c1:aw ([32,32]++ko l[k].Kind) [32]=true:=bA (by simp only[aN,ak,bf];omega);have c2:aw (([32,32]++ko l[k].Kind)++[32]) (dk l[k].Path)=true:=bA (by simp only[aN,ak,bf];omega);have c3:aw ((([32,32]++ko l[k].Kind)++[32])++dk l[k].Path) [59,10]=true:=bA (by simp only[aN,ak,bf];omega);have ew:=ve (((([32,32]++ko l[k].Kind)++[32])++dk l[k].Path)++[59,10]) s (by simp only[aN,ak,bf];omega);have hw:(bif decide (1<=l[k].Kind)&&decide (l[k].Kind<=3)then List.getD ([]::iS) (Int.toNat l[k].Kind) []else[])=ko l[k].Kind:=rfl;have hib:((inB l[k].Kind (List.length ([]::iS))&&true)|| !(decide (1<=l[k].Kind)&&decide (l[k].Kind<=3)))=true:=by
   cases hq:(decide (1<=l[k].Kind)&&decide (l[k].Kind<=3))
   ·simp
   ·simp only[cG,bB]at hq;obtain⟨j,hj⟩:=Dq (show 0<=l[k].Kind by omega);rw[hj,dD,show List.length (([]:List UInt8)::iS)=4 from rfl,da (show j<4 by omega)];rfl
  simp only[eS hk,bw,dz _ hk,ae,et,ay,aB,dI hk,hw,al,cq];simp only[c0,c1,c2,c3,ew,hib,ay,aB,al,ae,bZ hk (by omega:l.length<2^62)];rfl) (fun n s=>by
  show M.pf a b c l ((l.length:Nat):Int) ([]::iS) (n+1) _ s=_
  rw[M.pf];simp only[Int.lt_irrefl,gU,aR])
theorem ajL(l:List aJ)(h:aQ aJ.sz l<=1048576)(o:List UInt8)(ho:o.length<=200000000):M.pg ad l ((l.length:Nat):Int) 0 ([]::iS) o=some (o++(l.map (worldT dk)).flatten):=by
 have hl:=de aJ.sz l;have hs:=E9 mU l;exact sV (F:=fun n i s=>M.pg n l ((l.length:Nat):Int) i ([]::iS) s) (h:=fun s=>some s) (worldT dk) l (by omega) o (fun n k s hk hs'=>by
  show M.pg (n+1) l ((l.length:Nat):Int) (k:Int) ([]::iS) s=_
  rw[M.pg];have hm:=dL aJ.sz l l[k] (cE hk);have hz:=aJ.cu l[k];have hi:=nM (kT dk) l[k].Items;have hi2:=xP mU l[k].Items;have c1:aw [10,119,111,114,108,100,32] l[k].Name=true:=bA (by simp only[ak,bf];omega);have c2:aw ([10,119,111,114,108,100,32]++l[k].Name) [32,123,10]=true:=bA (by simp only[aN,ak,bf];omega);have w1:=ve (([10,119,111,114,108,100,32]++l[k].Name)++[32,123,10]) s (by simp only[aN,ak,bf];omega);have ei:=ajJ l ((l.length:Nat):Int) (k:Int) l[k].Items (by omega) (s++(([10,119,111,114,108,100,32]++l[k].Name)++[32,123,10])) (by simp only[aN,ak,bf];omega);have w2:=ve [125,10] ((s++(([10,119,111,114,108,100,32]++l[k].Name)++[32,123,10]))++(l[k].Items.map (kT dk)).flatten) (by simp only[aN,ak,bf];omega);simp only[eS hk,bw,dz _ hk,ae,ay,aB,dI hk,c1,c2,w1,w2,ei,al,bZ hk (by omega:l.length<2^62)];unfold worldT;simp only[fO]) (fun n s=>by
  show M.pg (n+1) l ((l.length:Nat):Int) _ ([]::iS) s=_
  rw[M.pg];simp only[Int.lt_irrefl,gU,aR])
theorem ajM(x:aj)(h:x.sz<=1048576):M.sL x=some (iT dk x):=by
 have hz:=aj.cu x;have f1:=nM (jE dk) x.aF;have f2:=AX mU x.aF;have f3:=nM (worldT dk) x.Worlds;have f4:=E9 mU x.Worlds;have c1:aw [112,97,99,107,97,103,101,32] x.Name=true:=bA (by simp only[aN,ak,bf];omega);have c2:aw ([112,97,99,107,97,103,101,32]++x.Name) [64]=true:=bA (by simp only[aN,ak,bf];omega);have c3:aw (([112,97,99,107,97,103,101,32]++x.Name)++[64]) x.Version=true:=bA (by simp only[aN,ak,bf];omega);have c4:aw ((([112,97,99,107,97,103,101,32]++x.Name)++[64])++x.Version) [59,10]=true:=bA (by simp only[aN,ak,bf];omega);have e0:((([112,97,99,107,97,103,101,32]++x.Name)++[64])++x.Version)++[59,10]=firstT x:=rfl;have fl:(firstT x).length<=1048700:=by unfold firstT;simp only[aN,ak,bf];omega
 have w:=ve (firstT x) [] (by simp only[bf];omega);have e1:=ajI x x.aF (by omega) (firstT x) (by omega);have e2:=ajL x.Worlds (by omega) (firstT x++(x.aF.map (jE dk)).flatten) (by simp only[aN];omega);have e3:M.rS (iT dk x)=some (iT dk x):=by
  unfold M.rS;have:(iT dk x).length<=1073741824:=by unfold iT;simp only[aN];omega
  rw[da this];rfl
 unfold M.sL;simp only[e0,w,fB,ay,aB,e1];rw[show([[],[(105:UInt8),(109:UInt8),(112:UInt8),(111:UInt8),(114:UInt8),(116:UInt8)],[(101:UInt8),(120:UInt8),(112:UInt8),(111:UInt8),(114:UInt8),(116:UInt8)],[(105:UInt8),(110:UInt8),(99:UInt8),(108:UInt8),(117:UInt8),(100:UInt8),(101:UInt8)]]:List (List UInt8))=[]::iS from rfl,e2];simp only[];rw[show(firstT x++(x.aF.map (jE dk)).flatten)++(x.Worlds.map (worldT dk)).flatten=iT dk x from rfl,e3];simp only[c1,c2,c3,c4,ay,aB,al,ae]
end M
namespace M
open Go.V (inB cg aw ad bz)
def lI(f:aE):Bool:= !decide ((16:Int)<((f.Items.length:Nat):Int))&&f.Items.all ma
def qN(x:aH):Bool:=decide (1<=x.Kind)&&decide (x.Kind<=3)
def lJ(w:aJ):Bool:= !decide ((16:Int)<((w.Items.length:Nat):Int))&&w.Items.all qN
def sW(x:aj):Bool:= !(decide ((8:Int)<((x.aF.length:Nat):Int))||decide ((8:Int)<((x.Worlds.length:Nat):Int)))&&(x.aF.all lI&&x.Worlds.all lJ)
theorem S4(x:aj)(i:Nat)(hi:i<x.aF.length)(hl:x.aF[i].Items.length<=16):∀(f k:Nat),x.aF[i].Items.length-k<f->k<=x.aF[i].Items.length->M.xQ (i:Int) x f (k:Int)=some (bif(x.aF[i].Items.drop k).all ma then .inr ((i:Int),x)else .inl false)
 |0,k,h,_=>by omega
 |f+1,k,h,hk=>by
  rw[M.xQ];have ex:∀y:ah,ah.re y=y:=ah.aC;simp only[bw,dz _ hi,dI hi];rcases cP k x.aF[i].Items.length with q|q
  ·have ih:=S4 x i hi hl f (k+1) (by omega) (by omega);rw[jg q,mj];simp only[eS q,bw,dz _ q,ex,ajz,ay,aB,ae,dI q,al,bZ q (by omega:x.aF[i].Items.length<2^62),ih];cases ma x.aF[i].Items[k]<;>rfl
  ·simp only[jD q,aR,al,ae];rw[List.drop_eq_nil_of_le q];rfl
theorem S5(x:aj)(hl:x.aF.length<=8):∀(f k:Nat),x.aF.length-k<f->k<=x.aF.length->M.xR f (k:Int) x=some (bif(x.aF.drop k).all lI then .inr x else .inl false)
 |0,k,h,_=>by omega
 |f+1,k,h,hk=>by
  rw[M.xR];rcases cP k x.aF.length with q|q
  ·have ih:=S5 x hl f (k+1) (by omega) (by omega);rw[jg q,mj];simp only[eS q,bw,dz _ q,ae,dI q,al];cases hc:decide ((16:Int)<((x.aF[k].Items.length:Nat):Int))
   ·have h16:x.aF[k].Items.length<=16:=by have:=of_decide_eq_false hc;omega
    have e:=S4 x k q h16 ad 0 (by have:=bz;omega) (by omega);rw[show((0:Nat):Int)=0 from rfl,lR]at e;have es:lI x.aF[k]=x.aF[k].Items.all ma:=by unfold lI;rw[hc];rfl
    simp only[aR,e,es];cases x.aF[k].Items.all ma
    ·rfl
    ·simp only[ae,bU,bZ q (by omega:x.aF.length<2^62),ih]
   ·have es:lI x.aF[k]=false:=by unfold lI;rw[hc];rfl
    simp only[ae,es];rfl
  ·simp only[jD q,aR];rw[List.drop_eq_nil_of_le q];rfl
theorem S7(x:aj)(i:Nat)(hi:i<x.Worlds.length)(hl:x.Worlds[i].Items.length<=16):∀(f k:Nat),x.Worlds[i].Items.length-k<f->k<=x.Worlds[i].Items.length->M.xU (i:Int) x f (k:Int)=some (bif(x.Worlds[i].Items.drop k).all qN then .inr ((i:Int),x)else .inl false)
 |0,k,h,_=>by omega
 |f+1,k,h,hk=>by
  rw[M.xU];simp only[bw,dz _ hi,dI hi];rcases cP k x.Worlds[i].Items.length with q|q
  ·have ih:=S7 x i hi hl f (k+1) (by omega) (by omega);rw[jg q,mj];have ew:(decide (1<=x.Worlds[i].Items[k].Kind)&&decide (x.Worlds[i].Items[k].Kind<=3))=qN x.Worlds[i].Items[k]:=rfl;simp only[eS q,bw,dz _ q,ew,ae,dI q,al,bZ q (by omega:x.Worlds[i].Items.length<2^62),ih];cases qN x.Worlds[i].Items[k]<;>rfl
  ·simp only[jD q,aR,al,ae];rw[List.drop_eq_nil_of_le q];rfl
theorem S8(x:aj)(hl:x.Worlds.length<=8):∀(f k:Nat),x.Worlds.length-k<f->k<=x.Worlds.length->M.xW f (k:Int) x=some (bif(x.Worlds.drop k).all lJ then .inr ()else .inl false)
 |0,k,h,_=>by omega
 |f+1,k,h,hk=>by
  rw[M.xW];rcases cP k x.Worlds.length with q|q
  ·have ih:=S8 x hl f (k+1) (by omega) (by omega);rw[jg q,mj];simp only[eS q,bw,dz _ q,ae,dI q,al];cases hc:decide ((16:Int)<((x.Worlds[k].Items.length:Nat):Int))
   ·have h16:x.Worlds[k].Items.length<=16:=by have:=of_decide_eq_false hc;omega
    have e:=S7 x k q h16 ad 0 (by have:=bz;omega) (by omega);rw[show((0:Nat):Int)=0 from rfl,lR]at e;have es:lJ x.Worlds[k]=x.Worlds[k].Items.all qN:=by unfold lJ;rw[hc];rfl
    simp only[aR,e,es];cases x.Worlds[k].Items.all qN
    ·rfl
    ·simp only[ae,bU,bZ q (by omega:x.Worlds.length<2^62),ih]
   ·have es:lJ x.Worlds[k]=false:=by unfold lJ;rw[hc];rfl
    simp only[ae,es];rfl
  ·simp only[jD q,aR];rw[List.drop_eq_nil_of_le q];rfl
theorem ajN(x:aj):M.sM x=some (sW x):=by
 unfold M.sM sW;cases hc:(decide ((8:Int)<((x.aF.length:Nat):Int))||decide ((8:Int)<((x.Worlds.length:Nat):Int)))
 ·simp only[jU,fi]at hc;have e1:=S5 x (by omega) ad 0 (by have:=bz;omega) (by omega);have e2:=S8 x (by omega) ad 0 (by have:=bz;omega) (by omega);rw[show((0:Nat):Int)=0 from rfl,lR]at e1 e2;simp only[aR,e1,bu,bU];cases x.aF.all lI
  ·rfl
  ·simp only[ae,e2,bU];cases x.Worlds.all lJ<;>rfl
 ·rfl
theorem ajO(x:aj)(i:Nat)(hi:i<x.aF.length)(h:aQ ah.sz x.aF[i].Items<=1048576)(hS:x.aF[i].Items.all ma=true)(o:List UInt8)(ho:o.length<=300000000):M.pj (i:Int) x ad o 0=some (o++(x.aF[i].Items.map (kS eC)).flatten,(i:Int),x):=by
 have hl:=de ah.sz x.aF[i].Items;have hs:=xO oU x.aF[i].Items;exact sV (F:=fun n k s=>M.pj (i:Int) x n s k) (h:=fun s=>some (s,(i:Int),x)) (kS eC) x.aF[i].Items (by omega) o (fun n k s hk hs'=>by
  show M.pj (i:Int) x (n+1) s (k:Int)=_
  rw[M.pj];have hm:=dL ah.sz x.aF[i].Items x.aF[i].Items[k] (cE hk);have hi2:=LS eC oU x.aF[i].Items[k];have ex:∀y:ah,ah.re y=y:=ah.aC;have et:=ajC x.aF[i].Items[k] (by omega) (fN.1 hS _ (cE hk));have c1:aw [32,32] (kn eC x.aF[i].Items[k])=true:=bA (by simp only[ak,bf];omega);have c2:aw ([32,32]++kn eC x.aF[i].Items[k]) [59,10]=true:=bA (by simp only[aN,ak,bf];omega);have c3:aw s (([32,32]++kn eC x.aF[i].Items[k])++[59,10])=true:=bA (by simp only[aN,ak,bf];omega);simp only[bw,dz _ hi,dI hi];simp only[eS hk,bw,dz _ hk,ae,ex,et,ay,aB,dI hk,c1,c2,c3,al,bZ hk (by omega:x.aF[i].Items.length<2^62)];rfl) (fun n s=>by
  show M.pj (i:Int) x (n+1) s _=_
  rw[M.pj];simp only[bw,dz _ hi,dI hi,Int.lt_irrefl,gU,aR,al,ae])
theorem ajP(x:aj)(h:aQ aE.sz x.aF<=1048576)(hS:x.aF.all lI=true)(o:List UInt8)(ho:o.length<=100000000):M.pn ad o 0 x=some (o++(x.aF.map (jE eC)).flatten,x):=by
 have hl:=de aE.sz x.aF;have hs:=AX oU x.aF;exact sV (F:=fun n k s=>M.pn n s k x) (h:=fun s=>some (s,x)) (jE eC) x.aF (by omega) o (fun n k s hk hs'=>by
  show M.pn (n+1) s (k:Int) x=_
  rw[M.pn];have hm:=dL aE.sz x.aF x.aF[k] (cE hk);have hz:=aE.cu x.aF[k];have hi:=nM (kS eC) x.aF[k].Items;have hi2:=xO oU x.aF[k].Items;have hF:=fN.1 hS _ (cE hk);unfold lI at hF;have c1:aw [10,105,110,116,101,114,102,97,99,101,32] x.aF[k].Name=true:=bA (by simp only[ak,bf];omega);have c2:aw ([10,105,110,116,101,114,102,97,99,101,32]++x.aF[k].Name) [32,123,10]=true:=bA (by simp only[aN,ak,bf];omega);have c3:aw s (([10,105,110,116,101,114,102,97,99,101,32]++x.aF[k].Name)++[32,123,10])=true:=bA (by simp only[aN,ak,bf];omega);have ei:=ajO x k hk (by omega) (Bool.and_eq_true_iff.1 hF).2 (s++(([10,105,110,116,101,114,102,97,99,101,32]++x.aF[k].Name)++[32,123,10])) (by simp only[aN,ak,bf];omega);have c4:aw ((s++(([10,105,110,116,101,114,102,97,99,101,32]++x.aF[k].Name)++[32,123,10]))++(x.aF[k].Items.map (kS eC)).flatten) [125,10]=true:=bA (by simp only[aN,ak,bf];omega);simp only[eS hk,bw,dz _ hk,ae,dI hk,c1,c2,c3,c4,ei,al,bZ hk (by omega:x.aF.length<2^62)];unfold jE;simp only[fO]) (fun n s=>by
  show M.pn (n+1) s _ x=_
  rw[M.pn];simp only[Int.lt_irrefl,gU,aR])
theorem wwS{K:Int}(h:(decide (1<=K)&&decide (K<=3))=true):List.getD (Option.getD M.jC default) (Int.toNat (Go.IntKind.wrap .i64 (K-1))) []=ko K/\inB (Go.IntKind.wrap .i64 (K-1)) (Option.getD M.jC default).length=true:=by
 have hc:=h;simp only[cG,bB]at h;rw[wrap_i64 (by omega) (by omega),show Option.getD M.jC default=iS from rfl];obtain⟨n,hn⟩:=Dq (show 0<=K-1 by omega);have hK:K=((n+1:Nat):Int):=by omega
 subst hK;unfold ko;rw[hc,ae,hn,bw,bw,dD,bB,show iS.length=3 from rfl];exact⟨rfl,by omega⟩
theorem ajR(x:aj)(i:Nat)(hi:i<x.Worlds.length)(h:aQ aH.sz x.Worlds[i].Items<=1048576)(hS:x.Worlds[i].Items.all qN=true)(o:List UInt8)(ho:o.length<=300000000):M.po (i:Int) x ad o 0=some (o++(x.Worlds[i].Items.map (kT eC)).flatten,(i:Int),x):=by
 have hl:=de aH.sz x.Worlds[i].Items;have hs:=xP oU x.Worlds[i].Items;exact sV (F:=fun n k s=>M.po (i:Int) x n s k) (h:=fun s=>some (s,(i:Int),x)) (kT eC) x.Worlds[i].Items (by omega) o (fun n k s hk hs'=>by
  show M.po (i:Int) x (n+1) s (k:Int)=_
  rw[M.po];have hm:=dL aH.sz x.Worlds[i].Items x.Worlds[i].Items[k] (cE hk);have hz:=aH.cu x.Worlds[i].Items[k];have hpl:=oU x.Worlds[i].Items[k].Path;have hww:=LU x.Worlds[i].Items[k].Kind;have et:=SE x.Worlds[i].Items[k].Path (by omega);obtain⟨w1,w2⟩:=wwS (fN.1 hS _ (cE hk):(decide (1<=x.Worlds[i].Items[k].Kind)&&decide (x.Worlds[i].Items[k].Kind<=3))=true);have w3:Option.isSome M.jC=true:=rfl;have c0:aw [32,32] (ko x.Worlds[i].Items[k].Kind)=true:=bA (by simp only[ak,bf];omega);have c1:aw ([32,32]++ko x.Worlds[i].Items[k].Kind) [32]=true:=bA (by simp only[aN,ak,bf];omega);have c2:aw (([32,32]++ko x.Worlds[i].Items[k].Kind)++[32]) (eC x.Worlds[i].Items[k].Path)=true:=bA (by simp only[aN,ak,bf];omega);have c3:aw ((([32,32]++ko x.Worlds[i].Items[k].Kind)++[32])++eC x.Worlds[i].Items[k].Path) [59,10]=true:=bA (by simp only[aN,ak,bf];omega);have c4:aw s (((([32,32]++ko x.Worlds[i].Items[k].Kind)++[32])++eC x.Worlds[i].Items[k].Path)++[59,10])=true:=bA (by simp only[aN,ak,bf];omega);simp only[bw,dz _ hi,dI hi];simp only[eS hk,bw,dz _ hk,ae,et,ay,aB,dI hk,w1,w2,w3,c0,c1,c2,c3,c4,al,bZ hk (by omega:x.Worlds[i].Items.length<2^62)];rfl) (fun n s=>by
  show M.po (i:Int) x (n+1) s _=_
  rw[M.po];simp only[bw,dz _ hi,dI hi,Int.lt_irrefl,gU,aR,al,ae])
theorem ajS(x:aj)(h:aQ aJ.sz x.Worlds<=1048576)(hS:x.Worlds.all lJ=true)(o:List UInt8)(ho:o.length<=200000000):M.pq ad o 0 x=some (o++(x.Worlds.map (worldT eC)).flatten):=by
 have hl:=de aJ.sz x.Worlds;have hs:=E9 oU x.Worlds;exact sV (F:=fun n k s=>M.pq n s k x) (h:=fun s=>some s) (worldT eC) x.Worlds (by omega) o (fun n k s hk hs'=>by
  show M.pq (n+1) s (k:Int) x=_
  rw[M.pq];have hm:=dL aJ.sz x.Worlds x.Worlds[k] (cE hk);have hz:=aJ.cu x.Worlds[k];have hi:=nM (kT eC) x.Worlds[k].Items;have hi2:=xP oU x.Worlds[k].Items;have hF:=fN.1 hS _ (cE hk);unfold lJ at hF;have c1:aw [10,119,111,114,108,100,32] x.Worlds[k].Name=true:=bA (by simp only[ak,bf];omega);have c2:aw ([10,119,111,114,108,100,32]++x.Worlds[k].Name) [32,123,10]=true:=bA (by simp only[aN,ak,bf];omega);have c3:aw s (([10,119,111,114,108,100,32]++x.Worlds[k].Name)++[32,123,10])=true:=bA (by simp only[aN,ak,bf];omega);have ei:=ajR x k hk (by omega) (Bool.and_eq_true_iff.1 hF).2 (s++(([10,119,111,114,108,100,32]++x.Worlds[k].Name)++[32,123,10])) (by simp only[aN,ak,bf];omega);have c4:aw ((s++(([10,119,111,114,108,100,32]++x.Worlds[k].Name)++[32,123,10]))++(x.Worlds[k].Items.map (kT eC)).flatten) [125,10]=true:=bA (by simp only[aN,ak,bf];omega);simp only[eS hk,bw,dz _ hk,ae,dI hk,c1,c2,c3,c4,ei,al,bZ hk (by omega:x.Worlds.length<2^62)];unfold worldT;simp only[fO]) (fun n s=>by
  show M.pq (n+1) s _ x=_
  rw[M.pq];simp only[Int.lt_irrefl,gU,aR])
theorem S9(x:aj)(h:x.sz<=1048576)(hS:sW x=true):M.oR x=some (iT eC x):=by
 have hz:=aj.cu x;unfold sW at hS;rw[cG,cG]at hS;have f1:=nM (jE eC) x.aF;have f2:=AX oU x.aF;have c1:aw [112,97,99,107,97,103,101,32] x.Name=true:=bA (by simp only[aN,ak,bf];omega);have c2:aw ([112,97,99,107,97,103,101,32]++x.Name) [64]=true:=bA (by simp only[aN,ak,bf];omega);have c3:aw (([112,97,99,107,97,103,101,32]++x.Name)++[64]) x.Version=true:=bA (by simp only[aN,ak,bf];omega);have c4:aw ((([112,97,99,107,97,103,101,32]++x.Name)++[64])++x.Version) [59,10]=true:=bA (by simp only[aN,ak,bf];omega);have e0:((([112,97,99,107,97,103,101,32]++x.Name)++[64])++x.Version)++[59,10]=firstT x:=rfl;have fl:(firstT x).length<=1048700:=by unfold firstT;simp only[aN,ak,bf];omega
 have e1:=ajP x (by omega) hS.2.1 (firstT x) (by omega);have e2:=ajS x (by omega) hS.2.2 (firstT x++(x.aF.map (jE eC)).flatten) (by simp only[aN];omega);unfold M.oR;simp only[e0,e1,e2,c1,c2,c3,c4,al,ae];rfl
def LV(x:aj):Prop:=(∀f∈x.aF,∀i∈f.Items,nL i.From)/\∀w∈x.Worlds,∀i∈w.Items,nL i.Path
theorem ajT(x:aj)(h:LV x):iT eC x=iT dk x:=by
 unfold iT;have e1:x.aF.map (jE eC)=x.aF.map (jE dk):=by
  apply List.map_congr_left;intro f hf;unfold jE;rw[List.map_congr_left (g:=kS dk) fun i hi=>by unfold kS;rw[ajD i (h.1 f hf i hi)]]
 have e2:x.Worlds.map (worldT eC)=x.Worlds.map (worldT dk):=by
  apply List.map_congr_left;intro f hf;unfold worldT;rw[List.map_congr_left (g:=kT dk) fun i hi=>by unfold kT;rw[SG i.Path (h.2 f hf i hi)]]
 rw[e1,e2]
end M
namespace M
open Go.V (inB cg aw ad bz)
def dA(u:Bool)(g:aa->Int)(x:aa):Int:=bif u&&(x.Kind==1)then 1 else g x
def eQ{α:Type}(w:α->Int):List α->Int
 |[]=>0
 |x::r=>w x+eQ w r
theorem LW{α:Type}(w:α->Int):∀a b:List α,eQ w (a++b)=eQ w a+eQ w b
 |[],b=>by simp[eQ]
 |x::a,b=>by rw[od,eQ,eQ,LW w a b];omega
theorem Fa{α:Type}(w:α->Int):∀l:List α,(∀x∈l,0<=w x)->0<=eQ w l
 |[],_=>by simp[eQ]
 |x::r,h=>by have:=h x (by simp);have:=Fa w r fun y hy=>h y (by simp[hy]);rw[eQ];omega
theorem Ta(g:aa->Int)(u:Bool):∀(l:List aa)(s:Int),(∀x∈l,0<=dA u g x)->s+eQ (dA u g) l<=12000->kR g u l s=s+eQ (dA u g) l
 |[],s,_,_=>by simp[kR,eQ]
 |x::r,s,h,hs=>by
  have h1:=h x (by simp);have h2:=Fa (dA u g) r fun y hy=>h y (by simp[hy])
  rw[eQ]at hs⊢;have ih:=fun s'=>Ta g u r s' fun y hy=>h y (by simp[hy])
  rw[kR];unfold dA at h1 hs⊢;cases hu:(u&&(x.Kind==1))<;>rw[hu]at h1 hs
  ·simp only[aR]at h1 hs⊢;rw[cA (show ¬g x<0 by omega),cA (show ¬12000<s by unfold dA at h2;omega),lg,aR];have:=ih (s+g x);unfold dA at this;rw[this (by omega)];omega
  ·simp only[ae]at h1 hs⊢;have:=ih (s+1);unfold dA at this;rw[this (by omega)];omega
theorem AY(d:Nat)(t:aa)(h1:t.bj.length<=16)(h2:t.Kids.length<=16)(h3:t.Name.length<=12)(hk:nK t.Kind=true)(hlo:lH t.Kind ((t.bj.length:Nat):Int)<=((t.Kids.length:Nat):Int))(hhi:((t.Kids.length:Nat):Int)<=km t.Kind ((t.bj.length:Nat):Int))
 (hc:∀x∈t.Kids,0<=dA (dt t.Kind) (bX d) x) (hs:1+eQ (dA (dt t.Kind) (bX d)) t.Kids<=12000):bX (d+1) t=1+eQ (dA (dt t.Kind) (bX d)) t.Kids:=by
 rw[bX,cA (show ¬(16:Int)<((t.bj.length:Nat):Int) by omega),cA (show ¬(16:Int)<((t.Kids.length:Nat):Int) by omega),cA (show ¬(12:Int)<((t.Name.length:Nat):Int) by omega),hk,da hlo,da hhi];exact Ta _ _ _ _ hc hs
theorem Tc{l:List ai}{k:Nat}(h:l.length<=k):bV l k=ai.zero:=by
 unfold bV;rw[gn,hZ h];rfl
theorem Td{l:List ai}{t:List UInt8}{k:Nat}(ht:t≠[])(h:aI l t k=true):k<l.length:=by
 rcases cP k l.length with q|q
 ·exact q
 ·unfold aI at h;rw[Tc q,cG]at h;exact absurd (cK.1 h.2).symm ht
theorem Tf{l:List ai}{k:Nat}(h:gV l k=true):k<l.length:=by
 rcases cP k l.length with q|q
 ·exact q
 ·unfold gV at h;rw[Tc q,cG]at h;exact absurd (cK.1 h.1) (by show ¬(0:Int)=1;decide)
theorem nO{l:List ai}{t:List UInt8}(ht:t≠[]){k k':Nat}{v:Unit}(h:ct l t k=.ok v k'):k'=k+1/\k'<=l.length:=by
 unfold ct at h;cases hb:aI l t k<;>rw[hb]at h<;>cases h;exact⟨rfl,Td ht hb⟩
theorem Ti{l:List ai}{k:Nat}(h:gV l k=true):(bV l k).Text.length<=12:=by
 unfold gV lq at h;simp only[cG,bB]at h;exact h.2.2.1.2
theorem Tj{l:List ai}{k k':Nat}{v:List UInt8}(h:gW l k=.ok v k'):k'=k+1/\k'<=l.length/\v.length<=12:=by
 unfold gW at h;cases hb:gV l k<;>rw[hb]at h<;>cases h;exact⟨rfl,Tf hb,Ti hb⟩
theorem ajU{l:List ai}{k k':Nat}{v:List UInt8}(h:l6 l k=.ok v k'):k'=k+1/\k'<=l.length/\v.length<=12:=by
 unfold l6 at h;cases hb:mE l k<;>rw[hb]at h<;>cases h;unfold mE at hb;rw[cG]at hb;exact⟨rfl,Tf hb.1,Ti hb.1⟩
theorem LX{α:Type}{P:α->Prop}{w:α->Int}(l:List ai)(el:Nat->PR α)(he:∀(k:Nat)(v:α)(k':Nat),el k=.ok v k'->k<k'/\k'<=l.length/\P v/\0<=w v/\w v<=3*((k':Int)-(k:Int))):
 ∀(m:Nat)(acc:List α)(k:Nat)(vs:List α)(k':Nat),(∀v∈acc,P v/\0<=w v)->dV l el m acc k=.ok vs k'->k<k'/\k'<=l.length/\acc.length+1<=vs.length/\vs.length<=acc.length+m+1/\(∀v∈vs,P v/\0<=w v)/\eQ w vs<=eQ w acc+3*((k':Int)-(k:Int))
 |m,acc,k,vs,k',ha,h=>by
  rw[dV.eq_def]at h;dsimp only at h;cases hk:el k with
  |no q=>rw[hk]at h;cases h
  |ok v k1=>
   rw[hk]at h;obtain⟨g1,g2,g3,g4,g5⟩:=he _ _ _ hk;have one:∀y∈acc++[v],P y/\0<=w y:=fun y hy=>by
    rcases dO.1 hy with q|q
    ·exact ha y q
    ·rw[fJ.1 q];exact⟨g3,g4⟩
   have es:eQ w (acc++[v])=eQ w acc+w v:=by rw[LW];simp[eQ]
   have el':(acc++[v]).length=acc.length+1:=by simp
   cases m with
   |zero=>
    cases h;exact⟨g1,g2,by omega,by omega,one,by rw[es];omega⟩
   |succ m=>
    simp only at h;cases hc:aI l [44] k1<;>rw[hc]at h
    ·cases h;exact⟨g1,g2,by omega,by omega,one,by rw[es];omega⟩
    ·obtain⟨r1,r2,r3,r4,r5,r6⟩:=LX l el he m (acc++[v]) (k1+1) vs k' one h;rw[es]at r6;exact⟨by omega,r2,by omega,by omega,r5,by omega⟩
def LY(K:Int)(d:Nat)(v:List UInt8×List aa):Prop:=((K=16\/K=17)->v.2.length=1)/\((K≠16/\K≠17)->v.2=[])/\∀x∈v.2,0<=dA (dt K) (bX d) x
def pv(K:Int)(d:Nat)(v:List UInt8×List aa):Int:=eQ (dA (dt K) (bX d)) v.2
theorem AZ{K:Int}{d:Nat}{t:aa}{c:Int}(h1:1<=bX d t)(h2:bX d t<=c)(hc:1<=c):0<=dA (dt K) (bX d) t/\dA (dt K) (bX d) t<=c:=by
 unfold dA;cases (dt K&&(t.Kind==1))<;>simp only[ae,aR]<;>omega
theorem Tm{K:Int}{d:Nat}(h:dt K=true):dA (dt K) (bX d) dG=1:=by
 unfold dA;rw[h];rfl
theorem ajV{l:List ai}{K:Int}{d:Nat}(ih:∀(k:Nat)(t:aa)(k':Nat),dX l d k=.ok t k'->k<k'/\k'<=l.length/\1<=bX d t/\bX d t<=3*((k':Int)-(k:Int))){k k':Nat}{v:List UInt8×List aa}(h:gB l K (dX l d) k=.ok v k'):k<k'/\k'<=l.length/\LY K d v/\0<=pv K d v/\pv K d v<=3*((k':Int)-(k:Int)):=by
 unfold gB at h;obtain⟨w,k1,hw,h⟩:=bind_ok h;obtain⟨n1,n2,_⟩:=Tj hw;have fin:∀(t:aa)(c:Int),0<=dA (dt K) (bX d) t/\dA (dt K) (bX d) t<=c->(K=16\/K=17)->LY K d (w,[t])/\0<=pv K d (w,[t])/\pv K d (w,[t])<=c:=fun t c hc hK=>by
  have e:pv K d (w,[t])=dA (dt K) (bX d) t:=by unfold pv;simp[eQ]
  rw[e];exact⟨⟨fun _=>rfl,fun q=>by omega,fun x hx=>by rw[fJ.1 hx];exact hc.1⟩,hc.1,hc.2⟩
 cases h16:(K==(16:Int))<;>rw[h16]at h
 ·cases h17:(K==(17:Int))<;>rw[h17]at h
  ·cases h;rw[cQ]at h16 h17;refine⟨by omega,n2,⟨fun q=>by omega,fun _=>rfl,fun x hx=>by cases hx⟩,?_,?_⟩
   ·show(0:Int)<=0;omega
   ·show(0:Int)<=_;omega
  ·have e17:=cK.1 h17;simp only[aR,ae]at h;cases hc:aI l [40] k1<;>rw[hc]at h
   ·cases h;refine⟨by omega,n2,fin dG _ ?_ (.inr e17)⟩;rw[Tm (by rw[e17];rfl)];omega
   ·obtain⟨t0,k3,h0,h⟩:=bind_ok h;obtain⟨_,k4,h4,h⟩:=bind_ok h;cases h;obtain⟨a1,a2,a3,a4⟩:=ih _ _ _ h0;obtain⟨b1,b2⟩:=nO (by decide) h4;exact⟨by omega,b2,fin t0 _ (AZ a3 (by omega) (by omega)) (.inr e17)⟩
 ·obtain⟨_,k2,h2,h⟩:=bind_ok h;obtain⟨t0,k3,h0,h⟩:=bind_ok h;cases h;obtain⟨a1,a2,a3,a4⟩:=ih _ _ _ h0;obtain⟨b1,b2⟩:=nO (by decide) h2;exact⟨by omega,a2,fin t0 _ (AZ a3 (by omega) (by omega)) (.inl (cK.1 h16))⟩
theorem LZ{α β:Type}{w:β->Int}:∀(ps:List (α×List β)),(∀v∈ps,v.2.length=1)->(ps.map (·.2)).flatten.length=ps.length
 |[],_=>rfl
 |p::r,h=>by rw[eG,List.flatten_cons,aN,h p (by simp),LZ (w:=w) r fun v hv=>h v (by simp[hv]),ak];omega
theorem flat_nil{α β:Type}:∀(ps:List (α×List β)),(∀v∈ps,v.2=[])->(ps.map (·.2)).flatten=[]
 |[],_=>rfl
 |p::r,h=>by rw[eG,List.flatten_cons,h p (by simp),flat_nil r fun v hv=>h v (by simp[hv])];rfl
theorem Tn{α β:Type}(w:β->Int):∀(ps:List (α×List β)),eQ w (ps.map (·.2)).flatten=eQ (fun v=>eQ w v.2) ps
 |[]=>rfl
 |p::r=>by rw[eG,List.flatten_cons,LW,Tn w r,eQ]
theorem ajW{l:List ai}{d:Nat}(ih:∀(k:Nat)(t:aa)(k':Nat),dX l d k=.ok t k'->k<k'/\k'<=l.length/\1<=bX d t/\bX d t<=3*((k':Int)-(k:Int))){k k':Nat}{v:List aa}(hk:k<=l.length)(h:nA l (dX l d) k=.ok v k'):
 k<=k'/\k'<=l.length/\∃a b,v=[a,b]/\0<=dA (dt 14) (bX d) a/\0<=dA (dt 14) (bX d) b/\(dA (dt 14) (bX d) a+dA (dt 14) (bX d) b<=2\/dA (dt 14) (bX d) a+dA (dt 14) (bX d) b<=3*((k':Int)-(k:Int))-5):=by
 unfold nA at h;have hu:dA (dt 14) (bX d) dG=1:=Tm rfl;cases h60:aI l [60] k<;>rw[h60]at h
 ·cases h;exact⟨by omega,hk,dG,dG,rfl,by omega,by omega,by omega⟩
 ·simp only[ae]at h;have l60:=Td (by decide) h60;obtain⟨a,k1,ha,h⟩:=bind_ok h;obtain⟨b,k2,hb,h⟩:=bind_ok h;obtain⟨_,k3,h3,h⟩:=bind_ok h;cases h;obtain⟨n1,n2⟩:=nO (by decide) h3;have pa:k+1<k1/\0<=dA (dt 14) (bX d) a/\dA (dt 14) (bX d) a<=3*((k1:Int)-(k:Int))-3:=by
   cases h95:aI l [95] (k+1)<;>rw[h95]at ha
   ·obtain⟨a1,a2,a3,a4⟩:=ih _ _ _ ha;exact⟨by omega,AZ a3 (by omega) (by omega)⟩
   ·cases ha;exact⟨by omega,by omega,by omega⟩
  have pb:k1<=k2/\0<=dA (dt 14) (bX d) b/\dA (dt 14) (bX d) b<=1+3*((k2:Int)-(k1:Int)):=by
   cases iR:aI l [44] k1<;>rw[iR]at hb
   ·cases hb;exact⟨by omega,by omega,by omega⟩
   ·obtain⟨a1,a2,a3,a4⟩:=ih _ _ _ hb;exact⟨by omega,AZ a3 (by omega) (by omega)⟩
  exact⟨by omega,n2,a,b,rfl,pa.2.1,pb.2.1,by omega⟩
theorem Fb(l:List ai)(hl:l.length<=4001):∀(d k:Nat)(t:aa)(k':Nat),dX l d k=.ok t k'->k<k'/\k'<=l.length/\1<=bX d t/\bX d t<=3*((k':Int)-(k:Int))
 |0,k,t,k',h=>by cases h
 |d+1,k,t,k',h=>by
  rw[dX]at h;obtain⟨w,k1,hw,h⟩:=bind_ok h;obtain⟨n1,n2,n3⟩:=Tj hw;have ih:=Fb l hl d;have hb:=Et w;generalize dK w=K at h hb;have leaf:∀(K':Int)(nm:List UInt8),nm.length<=12->nK K'=true->lH K' 0=0->km K' 0=0->bX (d+1) (aa.mk K' nm [] [])=1:=fun K' nm hn hk h1 h2=>by
   have:=AY d (aa.mk K' nm [] []) (dN 16) (dN 16) hn hk (by show lH K' 0<=0;omega) (by show 0<=km K' 0;omega) (fun x hx=>by cases hx) (by show(1:Int)+0<=12000;omega);rw[this];rfl
  cases c0:(K==0)<;>rw[c0]at h
  ·simp only[aR]at h;cases c1:((K==12)||((K==13)||((K==22)||(K==23))))<;>rw[c1]at h
   ·simp only[aR]at h;cases c2:(K==15)<;>rw[c2]at h
    ·simp only[aR]at h;cases c3:((K==20)||(K==21))<;>rw[c3]at h
     ·simp only[aR]at h;cases c4:(K==14)<;>rw[c4]at h
      ·simp only[aR]at h;cases c5:((K==16)||((K==17)||((K==18)||(K==19))))<;>rw[c5]at h
       ·cases h;have hK:nK K=true:=by
         unfold nK;rw[cQ]at c0;rw[da (show(1:Int)<=K by omega),da (show K<=23 by omega)];rfl
        have c1':AL K=false:=c1;have c6:((K==16)||(K==17))=false:=by
         simp only[jU]at c5⊢;exact⟨c5.1,c5.2.1⟩
        have e:=leaf K [] (by simp) hK (by unfold lH;rw[c1',c4,c2,c6];rfl) (by unfold km;rw[c1',c4,c2,c6];rfl);rw[e];exact⟨by omega,n2,by omega,by omega⟩
       ·simp only[ae]at h;obtain⟨_,k2,h2,h⟩:=bind_ok h;obtain⟨ps,k3,hp,h⟩:=bind_ok h;obtain⟨_,k4,h4,h⟩:=bind_ok h;cases h;obtain⟨m1,m2⟩:=nO (by decide) h2;obtain⟨m3,m4⟩:=nO (by decide) h4;obtain⟨r1,r2,r3,r4,r5,r6⟩:=LX (P:=LY K d) (w:=pv K d) l _ (fun k v k' hv=>ajV ih hv) 15 [] _ ps _ (fun v hv=>by cases hv) hp;simp only[bf]at r3 r4;have e0:eQ (pv K d) []=0:=rfl;rw[e0]at r6;have hK:K=16\/K=17\/K=18\/K=19:=by simpa only[ej,cK]using c5
        have L0:nK K=true:=by rcases hK with e|e|e|e<;>rw[e]<;>rfl
        have To:eQ (dA (dt K) (bX d)) (ps.map (·.2)).flatten=eQ (pv K d) ps:=Tn _ ps;have hlen:(((ps.map (·.2)).flatten.length:Nat):Int)=lH K ((ps.length:Nat):Int)/\(((ps.map (·.2)).flatten.length:Nat):Int)=km K ((ps.length:Nat):Int)/\(ps.map (·.2)).flatten.length<=16:=by
         rcases hK with e|e|e|e
         ·have:=LZ (w:=fun _=>0) ps fun v hv=>(r5 v hv).1.1 (.inl e)
          rw[this,e];exact⟨rfl,rfl,by omega⟩
         ·have:=LZ (w:=fun _=>0) ps fun v hv=>(r5 v hv).1.1 (.inr e)
          rw[this,e];exact⟨rfl,rfl,by omega⟩
         ·have:=flat_nil ps fun v hv=>(r5 v hv).1.2.1 (by omega)
          rw[this,e];exact⟨rfl,rfl,by simp⟩
         ·have:=flat_nil ps fun v hv=>(r5 v hv).1.2.1 (by omega)
          rw[this,e];exact⟨rfl,rfl,by simp⟩
        have hnn:=Fa (pv K d) ps fun v hv=>(r5 v hv).2
        have e:=AY d (aa.mk K [] (ps.map (·.1)) (ps.map (·.2)).flatten) (by show(ps.map (·.1)).length<=16;rw[fq];omega) (by show(ps.map (·.2)).flatten.length<=16;exact hlen.2.2) (dN 12) L0
         (by show lH K (((ps.map (·.1)).length:Nat):Int)<=_;rw[fq];exact Int.le_of_eq hlen.1.symm)
         (by show _<=km K (((ps.map (·.1)).length:Nat):Int);rw[fq];exact Int.le_of_eq hlen.2.1)
         (fun x hx=>by
           obtain⟨q,hq,hx⟩:=List.mem_flatten.1 hx;obtain⟨v,hv,rfl⟩:=List.mem_map.1 hq;exact(r5 v hv).1.2.2 x hx)
         (by show 1+eQ (dA (dt K) (bX d)) (ps.map (·.2)).flatten<=12000;rw[To];omega)
        have e:bX (d+1) (aa.mk K [] (ps.map (·.1)) (ps.map (·.2)).flatten)=1+eQ (dA (dt K) (bX d)) (ps.map (·.2)).flatten:=e;rw[e,To];exact⟨by omega,m4,by omega,by omega⟩
      ·have e14:=cK.1 c4;subst e14;simp only[ae]at h;obtain⟨ts,k2,hp,h⟩:=bind_ok h;cases h;obtain⟨r1,r2,a,b,rfl,ra,rb,rs⟩:=ajW ih n2 hp;have e:=AY d (aa.mk 14 [] [] [a,b]) (dN 16) (by show 2<=16;omega) (dN 12) rfl (by show(2:Int)<=2;omega) (by show(2:Int)<=2;omega)
        (fun x hx=>by
          have hx:x∈[a,b]:=hx;simp only[jm,I5,or_false]at hx;rcases hx with q|q<;>rw[q]<;>assumption)
        (by show 1+(dA (dt 14) (bX d) a+(dA (dt 14) (bX d) b+0))<=12000;omega)
       have e:bX (d+1) (aa.mk 14 [] [] [a,b])=1+(dA (dt 14) (bX d) a+(dA (dt 14) (bX d) b+0)):=e;rw[e];exact⟨by omega,r2,by omega,by omega⟩
     ·simp only[ae]at h;obtain⟨_,k2,h2,h⟩:=bind_ok h;obtain⟨nm,k3,h3,h⟩:=bind_ok h;obtain⟨_,k4,h4,h⟩:=bind_ok h;cases h;obtain⟨m1,m2⟩:=nO (by decide) h2;obtain⟨m3,m4⟩:=nO (by decide) h4;obtain⟨i1,i2,i3⟩:=ajU h3;have hK:K=20\/K=21:=by simpa only[ej,cK]using c3
      have e:=leaf K nm i3 (by rcases hK with e|e<;>rw[e]<;>rfl) (by rcases hK with e|e<;>rw[e]<;>rfl) (by rcases hK with e|e<;>rw[e]<;>rfl);rw[e];exact⟨by omega,m4,by omega,by omega⟩
    ·have e15:=cK.1 c2;subst e15;simp only[ae]at h;obtain⟨_,k2,h2,h⟩:=bind_ok h;obtain⟨ts,k3,hp,h⟩:=bind_ok h;obtain⟨_,k4,h4,h⟩:=bind_ok h;cases h;obtain⟨m1,m2⟩:=nO (by decide) h2;obtain⟨m3,m4⟩:=nO (by decide) h4;obtain⟨r1,r2,r3,r4,r5,r6⟩:=LX (P:=fun t=>0<=dA (dt 15) (bX d) t) (w:=dA (dt 15) (bX d)) l _ (fun k v k' hv=>by
      obtain⟨a1,a2,a3,a4⟩:=ih _ _ _ hv;have:=AZ (K:=15) a3 a4 (by omega);exact⟨a1,a2,this.1,this.1,this.2⟩) 5 [] _ ts _ (fun v hv=>by cases hv) hp
     simp only[bf]at r3 r4;have e0:eQ (dA (dt 15) (bX d)) []=0:=rfl;rw[e0]at r6;have hnn:=Fa (dA (dt 15) (bX d)) ts fun v hv=>(r5 v hv).2
     have e:=AY d (aa.mk 15 [] [] ts) (dN 16) (by show ts.length<=16;omega) (dN 12) rfl (by show(1:Int)<=((ts.length:Nat):Int);omega) (by show((ts.length:Nat):Int)<=6;omega)
      (fun x hx=>(r5 x hx).1) (by show 1+eQ (dA (dt 15) (bX d)) ts<=12000;omega)
     have e:bX (d+1) (aa.mk 15 [] [] ts)=1+eQ (dA (dt 15) (bX d)) ts:=e;rw[e];exact⟨by omega,m4,by omega,by omega⟩
   ·simp only[ae]at h;obtain⟨_,k2,h2,h⟩:=bind_ok h;obtain⟨t0,k3,h0,h⟩:=bind_ok h;obtain⟨_,k4,h4,h⟩:=bind_ok h;cases h;obtain⟨m1,m2⟩:=nO (by decide) h2;obtain⟨m3,m4⟩:=nO (by decide) h4;obtain⟨a1,a2,a3,a4⟩:=ih _ _ _ h0;have hK:K=12\/K=13\/K=22\/K=23:=by simpa only[ej,cK]using c1
    have L0:nK K=true:=by rcases hK with e|e|e|e<;>rw[e]<;>rfl
    have hu:dt K=false:=by rcases hK with e|e|e|e<;>rw[e]<;>rfl
    have h1:AL K=true:=c1;have ec:dA (dt K) (bX d) t0=bX d t0:=by unfold dA;rw[hu];rfl
    have e:=AY d (aa.mk K [] [] [t0]) (dN 16) (by show 1<=16;omega) (dN 12) L0 (by show lH K 0<=1;unfold lH;rw[h1];show(1:Int)<=1;omega) (by show 1<=km K 0;unfold km;rw[h1];show(1:Int)<=1;omega)
     (fun x hx=>by have hx:x∈[t0]:=hx;rw[fJ.1 hx];show 0<=dA (dt K) (bX d) t0;rw[ec];omega)
     (by show 1+(dA (dt K) (bX d) t0+0)<=12000;rw[ec];omega)
    have e:bX (d+1) (aa.mk K [] [] [t0])=1+(dA (dt K) (bX d) t0+0):=e;rw[e,ec];exact⟨by omega,m4,by omega,by omega⟩
  ·cases h;rw[leaf 30 w n3 rfl rfl rfl];exact⟨by omega,n2,by omega,by omega⟩
end M
namespace M
open Go.V (inB cg aw ad bz)
theorem ajX{l:List ai}(hl:l.length<=4001){k k':Nat}{v:az}(h:kh l k=.ok v k'):0<=bX 4 v.Term:=by
 unfold kh at h;obtain⟨_,_,_,h⟩:=bind_ok h;obtain⟨_,_,_,h⟩:=bind_ok h;obtain⟨t,_,ht,h⟩:=bind_ok h;cases h;have:=(Fb l hl 4 _ _ _ ht).2.2.1
 show 0<=bX 4 t
 omega
theorem ajY:bX 4 dG=1:=rfl
theorem Fe(x:ah)(h1:x.Params.length<=6)(h2:x.Uses.length<=16)(h3:(x.Kind=2\/x.Kind=3)->0<=bX 4 x.Term)(h4:∀p∈x.Params,0<=bX 4 p.Term)(h5:1<=x.Kind)(h6:x.Kind<=4):ma x=true:=by
 unfold ma;rw[cA (show ¬(6:Int)<((x.Params.length:Nat):Int) by omega),cA (show ¬(16:Int)<((x.Uses.length:Nat):Int) by omega),da h5,da h6];have e:(x.Params.all fun p=> !decide (bX 4 p.Term<0))=true:=by
  rw[fN];intro p hp;have:=h4 p hp;rw[cA (by omega)];rfl
 rw[e];cases hk:((x.Kind==2)||(x.Kind==3))
 ·simp
 ·have hK:x.Kind=2\/x.Kind=3:=by simpa only[ej,cK]using hk
  have:=h3 hK;rw[cA (show ¬bX 4 x.Term<0 by omega)];rfl
def Ff(x:ah):Prop:=ma x=true/\nL x.From
theorem Tq{l:List ai}{k k':Nat}{p:bc}(h:oJ l k=.ok p k'):nL p:=by
 unfold oJ at h;obtain⟨a,k1,ha,h⟩:=bind_ok h;cases h47:aI l [47] k1<;>rw[h47]at h
 ·cases h;exact fun _=>rfl
 ·simp only[ae]at h;obtain⟨b,k2,hb,h⟩:=bind_ok h;have ne:a≠[]:=by
   unfold gW at ha;cases hn:gV l k<;>rw[hn]at ha<;>cases ha;intro e;unfold gV at hn;rw[e,cG]at hn;exact absurd hn.2 (by decide)
  cases h64:aI l [64] k2<;>rw[h64]at h
  ·cases h;exact fun _=>rfl
  ·simp only[ae]at h;obtain⟨v,k3,hv,h⟩:=bind_ok h;cases h;exact fun e=>absurd e ne
theorem ajZ(l:List ai)(hl:l.length<=4001)(nm:List UInt8)(k:Nat)(v:ah)(k':Nat)(h:nD l nm k=.ok v k'):Ff v:=by
 have:∀as k,qz l nm as k=.ok v k'->Ff v:=fun as k h=>by
  unfold qz at h;obtain⟨_,_,_,h⟩:=bind_ok h;obtain⟨ps,k1,hp,h⟩:=bind_ok h;obtain⟨t,k2,ht,h⟩:=bind_ok h;cases h;have h1:ps.length<=6/\∀p∈ps,0<=bX 4 p.Term:=by
   unfold xf at hp;obtain⟨_,k3,_,hp⟩:=bind_ok hp;cases hc:aI l [41] k3<;>rw[hc]at hp
   ·simp only[aR]at hp;obtain⟨qs,_,hq,hp⟩:=bind_ok hp;obtain⟨_,_,_,hp⟩:=bind_ok hp;cases hp;have:=uZ (P:=fun v:az=>0<=bX 4 v.Term) l _ (fun _ _ _ hv=>ajX hl hv) 5 [] _ _ _ (fun v hv=>by cases hv) hq;exact⟨by simpa using this.1,this.2⟩
   ·cases hp;exact⟨by simp,fun p hp=>by cases hp⟩
  have h2:0<=bX 4 t:=by
   unfold zV at ht;cases hc:aI l [45,62] k1<;>rw[hc]at ht
   ·cases ht;rw[ajY];omega
   ·have:=(Fb l hl 4 _ _ _ ht).2.2.1;omega
  exact⟨Fe _ h1.1 (by simp) (fun _=>h2) h1.2 (by show(1:Int)<=3;decide) (by show(3:Int)<=4;decide),fun _=>rfl⟩
 unfold nD at h;cases hc:aI l qy k<;>rw[hc]at h<;>exact this _ _ h
theorem aj0(l:List ai)(hl:l.length<=4001)(k:Nat)(v:ah)(k':Nat)(h:ki l k=.ok v k'):Ff v:=by
 unfold ki nE at h;obtain⟨x,k1,hx,h⟩:=bind_ok h;obtain⟨_,_,_,h⟩:=bind_ok h;cases h;obtain⟨nm,k2,_,hx⟩:=bind_ok hx;unfold kN at hx;cases jA:aI l [58] k2<;>rw[jA]at hx
 ·cases hR:(nm==mM)<;>rw[hR]at hx
  ·cases hY:(nm==oK)<;>rw[hY]at hx
   ·cases hU:(nm==oL)<;>rw[hU]at hx
    ·cases hx
    ·simp only[ae,aR]at hx;unfold xg at hx;obtain⟨p,_,hp,hx⟩:=bind_ok hx;obtain⟨_,_,_,hx⟩:=bind_ok hx;obtain⟨_,_,_,hx⟩:=bind_ok hx;obtain⟨us,_,hu,hx⟩:=bind_ok hx;obtain⟨_,_,_,hx⟩:=bind_ok hx;cases hx;have:=(uZ (P:=fun _=>True) l _ (fun _ _ _ _=>trivial) 15 [] _ us _ (fun _ _=>trivial) hu).1;exact⟨Fe _ (by simp) (by simpa using this) (fun q=>absurd q (by show ¬((4:Int)=2\/(4:Int)=3);decide)) (fun p hp=>by cases hp) (by show(1:Int)<=4;decide) (by show(4:Int)<=4;decide),Tq hp⟩
   ·simp only[ae,aR]at hx;obtain⟨_,_,_,hx⟩:=bind_ok hx;obtain⟨_,_,_,hx⟩:=bind_ok hx;obtain⟨t,_,ht,hx⟩:=bind_ok hx;cases hx;have:=(Fb l hl 4 _ _ _ ht).2.2.1;exact⟨Fe _ (by simp) (by simp) (fun _=>by show 0<=bX 4 t;omega) (fun p hp=>by cases hp) (by show(1:Int)<=2;decide) (by show(2:Int)<=4;decide),fun _=>rfl⟩
  ·simp only[ae,aR]at hx;obtain⟨_,_,_,hx⟩:=bind_ok hx;cases hx;exact⟨Fe _ (by simp) (by simp) (fun q=>absurd q (by show ¬((1:Int)=2\/(1:Int)=3);decide)) (fun p hp=>by cases hp) (by show(1:Int)<=1;decide) (by show(1:Int)<=4;decide),fun _=>rfl⟩
 ·exact ajZ l hl _ _ _ _ hx
theorem aj1(l:List ai)(hl:l.length<=4001)(k:Nat)(v:aE)(k':Nat)(h:l9 l k=.ok v k'):lI v=true/\∀i∈v.Items,nL i.From:=by
 unfold l9 at h;obtain⟨_,_,_,h⟩:=bind_ok h;obtain⟨_,_,_,h⟩:=bind_ok h;obtain⟨xs,_,hx,h⟩:=bind_ok h;cases h;have:=Ai (P:=Ff) l (ki l) (aj0 l hl) 16 [] _ xs _ (fun v hv=>by cases hv) hx;have h1:xs.length<=16:=by simpa using this.1
 refine⟨?_,fun i hi=>(this.2 i hi).2⟩;unfold lI;rw[cA (show ¬(16:Int)<((xs.length:Nat):Int) by omega),bu,bU,fN];exact fun i hi=>(this.2 i hi).1
theorem aj2(l:List ai)(k:Nat)(v:aJ)(k':Nat)(h:qA l k=.ok v k'):lJ v=true/\∀i∈v.Items,nL i.Path:=by
 unfold qA at h;obtain⟨_,_,_,h⟩:=bind_ok h;obtain⟨_,_,_,h⟩:=bind_ok h;obtain⟨xs,_,hx,h⟩:=bind_ok h;cases h;have hw:∀(K:Int),(decide (1<=K)&&decide (K<=3))=true->∀k v k',sq l K k=.ok v k'->qN v=true/\nL v.Path:=fun K hK k v k' h=>by
  unfold sq at h;obtain⟨p,_,hp,h⟩:=bind_ok h;obtain⟨_,_,_,h⟩:=bind_ok h;cases h;exact⟨hK,Tq hp⟩
 have:=Ai (P:=fun v:aH=>qN v=true/\nL v.Path) l (jB l) (fun k v k' h=>by
  unfold jB at h;cases h1:aI l nF k<;>rw[h1]at h
  ·cases h2:aI l nG k<;>rw[h2]at h
   ·cases h3:aI l nH k<;>rw[h3]at h
    ·cases h
    ·exact hw 3 rfl _ _ _ h
   ·exact hw 2 rfl _ _ _ h
  ·exact hw 1 rfl _ _ _ h) 16 [] _ xs _ (fun v hv=>by cases hv) hx
 have h1:xs.length<=16:=by simpa using this.1
 refine⟨?_,fun i hi=>(this.2 i hi).2⟩;unfold lJ;rw[cA (show ¬(16:Int)<((xs.length:Nat):Int) by omega),bu,bU,fN];exact fun i hi=>(this.2 i hi).1
theorem aj3(l:List ai)(hl:l.length<=4001)(k:Nat)(p:aj)(k':Nat)(h:jd l k=.ok p k'):sW p=true/\LV p:=by
 unfold jd at h;obtain⟨_,_,_,h⟩:=bind_ok h;obtain⟨_,_,_,h⟩:=bind_ok h;obtain⟨_,_,_,h⟩:=bind_ok h;obtain⟨_,_,_,h⟩:=bind_ok h;obtain⟨_,_,_,h⟩:=bind_ok h;obtain⟨q,k6,h6,h⟩:=bind_ok h;cases h;have:=Aj (P:=fun f=>lI f=true/\∀i∈f.Items,nL i.From) (Q:=fun f=>lJ f=true/\∀i∈f.Items,nL i.Path) l (aj1 l hl) (aj2 l) 16 [] [] _ q _ (by simp) (by simp) (by simp) (by simp) h6;refine⟨?_,fun f hf=>(this.2.2.1 f hf).2,fun w hw=>(this.2.2.2 w hw).2⟩;unfold sW;have e1:q.1.all lI=true:=by rw[fN];exact fun f hf=>(this.2.2.1 f hf).1
 have e2:q.2.all lJ=true:=by rw[fN];exact fun f hf=>(this.2.2.2 f hf).1
 have h1:=this.1;have h2:=this.2.1;show(!(decide ((8:Int)<((q.1.length:Nat):Int))||decide ((8:Int)<((q.2.length:Nat):Int)))&&(q.1.all lI&&q.2.all lJ))=true
 rw[cA (show ¬(8:Int)<((q.1.length:Nat):Int) by omega),cA (show ¬(8:Int)<((q.2.length:Nat):Int) by omega),e1,e2];rfl
theorem aj6(s:List UInt8)(x:aj)(h:ix s=.inr x):sW x=true/\LV x:=by
 unfold ix at h;split at h
 ·rename_i h0;split at h
  ·cases h
  ·rename_i hp;cases h;exact aj3 _ (Lh s h0).len _ _ _ hp
 ·cases h
theorem Tt(x:aj)(hx:x.sz<=1048576):M.u6 x=some (iJ x (iT dk x))/\M.qJ x=some (iJ x (iT dk x))/\(iJ x (iT dk x)=true->M.oR x=some (iT dk x)):=
 ai9 x (iT dk x) hx (ajM x hx) (sW x) (ajN x) (fun h=>⟨_,S9 x hx h⟩) (fun⟨t,ht⟩=>by
  obtain⟨w1,w2⟩:=aj6 t x ht;exact⟨w1,by rw[S9 x hx w1,ajT x w2]⟩)
end M
namespace M
open Go.V (inB cg aw ad bz)
noncomputable def okB(x:aj):Bool:=iJ x (iT dk x)
def mc(x q:aj):Bool:=(x.Name==q.Name)&&(x.Version==q.Version)
noncomputable def A2(l:List aj)(k:Nat):Bool:=okB (l.getD k aj.zero)&& !((l.take k).any (mc (l.getD k aj.zero)))
noncomputable def pw(l:List aj):Nat->Nat->Bool
 |0,_=>true
 |n+1,k=>A2 l k&&pw l n (k+1)
noncomputable def vf(l:List aj):Int:=bif decide ((8:Int)<((l.length:Nat):Int))then 4 else bif pw l l.length 0 then 0 else 1
theorem Tu(s:List aj)(f:aj)(hs:s.length<=1048576):∀(n k:Nat),s.length-k<n->k<=s.length->∃y,M.xX s f ((s.length:Nat):Int) n (k:Int)=some y/\Sum.elim (fun a:Int=>0<=a/\(s.drop k).any (mc f)=true) (fun _=>(s.drop k).any (mc f)=false) y
 |0,k,h,_=>by omega
 |n+1,k,h,hk=>by
  rw[M.xX];rcases cP k s.length with q|q
  ·rw[jg q,List.any_cons];have e:((f.Name==s[k].Name)&&(f.Version==s[k].Version))=mc f s[k]:=rfl;simp only[eS q,bw,dz _ q,e,ae,dI q,al,bZ q (by omega:s.length<2^62)];cases hc:mc f s[k]
   ·obtain⟨y,h1,h2⟩:=Tu s f hs n (k+1) (by omega) (by omega);refine⟨y,by simpa only[aR]using h1,?_⟩;simpa only[mm]using h2
   ·exact⟨.inl (k:Int),rfl,show(0:Int)<=(k:Int) by omega,rfl⟩
  ·simp only[jD q,aR];rw[List.drop_eq_nil_of_le q];exact⟨_,rfl,rfl⟩
theorem aj7(s:List aj)(f:aj)(hs:s.length<=1048576):M.A3 s f=some (s.any (mc f)):=by
 obtain⟨y,h1,h2⟩:=Tu s f hs ad 0 (by have:=bz;omega) (dN _);rw[show((0:Nat):Int)=0 from rfl]at h1;rw[lR]at h2;unfold M.A3 M.Fg;rw[h1];cases y with
 |inl a=>
  have h2:0<=a/\s.any (mc f)=true:=h2;simp only[aB,ay,al,ae,h2.2,da h2.1]
 |inr u=>
  have h2:s.any (mc f)=false:=h2;rw[h2];rfl
theorem Tv(l:List aj)(hl:l.length<=8)(hz:∀x∈l,x.sz<=1048576):∀(n f k:Nat),n<f->k+n=l.length->M.vg l l ((l.length:Nat):Int) f (k:Int)=some (bif pw l n k then .inr ()else .inl 1)
 |n,0,k,h,_=>by omega
 |0,f+1,k,h,hk=>by
  rw[M.vg,pw];simp only[jD (show l.length<=k by omega),aR,ae]
 |n+1,f+1,k,h,hk=>by
  have q:k<l.length:=by omega
  have ih:=Tv l hl hz n f (k+1) (by omega) (by omega);rw[M.vg,pw];have e1:=(Tt l[k] (hz _ (cE q))).1;have e2:List.drop (Int.toNat (0:Int)) (List.take k l)=l.take k:=rfl;have e3:=aj7 (l.take k) l[k] (by rw[om];omega);have e4:cg (0:Int) (k:Int) l.length=true:=by unfold cg;simp only[cG,bB];omega
  have eg:A2 l k=(iJ l[k] (iT dk l[k])&& !((l.take k).any (mc l[k]))):=by unfold A2 okB;rw[dz _ q]
  rw[eg];simp only[eS q,bw,dz _ q,e1,e2,e3,e4,ay,aB,dI q,cq,al,ae,bZ q (by omega:l.length<2^62),ih];cases iJ l[k] (iT dk l[k])<;>cases (l.take k).any (mc l[k])<;>rfl
theorem aj8(l:List aj)(hz:∀x∈l,x.sz<=1048576):M.A4 l=some (vf l):=by
 unfold M.A4 vf;cases hc:decide ((8:Int)<((l.length:Nat):Int))
 ·have hl:l.length<=8:=by have:=of_decide_eq_false hc;omega
  have e:=Tv l hl hz l.length ad 0 (by have:=bz;omega) (by omega);rw[show((0:Nat):Int)=0 from rfl]at e;simp only[aR,e];cases pw l l.length 0<;>rfl
 ·rfl
theorem aj9(x q:aj):((q.Name==x.Name)&&(q.Version==x.Version))=mc x q:=by
 unfold mc;rw[BEq.comm,BEq.comm (a:=q.Version)]
theorem Tz(l:List aj)(hl:l.length<=8)(i:Nat)(hi:i<l.length):∀(n f k:Nat),n<f->k+n=i->M.vh l (i:Int) f (k:Int)=some (bif((l.take i).drop k).any (mc l[i])then .inl 1 else .inr (l,(i:Int)))
 |n,0,k,h,_=>by omega
 |0,f+1,k,h,hk=>by
  have hki:k=i:=by omega
  subst hki;rw[M.vh,List.drop_eq_nil_of_le (by rw[om];omega)];have:decide ((k:Int)<(k:Int))=false:=cA (by omega);simp only[this,aR];rfl
 |n+1,f+1,k,h,hk=>by
  have q:k<i:=by omega
  have hkl:k<l.length:=by omega
  have ih:=Tz l hl i hi n f (k+1) (by omega) (by omega);have hd:(l.take i).drop k=l[k]::(l.take i).drop (k+1):=by
   have hk2:k<(l.take i).length:=by rw[om];omega
   rw[jg hk2,List.getElem_take]
  rw[M.vh,hd,List.any_cons,<-aj9];simp only[eS q,bw,dz _ hkl,dz _ hi,ae,dI hkl,dI hi,cq,al,bZ q (by omega:i<2^62),ih];cases ((l[k].Name==l[i].Name)&&(l[k].Version==l[i].Version))<;>rfl
theorem TA(l:List aj)(hl:l.length<=8)(hz:∀x∈l,x.sz<=1048576):∀(n f k:Nat),n<f->k+n=l.length->M.vi f l (k:Int)=some (bif pw l n k then .inr ()else .inl 1)
 |n,0,k,h,_=>by omega
 |0,f+1,k,h,hk=>by
  rw[M.vi,pw];simp only[jD (show l.length<=k by omega),aR,ae]
 |n+1,f+1,k,h,hk=>by
  have q:k<l.length:=by omega
  have ih:=TA l hl hz n f (k+1) (by omega) (by omega);rw[M.vi,pw];have e1:=(Tt l[k] (hz _ (cE q))).2.1;have e2:=Tz l hl k q k ad 0 (by have:=bz;omega) (by omega);rw[show((0:Nat):Int)=0 from rfl,lR]at e2;have eg:A2 l k=(iJ l[k] (iT dk l[k])&& !((l.take k).any (mc l[k]))):=by unfold A2 okB;rw[dz _ q]
  rw[eg];simp only[eS q,bw,dz _ q,e1,e2,ay,aB,dI q,al,ae];cases iJ l[k] (iT dk l[k])
  ·rfl
  ·cases (l.take k).any (mc l[k])
   ·simp only[dT,aR,bu,al,bU,bZ q (by omega:l.length<2^62),ih]
   ·rfl
theorem aka(l:List aj)(hz:∀x∈l,x.sz<=1048576):M.A5 l=some (vf l):=by
 unfold M.A5 vf;cases hc:decide ((8:Int)<((l.length:Nat):Int))
 ·have hl:l.length<=8:=by have:=of_decide_eq_false hc;omega
  have e:=TA l hl hz l.length ad 0 (by have:=bz;omega) (by omega);rw[show((0:Nat):Int)=0 from rfl]at e;simp only[aR,e];cases pw l l.length 0<;>rfl
 ·rfl
end M
namespace M
open Go.V (inB cg aw ad bz)
def ajK(s:List UInt8):Int×Bool:=match dQ.tJ s with
 |some n=>((n:Int),true)
 |none=>(0,false)
def ajQ(s:List UInt8):Int:=match dQ.tK s with
 |some n=>(n:Int)
 |none=> -1
theorem atF(s:List UInt8)(h:s.length<=1048576):M.Ba s=some (ajK s):=by
 have hs:M.strings_Split s [46]=some (dQ.eH s):=by
  unfold M.strings_Split;have:decide (s.length<4294967281)=true:=by rw[bB];omega
  rw[this];rfl
 have hrd:∀p∈dQ.eH s,M.qj p=some (M.fu p):=fun p hp=>by
  have:=akg s p hp;unfold M.qj;have:decide (p.length<=281474976710656)=true:=by rw[bB];omega
  rw[this];rfl
 unfold M.Ba ajK dQ.tJ;rw[hs];simp only[ay,aB,bU,dB,ae]
 match hp:dQ.eH s,hrd with
 |[],_=>rfl
 |[a],_=>rfl
 |[a,b],_=>rfl
 |a::b::c::d::r,_=>
  have:((((a::b::c::d::r).length:Nat):Int) !=3)=true:=by
   simp only[ak,yN];omega
  rw[this];rfl
 |[a,b,c],hrd=>
   have h3:((((([a,b,c]:List (List UInt8)).length:Nat):Int) !=3))=false:=rfl;rw[h3];simp only[aR];obtain⟨f0,hf0⟩:∃f0,ad=f0+4:=⟨ad-4,by have:=bz;omega⟩;have ra:=hrd a (by simp);have rb:=hrd b (by simp);have rc:=hrd c (by simp);have st:∀(f:Nat)(n:Int)(k:Nat)(p:List UInt8)(hk:k<3),([a,b,c].getD k [])=p->M.qj p=some (M.fu p)->M.qQ [a,b,c] ((([a,b,c]:List (List UInt8)).length:Nat):Int) (f+1) n (k:Int)=
    bif((!(M.fu p).2)||(!(decide ((0:Int)<=(M.fu p).1)&&decide ((M.fu p).1<=999))))then some (.inl (0,false))else M.qQ [a,b,c] ((([a,b,c]:List (List UInt8)).length:Nat):Int) f (Go.IntKind.wrap .i64 (Go.IntKind.wrap .i64 (n*1000)+(M.fu p).1)) ((k+1:Nat):Int):=fun f n k p hk hg hr=>by
    rw[M.qQ];have hlt:decide ((k:Int)<((([a,b,c]:List (List UInt8)).length:Nat):Int))=true:=by simp;omega
    have hin:inB (k:Int) ([a,b,c]:List (List UInt8)).length=true:=by rw[dD];simp;omega
    simp only[hlt,ae,bw,hg,hr,ay,aB,hin,bU,dB,bZ (show k<3 from hk) (by omega)]
   have e0:=st (f0+3) 0 0 a (by omega) rfl ra;rw[hf0];change M.qQ [a,b,c] ((([a,b,c]:List (List UInt8)).length:Nat):Int) (f0+4) 0 0=_ at e0;rw[e0];rcases L2 a with⟨ha,ca⟩|⟨x,ha,hx,ea,ca⟩
   ·rw[ca,ha];rfl
   rw[ca,ha];have w1:Go.IntKind.wrap .i64 (Go.IntKind.wrap .i64 ((0:Int)*1000)+(M.fu a).1)=(x:Int):=by
    rw[ea,wrap_i64 (n:=0*1000) (by omega) (by omega),wrap_i64 (by omega) (by omega)];omega
   rw[aR,w1,st (f0+2) _ 1 b (by omega) rfl rb];rcases L2 b with⟨hb,cb⟩|⟨y,hb,hy,eb,cb⟩
   ·rw[cb,hb];rfl
   rw[cb,hb];have w2:Go.IntKind.wrap .i64 (Go.IntKind.wrap .i64 ((x:Int)*1000)+(M.fu b).1)=((x*1000+y:Nat):Int):=by
    rw[eb,wrap_i64 (show -9223372036854775808<=(x:Int)*1000 by omega) (by omega),wrap_i64 (by omega) (by omega)];omega
   rw[aR,w2,st (f0+1) _ 2 c (by omega) rfl rc];rcases L2 c with⟨hc,cc⟩|⟨z,hc,hz,ec,cc⟩
   ·rw[cc,hc];rfl
   rw[cc,hc];have w3:Go.IntKind.wrap .i64 (Go.IntKind.wrap .i64 (((x*1000+y:Nat):Int)*1000)+(M.fu c).1)=(((x*1000+y)*1000+z:Nat):Int):=by
    rw[ec,wrap_i64 (show -9223372036854775808<=((x*1000+y:Nat):Int)*1000 by omega) (by omega),wrap_i64 (by omega) (by omega)];omega
   rw[aR,w3,M.qQ];rfl
theorem atJ(s:List UInt8):M.Bf s=some (ajQ s):=by
 unfold M.Bf ajQ dQ.tK;have hl:=Me s ad 0 0 0 0 0 (dN _) (by have:=bz;omega) ⟨by simp,fh _,fun _=>rfl,fun _=>rfl,fun h=>by omega,fun h=>by omega⟩;rw[lR]at hl;rcases hl with⟨e1,e2⟩|⟨m,q,e,m',e1,e2,hI⟩
 ·have e2':M.py s ad 0 0 0 0=_:=e2;rw[e1,e2']
 ·have e2':M.py s ad 0 0 0 0=_:=e2;rw[e1,e2'];simp only;have hq:q<1000000000000:=kY hI.fp (lU (Nat.pow_le_pow_right (by decide) (show min s.length 12<=12 by omega)) (by decide));by_cases he:e=2
  ·subst he;have hm:=hI.d2 rfl;have hw:Go.IntKind.wrap .i64 (m'+(q:Int))=((m+q:Nat):Int):=by
    rw[hI.eq (by omega),wrap_i64 (by omega) (by omega)];omega
   rw[hw];by_cases hc:q<=999/\m+q<1000000000
   ·have c1:((((2:Nat):Int) !=2)||decide ((999:Int)<(q:Int)))=false:=by
     rw[jU,fi];exact⟨rfl,by omega⟩
    have c2:(decide ((0:Int)<=((m+q:Nat):Int))&&decide (((m+q:Nat):Int)<=999999999))=true:=by
     rw[cG,bB,bB];omega
    rw[c1,c2,akh hc.2];by_cases ht:dQ.kr (m+q)=s
    ·rw[aY ⟨rfl,hc.1,hc.2,ht⟩];simp[ht]
    ·rw[aT (fun h=>ht h.2.2.2)];have:(dQ.kr (m+q)==s)=false:=by rw[cQ];exact ht
     simp[this]
   ·rw[aT (fun h=>hc ⟨h.2.1,h.2.2.1⟩)];have c:(((((2:Nat):Int) !=2)||decide ((999:Int)<(q:Int)))|| !(decide ((0:Int)<=((m+q:Nat):Int))&&decide (((m+q:Nat):Int)<=999999999)))=true:=by
     rw[ej,ej,bB,fk,Bool.and_eq_false_iff,fi,fi];omega
    rw[c];simp
  ·rw[aT (fun h=>he h.1)];have c:((((e:Nat):Int) !=2))=true:=by rw[yN];omega
   rw[c];simp
end M
namespace M
open Go.V (inB cg aw ad bz)
def aet(h w:List UInt8):Bool:=match dQ.tJ h,dQ.tJ w with
 |some x,some y=>bif decide ((x:Int)<(y:Int))||((Go.IntKind.wrap .i64 (Int.tdiv (x:Int) 1000000)) !=(Go.IntKind.wrap .i64 (Int.tdiv (y:Int) 1000000)))then false
  else decide ((1000000:Int)<=(x:Int))||((Go.IntKind.wrap .i64 (Int.tdiv (x:Int) 1000))==(Go.IntKind.wrap .i64 (Int.tdiv (y:Int) 1000)))
 |_,_=>false
def aeu(a b:List UInt8):Bool:=match dQ.tJ a,dQ.tJ b with
 |some x,some y=>decide ((y:Int)<(x:Int))
 |_,_=>false
theorem auo:((1000000:Int) !=0)=true:=rfl
theorem aup:((1000:Int) !=0)=true:=rfl
theorem avk(h w:List UInt8)(h1:h.length<=1048576)(h2:w.length<=1048576):M.ae7 h w=some (aet h w):=by
 unfold M.ae7 aet;simp only[atF h h1,atF w h2,ay,aB,auo,aup,cq,al,ae];unfold ajK;cases dQ.tJ h with
 |none=>rfl
 |some x=>
  cases dQ.tJ w with
  |none=>rfl
  |some y=>simp only[dT,lV,mm];exact ajh _ _ _
theorem atK(s:List UInt8):ajQ s=match dQ.tJ s with
 |some n=>(n:Int)
 |none=> -1:=by unfold ajQ;rw[dQ.ad4];try (cases dQ.tK s<;>rfl)
theorem nn(n:Nat):decide ((n:Int)<0)=false:=cA (by omega)
theorem atM:decide ((-1:Int)<0)=true:=rfl
theorem avl(h w:List UInt8):M.ae8 h w=some (aet h w):=by
 unfold M.ae8 aet;simp only[atJ h,atJ w,ay,aB,auo,aup,cq,al,ae];rw[atK,atK];cases dQ.tJ h with
 |none=>simp only[atM,cq,ae]
 |some x=>
  cases dQ.tJ w with
  |none=>simp only[atM,cq,iz,ae]
  |some y=>simp only[nn,lV,mm];exact ajh _ _ _
theorem ne_self(x:Int):(x !=x)=false:=by rw[bne_eq_false_iff_eq]
theorem avm(a b:List UInt8)(h1:a.length<=1048576)(h2:b.length<=1048576):M.afg a b=some (aeu a b):=by
 unfold M.afg M.atN aeu;simp only[atF a h1,atF b h2,ay,aB,al,ae];unfold ajK M.atO;cases dQ.tJ a with
 |none=>rfl
 |some x=>
  cases dQ.tJ b with
  |none=>rfl
  |some y=>
   simp only[dT,lV,aR,ne_self];by_cases c1:(x:Int)<(y:Int)
   ·rw[da c1,cA (show ¬(y:Int)<(x:Int) by omega)];rfl
   ·rw[cA c1];by_cases c2:(y:Int)<(x:Int)
    ·rw[da c2];rfl
    ·rw[cA c2];rfl
theorem avn(a b:List UInt8):∃c e:Int,M.afh a b=some (c,e)/\decide (c<=0)= !aeu a b:=by
 unfold M.afh aeu;simp only[atJ a,atJ b,ay,aB,al,ae];rw[atK,atK];cases dQ.tJ a with
 |none=>exact⟨0,14,by simp only[atM,cq,ae],rfl⟩
 |some x=>
  cases dQ.tJ b with
  |none=>exact⟨0,14,by simp only[atM,iz,ae],rfl⟩
  |some y=>
   simp only[nn,lV,aR];by_cases c1:(x:Int)<(y:Int)
   ·rw[da c1,cA (show ¬(y:Int)<(x:Int) by omega)];exact⟨-1,0,rfl,rfl⟩
   ·rw[cA c1];by_cases c2:(y:Int)<(x:Int)
    ·rw[da c2];exact⟨1,0,rfl,rfl⟩
    ·rw[cA c2];exact⟨0,0,rfl,rfl⟩
def afH(l:List aj)(name want:List UInt8)(s:Int×Bool)(k:Nat):Int×Bool:=
 bif !((l.getD k aj.zero).Name==name)then s
 else bif(!(want==[]))&& !aet (l.getD k aj.zero).Version want then(s.1,true)
 else bif decide (s.1<0)||aeu (l.getD k aj.zero).Version (l.getD s.1.toNat aj.zero).Version then((k:Int),true)else(s.1,true)
def adR(l:List aj)(name want:List UInt8):Nat->Nat->Int×Bool->Int×Bool
 |0,_,s=>s
 |n+1,k,s=>adR l name want n (k+1) (afH l name want s k)
def PIn(k:Nat)(b:Int):Prop:=b= -1\/(0<=b/\b<(k:Int))
theorem aui(l:List aj)(name want:List UInt8)(s:Int×Bool)(k:Nat)(h:PIn k s.1):PIn (k+1) (afH l name want s k).1:=by
 have up:PIn (k+1) s.1:=h.imp id fun⟨a,b⟩=>⟨a,by omega⟩
 unfold afH;cases (l.getD k aj.zero).Name==name
 ·exact up
 ·cases ((!(want==[]))&& !aet (l.getD k aj.zero).Version want)
  ·cases (decide (s.1<0)||aeu (l.getD k aj.zero).Version (l.getD s.1.toNat aj.zero).Version)
   ·exact up
   ·exact .inr ⟨by show(0:Int)<=(k:Int);omega,by show(k:Int)<((k+1:Nat):Int);omega⟩
  ·exact up
theorem auj(l:List aj)(name want:List UInt8):∀(n k:Nat)(s:Int×Bool),PIn k s.1->PIn (k+n) (adR l name want n k s).1
 |0,k,s,h=>h
 |n+1,k,s,h=>by
  have:=auj l name want n (k+1) _ (aui l name want s k h);rw[show k+1+n=k+(n+1) by omega]at this;exact this
theorem auk(l:List aj)(hz:∀x∈l,x.sz<=1048576)(k:Nat):(l.getD k aj.zero).Version.length<=1048576:=by
 rcases cP k l.length with q|q
 ·rw[dz _ q];have h1:=hz _ (cE q);have h2:=aj.cu l[k];omega
 ·rw[gn,hZ q];show([]:List UInt8).length<=1048576
  simp
theorem auc{l:List aj}{k:Nat}{b:Int}(h:PIn k b)(hk:k<=l.length)(hb:¬b<0):inB b l.length=true:=by
 rcases h with rfl|⟨h1,h2⟩
 ·omega
 ·unfold inB;rw[cG,bB,bB];omega
theorem auq(l:List aj)(name want:List UInt8)(hl:l.length<=8)(hz:∀x∈l,x.sz<=1048576)(hw:want.length<=1048576):∀(n f k:Nat)(b:Int)(m:Bool),n<f->k+n=l.length->PIn k b->
 M.aei l name want l ((l.length:Nat):Int) f b m (k:Int)=some (l,want,(adR l name want n k (b,m)).1,(adR l name want n k (b,m)).2)
 |n,0,k,b,m,h,_,_=>by omega
 |0,f+1,k,b,m,h,hk,_=>by
  rw[M.aei,adR];simp only[jD (show l.length<=k by omega),aR]
 |n+1,f+1,k,b,m,h,hk,hb=>by
  have q:k<l.length:=by omega
  have ih:=fun b' m' hb'=>auq l name want hl hz hw n f (k+1) b' m' (by omega) (by omega) hb'
  have hst:=aui l name want (b,m) k hb;rw[M.aei,adR];have e1:=avk (l.getD k aj.zero).Version want (auk l hz k) hw;have e2:=avm (l.getD k aj.zero).Version (l.getD b.toNat aj.zero).Version (auk l hz k) (auk l hz _);have wk:=bZ q (by omega:l.length<2^62);have hin:(inB b l.length|| !((decide (b<0))==false))=true:=by
   by_cases c:b<0
   ·rw[da c];simp
   ·rw[auc hb (by omega) c];rfl
  have hor:∀a c:Bool,a=true->((a|| !c)&&(a||c))=true:=fun a c e=>by rw[e];rfl
  simp only[eS q,bw,ae,e1,e2,ay,aB,dI q,cq,al,hin,wk];unfold afH at hst⊢;cases c1:((l.getD k aj.zero).Name==name)
  ·rw[c1]at hst;simp only[bu,ae]at hst⊢;exact ih b m hst
  ·rw[c1]at hst;simp only[dT,aR]at hst⊢;cases c2:((!(want==[]))&& !aet (l.getD k aj.zero).Version want)
   ·rw[c2]at hst;simp only[aR]at hst⊢;cases c3:(decide (b<0)||aeu (l.getD k aj.zero).Version (l.getD b.toNat aj.zero).Version)
    ·rw[c3]at hst;simp only[aR]at hst⊢;exact ih b true hst
    ·rw[c3]at hst;simp only[ae]at hst⊢;exact ih (k:Int) true hst
   ·rw[c2]at hst;simp only[ae]at hst⊢;exact ih b true hst
theorem aur(l:List aj)(name want:List UInt8)(hl:l.length<=8):∀(n f k:Nat)(b:Int)(m:Bool),n<f->k+n=l.length->PIn k b->
 M.adS l name want f b m (k:Int)=some (l,want,(adR l name want n k (b,m)).1,(adR l name want n k (b,m)).2)
 |n,0,k,b,m,h,_,_=>by omega
 |0,f+1,k,b,m,h,hk,_=>by
  rw[M.adS,adR];simp only[jD (show l.length<=k by omega),aR]
 |n+1,f+1,k,b,m,h,hk,hb=>by
  have q:k<l.length:=by omega
  have ih:=fun b' m' hb'=>aur l name want hl n f (k+1) b' m' (by omega) (by omega) hb'
  have hst:=aui l name want (b,m) k hb;rw[M.adS,adR];have e1:=avl (l.getD k aj.zero).Version want;obtain⟨c,e,e2,e3⟩:=avn (l.getD k aj.zero).Version (l.getD b.toNat aj.zero).Version;have wk:=bZ q (by omega:l.length<2^62);simp only[eS q,bw,ae,e1,e2,e3,ay,aB,dI q,cq,al,wk];unfold afH at hst⊢;cases c1:((l.getD k aj.zero).Name==name)
  ·rw[c1]at hst;simp only[bu,ae]at hst⊢;exact ih b m hst
  ·rw[c1]at hst;simp only[dT,aR]at hst⊢;cases c2:((!(want==[]))&& !aet (l.getD k aj.zero).Version want)
   ·rw[c2]at hst;simp only[aR]at hst⊢;by_cases c0:b<0
    ·rw[da c0]at hst⊢;rw[cA (show ¬(0:Int)<=b by omega)];simp only[cq,ae,aR]at hst⊢;exact ih (k:Int) true hst
    ·rw[cA c0]at hst⊢;rw[da (show(0:Int)<=b by omega),auc hb (by omega) c0];simp only[mm,ae,al]at hst⊢;cases c3:aeu (l.getD k aj.zero).Version (l.getD b.toNat aj.zero).Version
     ·rw[c3]at hst;simp only[bu,ae,aR]at hst⊢;exact ih b true hst
     ·rw[c3]at hst;simp only[dT,ae,aR]at hst⊢;exact ih (k:Int) true hst
   ·rw[c2]at hst;simp only[ae]at hst⊢;exact ih b true hst
def aud(l:List aj)(name want:List UInt8):Int×Int×Int:=
 let s:=adR l name want l.length 0 (-1,false)
 bif !s.2 then(0,0,3)else bif decide (s.1<0)then(0,0,14)else bif want==[]then(s.1,4,0)else bif(l.getD s.1.toNat aj.zero).Version==want then(s.1,2,0)else(s.1,3,0)
theorem avo(l:List aj)(name want:List UInt8)(hl:l.length<=8):M.afQ l name want=some (aud l name want):=by
 unfold M.afQ aud;have e:=aur l name want hl l.length ad 0 (-1) false (by have:=bz;omega) (by omega) (.inl rfl);have hin:=auj l name want l.length 0 (-1,false) (.inl rfl);rw[show((0:Nat):Int)=0 from rfl,show(-1:Int)= -(1:Int)from rfl]at e;rw[e];rw[show(-(1:Int))=(-1:Int)from rfl];generalize adR l name want l.length 0 (-1,false)=s at*;simp only;cases s.2
 ·rfl
 ·by_cases c:s.1<0
  ·rw[da c];rfl
  ·rw[cA c,auc hin (by omega) c];cases (want==[])<;>cases ((l.getD s.1.toNat aj.zero).Version==want)<;>rfl
def aue(l:List aj)(name want:List UInt8):Int×Int×Int:=bif(!(want==[]))&& !sd want then(0,0,1)else aud l name want
theorem avp(l:List aj)(name want:List UInt8)(hl:l.length<=8)(hz:∀x∈l,x.sz<=1048576)(hw:want.length<=1048576):M.agZ l name want=some (aue l name want):=by
 unfold M.agZ aue;simp only[ahC want hw,ay,aB,cq,al,ae];cases ((!(want==[]))&& !sd want)
 ·simp only[aR];unfold aud;have e:=auq l name want hl hz hw l.length ad 0 (-1) false (by have:=bz;omega) (by omega) (.inl rfl);have hin:=auj l name want l.length 0 (-1,false) (.inl rfl);rw[show((0:Nat):Int)=0 from rfl,show(-1:Int)= -(1:Int)from rfl]at e;rw[e];rw[show(-(1:Int))=(-1:Int)from rfl];generalize adR l name want l.length 0 (-1,false)=s at*;simp only;cases s.2
  ·rfl
  ·by_cases c:s.1<0
   ·rw[da c];rfl
   ·rw[cA c,auc hin (by omega) c];cases (want==[])<;>cases ((l.getD s.1.toNat aj.zero).Version==want)<;>rfl
 ·rfl
theorem aus{l:List aj}(h:(vf l !=0)=false):l.length<=8:=by
 unfold vf at h;cases hc:decide ((8:Int)<((l.length:Nat):Int))<;>rw[hc]at h
 ·have:=of_decide_eq_false hc;omega
 ·exact absurd h (by show ¬(((4:Int) !=0)=false);decide)
noncomputable def auf(l:List aj)(name want:List UInt8):Int×Int×Int:=bif vf l !=0 then(0,0,vf l)else aue l name want
theorem avq(l:List aj)(name want:List UInt8)(hz:∀x∈l,x.sz<=1048576)(hw:want.length<=1048576):M.ajn l name want=some (auf l name want):=by
 unfold M.ajn auf;simp only[aj8 l hz,ay,aB,al,ae];cases hc:(vf l !=0)
 ·simp only[aR,avp l name want (aus hc) hz hw,ay,aB,al,ae]
 ·rfl
theorem avr(l:List aj)(name want:List UInt8)(hz:∀x∈l,x.sz<=1048576):M.ajx l name want=some (auf l name want):=by
 unfold M.ajx auf aue;simp only[aka l hz,ahE want,ay,aB,cq,al,ae];cases hc:(vf l !=0)
 ·simp only[aR];cases ((!(want==[]))&& !sd want)
  ·simp only[aR,avo l name want (aus hc),ay,aB,al,ae]
  ·rfl
 ·rfl
theorem avs(l:List aj)(name want:List UInt8)(ok:gm aj.Ok l):M.ajy l name want=some true:=by
 unfold M.ajy;by_cases hn:(1048576:Int)<((name.length:Nat):Int)
 ·rw[da hn];rfl
 ·rw[cA hn];by_cases hw:(1048576:Int)<((want.length:Nat):Int)
  ·rw[da hw];rfl
  ·rw[cA hw];simp only[aR];have e:=akc l 1048576 ok (by omega) (by omega);by_cases hs:((aQ aj.sz l:Nat):Int)<=1048576
   ·have hx:aQ aj.sz l<=1048576:=by omega
    rw[aY hs]at e;have hz:∀x∈l,x.sz<=1048576:=fun x hm=>lU (dL aj.sz l x hm) hx
    have e1:=avq l name want hz (by omega);have e2:=avr l name want hz;simp only[e,akd l hx,e1,e2,ne_self,ake l hx,ay,aB,cA (show ¬(1048576:Int)-((aQ aj.sz l:Nat):Int)<0 by omega),aR,lV,dT,al,ae]
   ·rw[aT hs]at e;simp only[e,ay,aB,al,ae];rfl
end M
