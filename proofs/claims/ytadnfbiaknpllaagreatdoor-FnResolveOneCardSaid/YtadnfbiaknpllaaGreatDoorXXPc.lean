/-
  EQUALITY of terms, on both sides.
-/
import Derived.Test.YtadnfbiaknpllaaGreatDoorXXPb
import Derived.Test.YtadnfbiaknpllaaGreatDoorXZSH
import Derived.Lib.Join
import Derived.Test.YtadnfbiaknpllaaGreatDoorXXTF
set_option linter.unusedVariables false
set_option linter.unusedSimpArgs false
namespace M
open Go.V (inB bN ae aZ)
def fM:Nat->aa->aa->Bool
 |0,_,_=>false
 |n+1,a,b=>((a.Kind==b.Kind)&&(a.Name==b.Name))&&(dQ (· ==·) a.bq b.bq&&dQ (fM n) a.Kids b.Kids)
def lH:Nat->aa->Prop
 |0,_=>False
 |n+1,t=>∀x∈t.Kids,lH n x
theorem rY{α:Type}{p:α->α->Bool}:∀(a b:List α),(∀x∈a,∀y,p x y=true->x=y)->dQ p a b=true->a=b
 |[],[],_,_=>rfl
 |[],_::_,_,h=>by cases h
 |_::_,[],_,h=>by cases h
 |x::a,y::b,hp,h=>by
  rw[dQ,bu]at h;rw[hp x (by simp) y h.1,rY a b (fun z hz=>hp z (by simp[hz])) h.2]
theorem LV:∀(n:Nat)(a b:aa),fM n a b=true->a=b
 |0,_,_,h=>by cases h
 |n+1,a,b,h=>by
  rw[fM,bu,bu,bu]at h;obtain⟨⟨h1,h2⟩,h3,h4⟩:=h;have e3:=rY _ _ (fun x _ y q=>cL.1 q) h3;have e4:=rY _ _ (fun x _ y q=>LV n x y q) h4;have e1:=cL.1 h1;have e2:=cL.1 h2;cases a;cases b;cases e1;cases e2;cases e3;cases e4;rfl
theorem Fe:∀(n:Nat)(a:aa),lH n a->fM n a a=true
 |0,_,h=>h.elim
 |n+1,a,h=>by
  rw[fM,cn,cn,rZ a.bq (fun x _=>cn x),rZ a.Kids (fun x hx=>Fe n x (h x hx))];rfl
theorem aa.BG{a x:aa}(h:x∈a.Kids):x.sz<a.sz:=by
 rw[aa.cY a];have:=SY aa.sz _ _ h;omega
theorem LW:∀(n:Nat)(a:aa),a.sz<n->lH n a
 |0,_,h=>absurd h (xf _)
 |n+1,a,h=>fun x hx=>LW n x (by have:=aa.BG hx;omega)
theorem aa.SZ{a:aa}{N:Nat}(h:a.sz<=N):a.bq.length<=N:=by
 rw[aa.cY]at h;have:=d3 List.length a.bq;omega
theorem aa.Ff{a:aa}{N:Nat}(h:a.sz<=N):a.Kids.length<=N:=by
 rw[aa.cY]at h;have:=d3 aa.sz a.Kids;omega
theorem ahT(a b:List (List UInt8))(ha:a.length<=1048576):M.BH a b=some (dQ (· ==·) a b):=by
 unfold M.BH;exact uc a b ha (fun f k hl h h'=>by
  rw[M.yH];simp only[getD_lt h,getD_lt h',bG,db,fP,h,h',cT h (iJ ha),eG,bQ,ad];cases a[k]==b[k]<;>rfl) (fun f=>by rw[M.yH];simp)
theorem S3:∀(m:Nat)(a b:aa)(n:Nat),n<=100->n<m->a.sz<=1048576->M.wa m a b (n:Int)=some (fM n a b)
 |0,a,b,n,h1,h2,h3=>absurd h2 (xf _)
 |m+1,a,b,n,h1,h2,h3=>by
  show M.Fg (M.wa m) a b _=_
  unfold M.Fg;rw[ahT _ _ (aa.SZ h3)];cases n with
  |zero=>rfl
  |succ n=>
   have hk:a.Kids.length<=1048576:=aa.Ff h3;have d:(((n+1:Nat):Int)==0)=false:=by rw[cO];omega
   have hw:Go.IntKind.wrap .i64 (((n+1:Nat):Int)-1)=(n:Int):=by rw[wrap_i64 (by omega) (by omega)];omega
   have kids:M.BI (M.wa m) a.Kids b.Kids ((n+1:Nat):Int)=some (dQ (fM n) a.Kids b.Kids):=by
    unfold M.BI;exact uc a.Kids b.Kids hk (fun f k hl h h'=>by
     rw[M.yI];have hx:=aa.BG (de h);have:=S3 m a.Kids[k] b.Kids[k] n (by omega) (by omega) (by omega);unfold M.Fh;simp only[aa.bZ,getD_lt h,getD_lt h',bG,db,fP,h,h',cT h (iJ hk),hw,this,eG,bQ,ad,ar,an];cases fM n a.Kids[k] b.Kids[k]<;>rfl) (fun f=>by rw[M.yI];simp)
   simp only[d,kids,fM,bne,an,ar,ln,bh,ak,ad];cases (a.Kind==b.Kind)<;>cases (a.Name==b.Name)<;>cases dQ (· ==·) a.bq b.bq<;>rfl
end M
namespace M
open Go.V (inB bN ae aZ)
theorem ud{α β:Type}(a:List α)(b:List β):(((a.length:Nat):Int) !=((b.length:Nat):Int))= !decide (a.length=b.length):=by
 by_cases h:a.length=b.length
 ·rw[h,cM rfl];simp
 ·have:(((a.length:Nat):Int) !=((b.length:Nat):Int))=true:=by rw[lR];omega
  rw[this,ct h];rfl
theorem S4:∀(m:Nat)(a b:aa)(n:Nat),lH n a->n<=m->a.sz<=1048576->M.ue m a b=some (fM n a b)
 |0,a,b,n,h1,h2,h3=>by
  cases n with
  |zero=>exact h1.elim
  |succ n=>omega
 |m+1,a,b,n,h1,h2,h3=>by
  cases n with
  |zero=>exact h1.elim
  |succ n=>
   show M.Fj (M.ue m) a b=_
   have hk:a.Kids.length<=1048576:=aa.Ff h3;have hl:a.bq.length<=1048576:=aa.SZ h3;have labels:a.bq.length=b.bq.length->M.uf ae 0 a b=some (if dQ (· ==·) a.bq b.bq then .inr (a,b)else .inl false):=fun hle=>
    sc (p:=(· ==·)) (F:=fun f i=>M.uf f i a b) (e:=(a,b)) a.bq b.bq hl hle (fun f k h h'=>by
     rw[M.uf];simp only[aa.bZ,getD_lt h,getD_lt h',bG,db,fP,h,h',cT h (iJ hl),eG,bQ,ad];cases a.bq[k]==b.bq[k]<;>rfl) (fun f=>by rw[M.uf];simp[aa.bZ])
   have kids:a.Kids.length=b.Kids.length->M.ug (M.ue m) ae 0 a b=some (if dQ (fM n) a.Kids b.Kids then .inr ()else .inl false):=fun hle=>
    sc (p:=fM n) (F:=fun f i=>M.ug (M.ue m) f i a b) (e:=()) a.Kids b.Kids hk hle (fun f k h h'=>by
     rw[M.ug];have hx:=aa.BG (de h);have:=S4 m a.Kids[k] b.Kids[k] n (h1 _ (de h)) (by omega) (by omega);simp only[aa.bZ,getD_lt h,getD_lt h',bG,db,fP,h,h',cT h (iJ hk),this,eG,bQ,ad,ar,an];cases fM n a.Kids[k] b.Kids[k]<;>rfl) (fun f=>by rw[M.ug];simp)
   unfold M.Fj;rw[fM,ud,ud];by_cases hle:a.bq.length=b.bq.length
   ·by_cases hke:a.Kids.length=b.Kids.length
    ·rw[cM hle,cM hke];simp only[bne,bV,lP,aa.bZ,labels hle];cases (a.Kind==b.Kind)<;>cases (a.Name==b.Name)<;>cases hA:dQ (· ==·) a.bq b.bq<;>simp[kids hke]<;>cases hB:dQ (fM n) a.Kids b.Kids<;>simp
    ·rw[ct hke,qk _ _ _ hke];simp only[bp,d4,ad,Bool.and_false]
   ·rw[ct hle,qk _ _ _ hle];simp only[bp,d4,bh,ad,Bool.and_false,cK]
end M
namespace M
open Go.V (inB bN ae aZ)
def nM(te:aa->aa->Bool)(x y:aV):Bool:=(x.Name==y.Name)&&te x.Term y.Term
def ql(x y:aW):Bool:=(x.Name==y.Name)&&(x.As==y.As)
def nN(x y:aI):Bool:=(x.ba==y.ba)&&((x.Name==y.Name)&&(x.Version==y.Version))
def lI(te:aa->aa->Bool)(a b:ai):Bool:=((((((a.Kind==b.Kind)&&(a.Name==b.Name))&&te a.Term b.Term)&&(a.Async==b.Async))&&nN a.From b.From)&&dQ ql a.Uses b.Uses)&&dQ (nM te) a.Params b.Params
def nO(te:aa->aa->Bool)(a b:aF):Bool:=(a.Name==b.Name)&&dQ (lI te) a.Items b.Items
def qm(a b:aN):Bool:=(a.Kind==b.Kind)&&nN a.Path b.Path
def nP(a b:aS):Bool:=(a.Name==b.Name)&&dQ qm a.Items b.Items
def ml(te:aa->aa->Bool)(a b:ah):Bool:=(((a.Name==b.Name)&&(a.Version==b.Version))&&dQ (nO te) a.aD b.aD)&&dQ nP a.Worlds b.Worlds
theorem ahU(a b:List aW)(ha:a.length<=1048576):M.BJ a b=some (dQ ql a b):=by
 unfold M.BJ;exact uc a b ha (fun f k hl h h'=>by
  rw[M.yJ];unfold ql;simp only[getD_lt h,getD_lt h',bG,db,fP,h,h',cT h (iJ ha),eG,bQ,ad];cases ((a[k].Name==b[k].Name)&&(a[k].As==b[k].As))<;>rfl) (fun f=>by rw[M.yJ];simp)
theorem ahV(a b:List aN)(ha:a.length<=1048576):M.BK a b=some (dQ qm a b):=by
 unfold M.BK;exact uc a b ha (fun f k hl h h'=>by
  rw[M.yK];unfold qm nN;simp only[getD_lt h,getD_lt h',bG,db,fP,h,h',cT h (iJ ha),eG,bQ,ad];cases ((a[k].Kind==b[k].Kind)&&((a[k].Path.ba==b[k].Path.ba)&&((a[k].Path.Name==b[k].Path.Name)&&(a[k].Path.Version==b[k].Path.Version))))<;>rfl) (fun f=>by rw[M.yK];simp)
theorem S5(a b:aa)(h:a.sz<=1048576):M.yL a b 5=some (fM 5 a b):=S3 ae a b 5 (by omega) (by have:=aZ;omega) h
theorem ahW(x y:aV)(h:x.Term.sz<=1048576):M.BL x y=some (nM (fM 5) x y):=by
 unfold M.BL nM;simp only[aa.bZ,S5 _ _ h,an,ar,bh,ak,ad]
theorem ahX(a b:List aV)(ha:a.length<=1048576)(hs:∀x∈a,x.Term.sz<=1048576):M.BM a b=some (dQ (nM (fM 5)) a b):=by
 unfold M.BM;exact uc a b ha (fun f k hl h h'=>by
  rw[M.yM];simp only[aV.bZ,getD_lt h,getD_lt h',bG,db,fP,h,h',cT h (iJ ha),ahW _ _ (hs _ (de h)),eG,bQ,ad,ar,an];cases nM (fM 5) a[k] b[k]<;>rfl) (fun f=>by rw[M.yM];simp)
theorem ahY(a b:ai)(h:a.sz<=1048576):M.BN a b=some (lI (fM 5) a b):=by
 have hs:=ai.cY a;have l1:=d3 aV.sz a.Params;have l2:=d3 aW.sz a.Uses;unfold M.BN lI nN;simp only[aa.bZ,S5 a.Term b.Term (by omega),ahU a.Uses b.Uses (by omega),ahX a.Params b.Params (by omega) (fun x hx=>by
  have:=gk aV.sz a.Params x hx;have:=aV.cY x;omega),an,ar,bh,ak,bQ,ad]
theorem ahZ(a b:List ai)(ha:a.length<=1048576)(hs:∀x∈a,x.sz<=1048576):M.BO a b=some (dQ (lI (fM 5)) a b):=by
 unfold M.BO;exact uc a b ha (fun f k hl h h'=>by
  rw[M.yN];simp only[ai.bZ,getD_lt h,getD_lt h',bG,db,fP,h,h',cT h (iJ ha),ahY _ _ (hs _ (de h)),eG,bQ,ad,ar,an];cases lI (fM 5) a[k] b[k]<;>rfl) (fun f=>by rw[M.yN];simp)
theorem ah0(a b:aF)(h:a.sz<=1048576):M.BP a b=some (nO (fM 5) a b):=by
 have hs:=aF.cY a;have l1:=d3 ai.sz a.Items;unfold M.BP nO;simp only[ahZ a.Items b.Items (by omega) (fun x hx=>by have:=gk ai.sz a.Items x hx;omega),an,ar,bh,ak,ad]
theorem ah1(a b:List aF)(ha:a.length<=1048576)(hs:∀x∈a,x.sz<=1048576):M.BQ a b=some (dQ (nO (fM 5)) a b):=by
 unfold M.BQ;exact uc a b ha (fun f k hl h h'=>by
  rw[M.yO];simp only[getD_lt h,getD_lt h',bG,db,fP,h,h',cT h (iJ ha),ah0 _ _ (hs _ (de h)),eG,bQ,ad,ar,an];cases nO (fM 5) a[k] b[k]<;>rfl) (fun f=>by rw[M.yO];simp)
theorem ah2(a b:aS)(h:a.sz<=1048576):M.BR a b=some (nP a b):=by
 have hs:=aS.cY a;have l1:=d3 aN.sz a.Items;unfold M.BR nP;simp only[ahV a.Items b.Items (by omega),an,ar,bh,ak,ad]
theorem ah3(a b:List aS)(ha:a.length<=1048576)(hs:∀x∈a,x.sz<=1048576):M.BS a b=some (dQ nP a b):=by
 unfold M.BS;exact uc a b ha (fun f k hl h h'=>by
  rw[M.yP];simp only[getD_lt h,getD_lt h',bG,db,fP,h,h',cT h (iJ ha),ah2 _ _ (hs _ (de h)),eG,bQ,ad,ar,an];cases nP a[k] b[k]<;>rfl) (fun f=>by rw[M.yP];simp)
theorem ah4(a b:ah)(h:a.sz<=1048576):M.BU a b=some (ml (fM 5) a b):=by
 have hs:=ah.cY a;have l1:=d3 aF.sz a.aD;have l2:=d3 aS.sz a.Worlds;unfold M.BU ml;simp only[ah1 a.aD b.aD (by omega) (fun x hx=>by have:=gk aF.sz a.aD x hx;omega),ah3 a.Worlds b.Worlds (by omega) (fun x hx=>by have:=gk aS.sz a.Worlds x hx;omega),an,ar,bh,ak,ad]
end M
namespace M
open Go.V (inB bN ae aZ)
def jx(a b:aa):Bool:=fM (a.sz+1) a b
theorem LX(a b:aa):jx a b=true↔a=b:=⟨LV _ _ _,fun h=>by subst h;exact Fe _ _ (LW _ _ (by omega))⟩
theorem S7(a b:aa)(h:a.sz<=1048576):M.BV a b=some (jx a b):=S4 ae a b (a.sz+1) (LW _ _ (by omega)) (by have:=aZ;omega) h
theorem ah5(a b:ai)(h:a.sz<=1048576):M.BW a b=some (lI jx a b):=by
 have hs:=ai.cY a;have l1:=d3 aV.sz a.Params;have l2:=d3 aW.sz a.Uses;have hp:a.Params.length<=1048576:=by omega
 have hu:a.Uses.length<=1048576:=by omega
 have params:a.Params.length=b.Params.length->M.uh ae 0 a b=some (if dQ (nM jx) a.Params b.Params then .inr (a,b)else .inl false):=fun hle=>
  sc (p:=nM jx) (F:=fun f i=>M.uh f i a b) (e:=(a,b)) a.Params b.Params hp hle (fun f k h h'=>by
   have z1:=gk aV.sz a.Params _ (de h);have z2:=aV.cY a.Params[k];rw[M.uh];unfold nM;simp only[ai.bZ,aa.bZ,getD_lt h,getD_lt h',bG,db,fP,h,h',cT h (iJ hp),S7 _ _ (show a.Params[k].Term.sz<=1048576 by omega),eG,bQ,bh,ad,ar,an];cases (a.Params[k].Name==b.Params[k].Name)<;>cases jx a.Params[k].Term b.Params[k].Term<;>rfl) (fun f=>by rw[M.uh];simp[ai.bZ])
 have uses:a.Uses.length=b.Uses.length->M.ui ae 0 a b=some (if dQ ql a.Uses b.Uses then .inr ()else .inl false):=fun hle=>
  sc (p:=ql) (F:=fun f i=>M.ui f i a b) (e:=()) a.Uses b.Uses hu hle (fun f k h h'=>by
   rw[M.ui];unfold ql;simp only[ai.bZ,getD_lt h,getD_lt h',bG,db,fP,h,h',cT h (iJ hu),eG,bQ,ad];cases (a.Uses[k].Name==b.Uses[k].Name)<;>cases (a.Uses[k].As==b.Uses[k].As)<;>rfl) (fun f=>by rw[M.ui];simp)
 unfold M.BW lI;rw[ud,ud];have ah6:(((a.From.ba==b.From.ba)&&((a.From.Name==b.From.Name)&&((a.From.Version==b.From.Version)&&true))))=nN a.From b.From:=by unfold nN;rw[bQ]
 simp only[aa.bZ,ai.bZ,S7 a.Term b.Term (by omega),an,ar,ah6,bne,bh,ak];by_cases hle:a.Params.length=b.Params.length
 ·by_cases hue:a.Uses.length=b.Uses.length
  ·rw[cM hle,cM hue,params hle];cases hA:dQ (nM jx) a.Params b.Params<;>cases hB:dQ ql a.Uses b.Uses<;>simp[uses hue,hB,ai.bZ]<;>cases (a.Kind==b.Kind)<;>cases (a.Name==b.Name)<;>cases jx a.Term b.Term<;>cases (a.Async==b.Async)<;>cases nN a.From b.From<;>rfl
  ·rw[ct hue,qk _ _ _ hue];simp only[bp,d4,ad,Bool.and_false,cK]
 ·rw[ct hle,qk _ _ _ hle];simp only[bp,d4,bh,ad,Bool.and_false,cK]
end M
namespace M
open Go.V (inB bN ae aZ)
theorem ah7(a b:ah)(h:a.sz<=1048576)(hle:a.aD.length=b.aD.length):M.uj ae 0 a b=some (if dQ (nO jx) a.aD b.aD then .inr (a,b)else .inl false):=by
 have hs:=ah.cY a;have l1:=d3 aF.sz a.aD;have hf:a.aD.length<=1048576:=by omega
 refine sc (p:=nO jx) (F:=fun f i=>M.uj f i a b) (e:=(a,b)) a.aD b.aD hf hle (fun f k h1 h2=>?_) (fun f=>by rw[M.uj];simp);have z1:=gk aF.sz a.aD _ (de h1);have z2:=aF.cY a.aD[k];have z3:=d3 ai.sz a.aD[k].Items;have hi:a.aD[k].Items.length<=1048576:=by omega
 have inner:a.aD[k].Items.length=b.aD[k].Items.length->M.uk (k:Int) a b ae 0=some (if dQ (lI jx) a.aD[k].Items b.aD[k].Items then .inr ((k:Int),a,b)else .inl false):=fun gB=>
  sc (p:=lI jx) (F:=fun f j=>M.uk (k:Int) a b f j) (e:=((k:Int),a,b)) a.aD[k].Items b.aD[k].Items hi gB (fun f j g1 g2=>by
   have y1:=gk ai.sz a.aD[k].Items _ (de g1);rw[M.uk];simp only[ai.bZ,getD_lt h1,getD_lt h2,getD_lt g1,getD_lt g2,bG,db,fP,h1,h2,g1,g2,cT g1 (iJ hi),ah5 _ _ (show(a.aD[k].Items[j]).sz<=1048576 by omega),eG,bQ,ad,ar,an];cases lI jx a.aD[k].Items[j] b.aD[k].Items[j]<;>rfl) (fun f=>by rw[M.uk];simp[getD_lt h1,db,h1])
 rw[M.uj];unfold nO;simp only[getD_lt h1,getD_lt h2,bG,db,fP,h1,h2,ud,eG,bj,bh,bQ,ad,ak];by_cases gB:a.aD[k].Items.length=b.aD[k].Items.length
 ·rw[cM gB,inner gB];cases (a.aD[k].Name==b.aD[k].Name)<;>cases dQ (lI jx) a.aD[k].Items b.aD[k].Items<;>simp[cT h1 (iJ hf)]
 ·rw[ct gB,qk _ _ _ gB];simp only[bp,d4,ad,Bool.and_false,al]
theorem ah8(a b:ah)(h:a.sz<=1048576)(hle:a.Worlds.length=b.Worlds.length):M.um ae 0 a b=some (if dQ nP a.Worlds b.Worlds then .inr ()else .inl false):=by
 have hs:=ah.cY a;have l1:=d3 aS.sz a.Worlds;have hf:a.Worlds.length<=1048576:=by omega
 refine sc (p:=nP) (F:=fun f i=>M.um f i a b) (e:=()) a.Worlds b.Worlds hf hle (fun f k h1 h2=>?_) (fun f=>by rw[M.um];simp);have z1:=gk aS.sz a.Worlds _ (de h1);have z2:=aS.cY a.Worlds[k];have z3:=d3 aN.sz a.Worlds[k].Items;have hi:a.Worlds[k].Items.length<=1048576:=by omega
 have inner:a.Worlds[k].Items.length=b.Worlds[k].Items.length->M.uo (k:Int) a b ae 0=some (if dQ qm a.Worlds[k].Items b.Worlds[k].Items then .inr ((k:Int),a,b)else .inl false):=fun gB=>
  sc (p:=qm) (F:=fun f j=>M.uo (k:Int) a b f j) (e:=((k:Int),a,b)) a.Worlds[k].Items b.Worlds[k].Items hi gB (fun f j g1 g2=>by
   rw[M.uo];unfold qm nN;simp only[getD_lt h1,getD_lt h2,getD_lt g1,getD_lt g2,bG,db,fP,h1,h2,g1,g2,cT g1 (iJ hi),eG,bQ,ad];cases ((a.Worlds[k].Items[j].Kind==b.Worlds[k].Items[j].Kind)&&((a.Worlds[k].Items[j].Path.ba==b.Worlds[k].Items[j].Path.ba)&&((a.Worlds[k].Items[j].Path.Name==b.Worlds[k].Items[j].Path.Name)&&(a.Worlds[k].Items[j].Path.Version==b.Worlds[k].Items[j].Path.Version))))<;>rfl) (fun f=>by rw[M.uo];simp[getD_lt h1,db,h1])
 rw[M.um];unfold nP;simp only[getD_lt h1,getD_lt h2,bG,db,fP,h1,h2,ud,eG,bj,bh,bQ,ad,ak];by_cases gB:a.Worlds[k].Items.length=b.Worlds[k].Items.length
 ·rw[cM gB,inner gB];cases (a.Worlds[k].Name==b.Worlds[k].Name)<;>cases dQ qm a.Worlds[k].Items b.Worlds[k].Items<;>simp[cT h1 (iJ hf)]
 ·rw[ct gB,qk _ _ _ gB];simp only[bp,d4,ad,Bool.and_false,al]
theorem ah9(a b:ah)(h:a.sz<=1048576):M.BX a b=some (ml jx a b):=by
 unfold M.BX ml;rw[ud,ud];by_cases hf:a.aD.length=b.aD.length
 ·by_cases hw:a.Worlds.length=b.Worlds.length
  ·rw[cM hf,cM hw,ah7 a b h hf];cases (a.Name==b.Name)<;>cases (a.Version==b.Version)<;>cases hA:dQ (nO jx) a.aD b.aD<;>cases hB:dQ nP a.Worlds b.Worlds<;>simp[ah8 a b h hw,hB]
  ·rw[ct hw,qk _ _ _ hw];simp only[bp,d4,ad,Bool.and_false]
 ·rw[ct hf,qk _ _ _ hf];simp only[bp,d4,bh,ad,Bool.and_false,cK]
end M
namespace M
open Go.V (inB bN ae aZ)
theorem S8(a b:aI)(h:nN a b=true):a=b:=by
 unfold nN at h;rw[bu,bu]at h;obtain⟨h1,h2,h3⟩:=h;cases a;cases b;cases cL.1 h1;cases cL.1 h2;cases cL.1 h3;rfl
theorem aia(a b:aW)(h:ql a b=true):a=b:=by
 unfold ql at h;rw[bu]at h;cases a;cases b;cases cL.1 h.1;cases cL.1 h.2;rfl
theorem aib{te:aa->aa->Bool}(ht:∀a b,te a b=true->a=b)(a b:aV)(h:nM te a b=true):a=b:=by
 unfold nM at h;rw[bu]at h;cases a;cases b;cases cL.1 h.1;cases ht _ _ h.2;rfl
theorem aic{te:aa->aa->Bool}(ht:∀a b,te a b=true->a=b)(a b:ai)(h:lI te a b=true):a=b:=by
 unfold lI at h;simp only[bu]at h;obtain⟨⟨⟨⟨⟨⟨h1,h2⟩,h3⟩,h4⟩,h5⟩,h6⟩,h7⟩:=h;have e1:=cL.1 h1;have e2:=cL.1 h2;have e3:=ht _ _ h3;have e4:=cL.1 h4;have e5:=S8 _ _ h5;have e6:=rY _ _ (fun x _ y q=>aia x y q) h6;have e7:=rY _ _ (fun x _ y q=>aib ht x y q) h7;cases a;cases b;cases e1;cases e2;cases e3;cases e4;cases e5;cases e6;cases e7;rfl
theorem aid{te:aa->aa->Bool}(ht:∀a b,te a b=true->a=b)(a b:aF)(h:nO te a b=true):a=b:=by
 unfold nO at h;rw[bu]at h;have e1:=cL.1 h.1;have e2:=rY _ _ (fun x _ y q=>aic ht x y q) h.2;cases a;cases b;cases e1;cases e2;rfl
theorem aie(a b:aN)(h:qm a b=true):a=b:=by
 unfold qm at h;rw[bu]at h;have e1:=cL.1 h.1;have e2:=S8 _ _ h.2;cases a;cases b;cases e1;cases e2;rfl
theorem aif(a b:aS)(h:nP a b=true):a=b:=by
 unfold nP at h;rw[bu]at h;have e1:=cL.1 h.1;have e2:=rY _ _ (fun x _ y q=>aie x y q) h.2;cases a;cases b;cases e1;cases e2;rfl
theorem S9{te:aa->aa->Bool}(ht:∀a b,te a b=true->a=b)(a b:ah)(h:ml te a b=true):a=b:=by
 unfold ml at h;simp only[bu]at h;obtain⟨⟨⟨h1,h2⟩,h3⟩,h4⟩:=h;have e1:=cL.1 h1;have e2:=cL.1 h2;have e3:=rY _ _ (fun x _ y q=>aid ht x y q) h3;have e4:=rY _ _ (fun x _ y q=>aif x y q) h4;cases a;cases b;cases e1;cases e2;cases e3;cases e4;rfl
theorem Ta(a:aI):nN a a=true:=by unfold nN;simp
theorem aih{te:aa->aa->Bool}(a:ai)(h1:te a.Term a.Term=true)(h2:∀p∈a.Params,te p.Term p.Term=true):lI te a a=true:=by
 unfold lI;rw[h1,Ta,rZ a.Uses (fun x _=>by unfold ql;simp),rZ a.Params (fun x hx=>by unfold nM;rw[h2 x hx];simp)];simp
theorem Tc{te:aa->aa->Bool}(a:ah)(h:∀f∈a.aD,∀x∈f.Items,te x.Term x.Term=true/\∀p∈x.Params,te p.Term p.Term=true):ml te a a=true:=by
 unfold ml;rw[rZ a.aD (fun f hf=>by unfold nO;rw[rZ f.Items (fun x hx=>aih x (h f hf x hx).1 (h f hf x hx).2)];simp),rZ a.Worlds (fun w _=>by unfold nP;rw[rZ w.Items (fun x _=>by unfold qm;rw[Ta];simp)];simp)];simp
theorem LY(a b:ah):ml jx a b=true↔a=b:=⟨S9 (fun x y h=>(LX x y).1 h) a b,fun h=>by
 subst h;exact Tc a fun f _ x _=>⟨(LX _ _).2 rfl,fun p _=>(LX _ _).2 rfl⟩⟩
def Fo(a:ah):Prop:=∀f∈a.aD,∀x∈f.Items,lH 5 x.Term/\∀p∈x.Params,lH 5 p.Term
theorem aii(a b:ah)(hb:Fo b):ml (fM 5) a b=true↔a=b:=⟨S9 (fun x y h=>LV 5 x y h) a b,fun h=>by
 subst h;exact Tc a fun f hf x hx=>⟨Fe 5 _ (hb f hf x hx).1,fun p hp=>Fe 5 _ ((hb f hf x hx).2 p hp)⟩⟩
end M
namespace M
open Go.V (inB bN ae aZ)
theorem LZ(d:Nat):lH (d+1) dI:=fun x hx=>by cases hx
theorem L0(d:Nat)(K:Int)(nm:List UInt8)(ls:List (List UInt8)):lH (d+1) (aa.mk K nm ls []):=fun x hx=>by cases hx
theorem aij{l:List aj}{K:Int}{g:Nat->PR aa}{P:aa->Prop}(hu:P dI)(hg:∀k t k',g k=.ok t k'->P t){k k':Nat}{v:List UInt8×List aa}(h:gK l K g k=.ok v k'):∀t∈v.2,P t:=by
 unfold gK at h;obtain⟨w,k1,_,h⟩:=bind_ok h;cases h16:(K==(16:Int))<;>rw[h16]at h
 ·cases h17:(K==(17:Int))<;>rw[h17]at h
  ·cases h;intro t ht;cases ht
  ·simp only[al,ad]at h;cases hc:aC l [40] k1<;>rw[hc]at h
   ·cases h;intro t ht;rw[ej.1 ht];exact hu
   ·obtain⟨t0,_,h0,h⟩:=bind_ok h;obtain⟨_,_,_,h⟩:=bind_ok h;cases h;intro t ht;rw[ej.1 ht];exact hg _ _ _ h0
 ·obtain⟨_,_,_,h⟩:=bind_ok h;obtain⟨t0,_,h0,h⟩:=bind_ok h;cases h;intro t ht;rw[ej.1 ht];exact hg _ _ _ h0
theorem aik{l:List aj}{g:Nat->PR aa}{P:aa->Prop}(hu:P dI)(hg:∀k t k',g k=.ok t k'->P t){k k':Nat}{v:List aa}(h:oS l g k=.ok v k'):∀t∈v,P t:=by
 unfold oS at h;cases h60:aC l [60] k<;>rw[h60]at h
 ·cases h;intro t ht;simp only[fe,sR,zQ]at ht;rcases ht with q|q<;>(rw[q];exact hu)
 ·simp only[ad]at h;obtain⟨a,k1,ha,h⟩:=bind_ok h;obtain⟨b,k2,hb,h⟩:=bind_ok h;obtain⟨_,_,_,h⟩:=bind_ok h;cases h;have pa:P a:=by
   cases h95:aC l [95] (k+1)<;>rw[h95]at ha
   ·exact hg _ _ _ ha
   ·cases ha;exact hu
  have pb:P b:=by
   cases ji:aC l [44] k1<;>rw[ji]at hb
   ·cases hb;exact hu
   ·exact hg _ _ _ hb
  intro t ht;simp only[fe,sR,zQ]at ht;rcases ht with q|q<;>(rw[q];assumption)
theorem Fp(l:List aj):∀(d k:Nat)(t:aa)(k':Nat),d6 l d k=.ok t k'->lH (d+1) t
 |0,k,t,k',h=>by cases h
 |d+1,k,t,k',h=>by
  rw[d6]at h;obtain⟨w,k1,_,h⟩:=bind_ok h;have ih:=Fp l d;generalize dO w=K at h;cases c0:(K==0)<;>rw[c0]at h
  ·simp only[al]at h;cases c1:((K==12)||((K==13)||((K==22)||(K==23))))<;>rw[c1]at h
   ·simp only[al]at h;cases c2:(K==15)<;>rw[c2]at h
    ·simp only[al]at h;cases c3:((K==20)||(K==21))<;>rw[c3]at h
     ·simp only[al]at h;cases c4:(K==14)<;>rw[c4]at h
      ·simp only[al]at h;cases c5:((K==16)||((K==17)||((K==18)||(K==19))))<;>rw[c5]at h
       ·cases h;exact L0 _ _ _ _
       ·simp only[ad]at h;obtain⟨_,_,_,h⟩:=bind_ok h;obtain⟨ps,_,hp,h⟩:=bind_ok h;obtain⟨_,_,_,h⟩:=bind_ok h;cases h;have:=(v8 (P:=fun v:List UInt8×List aa=>∀t∈v.2,lH (d+1) t) l _ (fun k v k' hv=>aij (LZ d) ih hv) 15 [] _ ps _ (fun v hv=>by cases hv) hp).2;intro x hx;obtain⟨q,hq,hx⟩:=List.mem_flatten.1 hx;obtain⟨v,hv,rfl⟩:=List.mem_map.1 hq;exact this v hv x hx
      ·simp only[ad]at h;obtain⟨ts,_,hp,h⟩:=bind_ok h;cases h;exact aik (LZ d) ih hp
     ·simp only[ad]at h;obtain⟨_,_,_,h⟩:=bind_ok h;obtain⟨_,_,_,h⟩:=bind_ok h;obtain⟨_,_,_,h⟩:=bind_ok h;cases h;exact L0 _ _ _ _
    ·simp only[ad]at h;obtain⟨_,_,_,h⟩:=bind_ok h;obtain⟨ts,_,hp,h⟩:=bind_ok h;obtain⟨_,_,_,h⟩:=bind_ok h;cases h;exact(v8 (P:=fun v=>lH (d+1) v) l _ ih 5 [] _ ts _ (fun v hv=>by cases hv) hp).2
   ·simp only[ad]at h;obtain⟨_,_,_,h⟩:=bind_ok h;obtain⟨t0,_,h0,h⟩:=bind_ok h;obtain⟨_,_,_,h⟩:=bind_ok h;cases h;intro x hx;rw[ej.1 hx];exact ih _ _ _ h0
  ·cases h;exact L0 _ _ _ _
end M
namespace M
open Go.V (inB bN ae aZ)
def wb(x:ai):Prop:=lH 5 x.Term/\∀p∈x.Params,lH 5 p.Term
theorem ail{l:List aj}{k k':Nat}{v:aV}(h:kT l k=.ok v k'):lH 5 v.Term:=by
 unfold kT at h;obtain⟨_,_,_,h⟩:=bind_ok h;obtain⟨_,_,_,h⟩:=bind_ok h;obtain⟨t,_,ht,h⟩:=bind_ok h;cases h;exact Fp l 4 _ _ _ ht
theorem aim(l:List aj)(nm:List UInt8)(k:Nat)(v:ai)(k':Nat)(h:oW l nm k=.ok v k'):wb v:=by
 have:∀as k,rS l nm as k=.ok v k'->wb v:=fun as k h=>by
  unfold rS at h;obtain⟨_,_,_,h⟩:=bind_ok h;obtain⟨ps,k1,hp,h⟩:=bind_ok h;obtain⟨t,k2,ht,h⟩:=bind_ok h;cases h;refine⟨?_,?_⟩
  ·unfold Bl at ht;cases hc:aC l [45,62] k1<;>rw[hc]at ht
   ·cases ht;exact LZ 4
   ·exact Fp l 4 _ _ _ ht
  ·unfold yo at hp;obtain⟨_,k3,_,hp⟩:=bind_ok hp;cases hc:aC l [41] k3<;>rw[hc]at hp
   ·simp only[al]at hp;obtain⟨qs,_,hq,hp⟩:=bind_ok hp;obtain⟨_,_,_,hp⟩:=bind_ok hp;cases hp;exact(v8 (P:=fun v:aV=>lH 5 v.Term) l _ (fun _ _ _ hv=>ail hv) 5 [] _ _ _ (fun v hv=>by cases hv) hq).2
   ·cases hp;intro p hp;cases hp
 unfold oW at h;cases hc:aC l rR k<;>rw[hc]at h<;>exact this _ _ h
theorem ain(l:List aj)(k:Nat)(v:ai)(k':Nat)(h:kU l k=.ok v k'):wb v:=by
 have hn:∀(K:Int)(n:List UInt8)(p:aI)(us:List aW),wb (ai.mk K n mj [] false p us):=fun K n p us=>⟨(fun x hx=>by cases hx),(fun p hp=>by cases hp)⟩
 unfold kU oY at h;obtain⟨x,k1,hx,h⟩:=bind_ok h;obtain⟨_,_,_,h⟩:=bind_ok h;cases h;obtain⟨nm,k2,_,hx⟩:=bind_ok hx;unfold lG at hx;cases jT:aC l [58] k2<;>rw[jT]at hx
 ·cases hR:(nm==nK)<;>rw[hR]at hx
  ·cases hY:(nm==qg)<;>rw[hY]at hx
   ·cases hU:(nm==qh)<;>rw[hU]at hx
    ·cases hx
    ·simp only[ad,al]at hx;unfold yp at hx;obtain⟨_,_,_,hx⟩:=bind_ok hx;obtain⟨_,_,_,hx⟩:=bind_ok hx;obtain⟨_,_,_,hx⟩:=bind_ok hx;obtain⟨us,_,hu,hx⟩:=bind_ok hx;obtain⟨_,_,_,hx⟩:=bind_ok hx;cases hx;exact hn _ _ _ _
   ·simp only[ad,al]at hx;obtain⟨_,_,_,hx⟩:=bind_ok hx;obtain⟨_,_,_,hx⟩:=bind_ok hx;obtain⟨t,_,ht,hx⟩:=bind_ok hx;cases hx;exact⟨Fp l 4 _ _ _ ht,(fun p hp=>by cases hp)⟩
  ·simp only[ad,al]at hx;obtain⟨_,_,_,hx⟩:=bind_ok hx;cases hx;exact hn _ _ _ _
 ·exact aim l _ _ _ _ hx
theorem aio(l:List aj)(k:Nat)(p:ah)(k':Nat)(h:iu l k=.ok p k'):Fo p:=by
 unfold iu at h;obtain⟨_,_,_,h⟩:=bind_ok h;obtain⟨_,_,_,h⟩:=bind_ok h;obtain⟨_,_,_,h⟩:=bind_ok h;obtain⟨_,_,_,h⟩:=bind_ok h;obtain⟨_,_,_,h⟩:=bind_ok h;obtain⟨q,k6,h6,h⟩:=bind_ok h;cases h;have hf:∀k v k',mW l k=.ok v k'->∀x∈v.Items,wb x:=fun k v k' h=>by
  unfold mW at h;obtain⟨_,_,_,h⟩:=bind_ok h;obtain⟨_,_,_,h⟩:=bind_ok h;obtain⟨xs,_,hx,h⟩:=bind_ok h;cases h;exact(BD (P:=wb) l (kU l) (ain l) 16 [] _ xs _ (fun v hv=>by cases hv) hx).2
 exact(BE (P:=fun f=>∀x∈f.Items,wb x) (Q:=fun _=>True) l hf (fun _ _ _ _=>trivial) 16 [] [] _ q _ (by simp) (by simp) (by simp) (by simp) h6).2.2.1
theorem aip(s:List UInt8):Fo (kW s).1:=by
 unfold kW gj;have h0:Fo noPack:=fun f hf=>by cases hf
 split
 ·exact h0
 ·rename_i p hp;split at hp
  ·split at hp
   ·cases hp
   ·rename_i hq;cases hp;cases mX p
    ·exact h0
    ·exact aio _ _ _ _ hq
  ·cases hp
end M
namespace M
open Go.V (inB bN ae aZ)
noncomputable def gm(x:ah)(t:List UInt8):Bool:=((kW t).2.2==0)&&ml jx x (kW t).1
theorem aiq(x:ah)(t:List UInt8):(((kW t).2.2==(0:Int))&&ml (fM 5) x (kW t).1)=gm x t:=by
 unfold gm;have e:ml (fM 5) x (kW t).1=ml jx x (kW t).1:=by
  rw[nb,aii x _ (aip t),LY]
 rw[e]
theorem L1(x:ah)(t:List UInt8)(h:gm x t=true):gj t=.inr x:=by
 unfold gm at h;rw[bu,LY]at h;obtain⟨h1,h2⟩:=h;have h1:=cL.1 h1;unfold kW at h1 h2;cases hw:gj t with
 |inl e=>
  rw[hw]at h1;have:=SJ t;rw[hw]at this;exact absurd h1 this.1
 |inr p=>
  rw[hw]at h1 h2;cases hc:mX p
  ·simp only[hc,al]at h1;exact absurd h1 (by decide)
  ·simp only[hc,ad]at h2;rw[h2]
theorem air(x:ah)(t:List UInt8)(hx:x.sz<=1048576)(ht:M.uu x=some t):M.BY x=some (t,gm x t):=by
 unfold M.BY;rw[<-aiq];simp only[ht,ahS,ah4 x _ hx,an,ar,bh,ak,ad]
theorem ais(x:ah)(t:List UInt8)(hx:x.sz<=1048576)(ht:M.uu x=some t):M.wd x=some (gm x t):=by
 unfold M.wd;rw[air x t hx ht];rfl
theorem ait(x:ah)(hs:M.uv x=some false):M.sd x=some false:=by
 unfold M.sd;simp only[hs,an,ar,bp,ad,ak]
theorem Td(x:ah)(t:List UInt8)(hx:x.sz<=1048576)(hs:M.uv x=some true)(ht:M.qn x=some t):M.sd x=some (gm x t):=by
 unfold M.sd gm;simp only[hs,ht,ahR,ah9 x _ hx,an,ar,bV,al,bh,ak,ad]
end M
namespace M
open Go.V (inB bN ae aZ)
theorem Tf(x:ah)(h:¬∃t,gj t=.inr x)(t:List UInt8):gm x t=false:=by
 cases hb:gm x t with
 |false=>rfl
 |true=>exact absurd ⟨t,L1 x t hb⟩ h
theorem aiu(x:ah)(ti:List UInt8)(hx:x.sz<=1048576)(hi:M.uu x=some ti)(sh:Bool)(hs:M.uv x=some sh)
 (h0:sh=true->∃ts,M.qn x=some ts) (h1:(∃t,gj t=.inr x)->sh=true/\M.qn x=some ti):
 M.wd x=some (gm x ti)/\M.sd x=some (gm x ti)/\(gm x ti=true->M.qn x=some ti):=by
 refine⟨ais x ti hx hi,?_,fun h=>(h1 ⟨ti,L1 x ti h⟩).2⟩;by_cases hw:∃t,gj t=.inr x
 ·obtain⟨e1,e2⟩:=h1 hw;rw[e1]at hs;exact Td x ti hx hs e2
 ·rw[Tf x hw ti];cases sh with
  |false=>exact ait x hs
  |true=>
   obtain⟨ts,e⟩:=h0 rfl;rw[Td x ts hx hs e,Tf x hw ts]
end M
namespace M
open Go.V (inB bN ae aZ)
theorem bz{a b:List UInt8}(h:a.length+b.length<=4611686018427387904):Go.V.au a b=true:=cM h
def cE(p:aI):List UInt8:=bif p.ba==[]then p.Name else bif p.Version==[]then(p.ba++[47])++p.Name else(((p.ba++[47])++p.Name)++[64])++p.Version
def eJ(p:aI):List UInt8:=
 let q:=bif !(p.ba==[])then(p.ba++[47])++p.Name else p.Name
 bif !(p.Version==[])then q++([64]++p.Version)else q
theorem Ti(p:aI)(h:p.sz<=1048576):M.uw p=some (cE p):=by
 have hs:=aI.cY p;unfold M.uw cE;cases (p.ba==[])
 ·have c1:Go.V.au p.ba [47]=true:=bz (by simp;omega);have c2:Go.V.au (p.ba++[47]) p.Name=true:=bz (by simp;omega);have c3:Go.V.au ((p.ba++[47])++p.Name) [64]=true:=bz (by simp;omega);have c4:Go.V.au (((p.ba++[47])++p.Name)++[64]) p.Version=true:=bz (by simp;omega);simp only[c1,c2,c3,c4,al,ak,ad];cases (p.Version==[])<;>rfl
 ·rfl
theorem Tj(p:aI)(h:p.sz<=1048576):M.ux p=some (eJ p):=by
 have hs:=aI.cY p;unfold M.ux eJ;have c1:Go.V.au p.ba [47]=true:=bz (by simp;omega);have c2:Go.V.au (p.ba++[47]) p.Name=true:=bz (by simp;omega);have c3:Go.V.au [64] p.Version=true:=bz (by simp;omega);have c4:Go.V.au (bif !(p.ba==[])then(p.ba++[47])++p.Name else p.Name) ([64]++p.Version)=true:=bz (by cases (p.ba==[])<;>simp<;>omega);simp only[c1,c2,c3,c4,ak,bh,ad]
theorem Tm(p:aI)(h:p.ba=[]->p.Version=[]):eJ p=cE p:=by
 unfold eJ cE;cases hp:(p.ba==[])
 ·cases (p.Version==[])
  ·simp
  ·rfl
 ·rw[h (cL.1 hp)];rfl
end M
namespace M
open Go.V (inB bN ae aZ)
theorem aiv{α:Type}{l:List α}{x:α}(h:l.length<=4000000):decide (l.length+[x].length<=1073741824)=true:=by
 rw[bX,List.length_singleton];omega
theorem wrapM{k:Nat}(h:k<=4000000):Go.IntKind.wrap .i64 ((k:Int)+1)=((k+1:Nat):Int):=by rw[wrap_i64 (by omega) (by omega)];omega
theorem Tn{rec:aa->Int->Option (List UInt8)}{lv:Int}{word:List UInt8}{t:aa}(tt:aa->List UInt8)(xs:List aa)(hX:xs.length<=1048576)(hr:∀x∈xs,rec x (Go.IntKind.wrap .i64 (lv-1))=some (tt x)):∀(n k:Nat)(acc:List (List UInt8)),xs.length-k<n->k<=xs.length->acc.length+(xs.length-k)<=2000000->
 M.uy rec lv word xs ((xs.length:Nat):Int) n (k:Int) t acc=some (word,t,acc++(xs.drop k).map tt)
 |0,k,_,h,_,_=>by omega
 |n+1,k,acc,h,hk,hb=>by
  rw[M.uy];rcases cU k xs.length with q|q
  ·have ih:=Tn (word:=word) (t:=t) tt xs hX hr n (k+1) (acc++[tt xs[k]]) (by omega) (by omega) (by rw[aG,List.length_singleton];omega);simp only[eO q,bG,dw _ q,aa.bZ,hr _ (de q),an,ar,ad,dB q,ak,wrapM (show k<=4000000 by omega),aiv (show acc.length<=4000000 by omega),ih];rw[jw q,eR,fN,List.singleton_append]
  ·simp only[jj q,al,aa.bZ];rw[List.drop_eq_nil_of_le q];simp
end M
namespace M
open Go.V (inB bN au ae aZ)
def jn(l:List (List UInt8)):List UInt8:=Go.Lib.join l [44,32]
theorem L2:jn []=[]:=rfl
theorem Fq(x:List UInt8)(r:List (List UInt8)):jn (x::r)=x++Go.Lib.joinTail [44,32] r:=Go.Lib.join_cons x r [44,32]
theorem To:Go.Lib.joinTail [44,32] []=[]:=rfl
theorem Tq(x:List UInt8)(r:List (List UInt8)):Go.Lib.joinTail [44,32] (x::r)=44::32::(x++Go.Lib.joinTail [44,32] r):=by simp[Go.Lib.joinTail]
theorem aiw(a b:List (List UInt8)):Go.Lib.joinTail [44,32] (a++b)=Go.Lib.joinTail [44,32] a++Go.Lib.joinTail [44,32] b:=by simp[Go.Lib.joinTail]
theorem aix(l:List (List UInt8))(x:List UInt8):jn (l++[x])=(if 0<l.length then jn l++[44,32]else[])++x:=by
 cases l with
 |nil=>simp[Fq,To]
 |cons y r=>rw[ow,Fq,Fq,aiw];simp[Tq,To]
theorem jy:∀(l:List (List UInt8)),(jn l).length<=bJ List.length l+l.length
 |[]=>by simp[L2]
 |x::r=>by
  rw[Fq,aG];have:∀r:List (List UInt8),(Go.Lib.joinTail [44,32] r).length=bJ List.length r+r.length:=fun r=>by
   induction r with
   |nil=>rfl
   |cons y t ih=>rw[Tq];simp only[aE,aG,ih,bJ];omega
  rw[this];simp only[bJ,aE];omega
theorem Ft(l:List (List UInt8))(h:bJ List.length l<=536870912):M.strings_Join l [44,32]=some (jn l):=by
 have h1:=jy l;have h2:=d3 List.length l;unfold M.strings_Join;have e1:decide (l.length<=1073741824)=true:=by rw[bX];omega
 have e2:decide ((Go.Lib.join l [44,32]).length<=1073741824)=true:=by rw[bX];unfold jn at h1;omega
 rw[e1,e2];rfl
theorem jW{a b:Nat}(h:a+b<=1073741824):decide (a+b<=1073741824)=true:=by rw[bX];exact h
theorem Fv{a b:Bool}:(bif a then a else b)=(a||b):=by cases a<;>rfl
def fS(K:Int):List UInt8:=bif decide (1<=K)&&decide (K<=23)then List.getD ([]::words) K.toNat []else[]
theorem Fz(K:Int):(fS K).length<=7:=by
 unfold fS;have h:∀w∈([]::words),w.length<=7:=by
  have:((([]:List UInt8)::words).all fun w=>decide (w.length<=7))=true:=by decide
  intro w hw;simpa using fO.1 this w hw
 cases decide (1<=K)&&decide (K<=23)
 ·simp
 ·rw[ad];rcases cU K.toNat (List.length ([]::words))with hk|hk
  ·rw[getD_lt hk];exact h _ (de hk)
  ·rw[gp,kA hk];simp
def BZ(K:Int):Bool:=(K==12)||((K==13)||((K==22)||((K==23)||(K==15))))
def B0(K:Int):Bool:=(K==16)||((K==17)||((K==18)||(K==19)))
def labT(K:Int):List (List UInt8)->List aa->List (List UInt8)->List (List UInt8)
 |[],_,_=>[]
 |l::r,c::cs,x::xs=>(bif K==16 then l++([58,32]++x)else bif(K==17)&&(c.Kind !=1)then l++(([40]++x)++[41])else l)::labT K r cs xs
 |l::r,_,_=>l::labT K r [] []
def uz(t:aa)(ks:List (List UInt8)):List UInt8:=
 bif((ks.length:Nat):Int) !=2 then[]
 else bif((List.getD t.Kids 0 aa.zero).Kind==1)&&((List.getD t.Kids 1 aa.zero).Kind==1)then[]
 else bif(List.getD t.Kids 1 aa.zero).Kind==1 then([60]++List.getD ks 0 [])++[62]
 else bif(List.getD t.Kids 0 aa.zero).Kind==1 then([60,95,44,32]++List.getD ks 1 [])++[62]
 else((([60]++List.getD ks 0 [])++[44,32])++List.getD ks 1 [])++[62]
def bodyT(t:aa)(ks:List (List UInt8)):List UInt8:=
 bif t.Kind==30 then t.Name
 else bif(t.Kind==20)||(t.Kind==21)then((fS t.Kind++[60])++t.Name)++[62]
 else bif BZ t.Kind then((fS t.Kind++[60])++jn ks)++[62]
 else bif t.Kind==14 then fS t.Kind++uz t ks
 else bif B0 t.Kind then((fS t.Kind++[32,123,32])++jn (labT t.Kind t.bq t.Kids ks))++[32,125]
 else fS t.Kind
def cH:Nat->aa->List UInt8
 |0,_=>[]
 |n+1,t=>bodyT t (t.Kids.map (cH n))
theorem uA(K:Int):∀(ls:List (List UInt8))(cs:List aa)(xs:List (List UInt8)),bJ List.length (labT K ls cs xs)<=bJ List.length ls+2*ls.length+bJ List.length xs
 |[],_,_=>by simp[labT,bJ]
 |l::r,[],xs=>by
  have:=uA K r [] [];have e:bJ List.length ([]:List (List UInt8))=0:=rfl;cases xs<;>simp only[labT,bJ,aE]at*<;>omega
 |l::r,c::cs,[]=>by
  have:=uA K r [] [];simp only[labT,bJ,aE]at*;omega
 |l::r,c::cs,x::xs=>by
  have:=uA K r cs xs;simp only[labT,bJ,aE];cases (K==16)
  ·cases ((K==17)&&(c.Kind !=1))<;>simp only[ad,al,aG,aE,aL]<;>omega
  ·simp only[ad,aG,aE,aL];omega
theorem mY(K:Int):∀(ls:List (List UInt8))(cs:List aa)(xs:List (List UInt8)),(labT K ls cs xs).length=ls.length
 |[],_,_=>by simp[labT]
 |l::r,[],xs=>by cases xs<;>simp[labT,mY K r [] []]
 |l::r,c::cs,[]=>by simp[labT,mY K r [] []]
 |l::r,c::cs,x::xs=>by simp[labT,mY K r cs xs]
theorem FA(K:Int)(f:aa->List UInt8):∀(ls:List (List UInt8))(cs:List aa)(k:Nat),k<ls.length->(labT K ls cs (cs.map f)).getD k []=if h:k<cs.length then(bif K==16 then ls.getD k []++([58,32]++f cs[k])else bif(K==17)&&(cs[k].Kind !=1)then ls.getD k []++(([40]++f cs[k])++[41])else ls.getD k [])else ls.getD k []
 |[],_,k,h=>by simp at h
 |l::r,[],k,h=>by
  cases k with
  |zero=>simp[labT]
  |succ k=>
   have:=FA K f r [] k (by simpa using h);simpa [labT]using this
 |l::r,x::cs,k,h=>by
  cases k with
  |zero=>simp[labT]
  |succ k=>
   have:=FA K f r cs k (by simpa using h);simp only[eR,labT,List.getD_cons_succ,this,aE,Nat.add_lt_add_iff_right,List.getElem_cons_succ]
theorem L6(t:aa)(ks:List (List UInt8)):(uz t ks).length<=bJ List.length ks+5:=by
 unfold uz;cases hc:(((ks.length:Nat):Int) !=2)
 ·have h2:ks.length=2:=by have:=bne_eq_false_iff_eq.1 hc;omega
  obtain⟨a,b,rfl⟩:∃a b,ks=[a,b]:=by
   match ks,h2 with
   |[a,b],_=>exact⟨a,b,rfl⟩
  simp only[al,bJ];cases (((List.getD t.Kids 0 aa.zero).Kind==1)&&((List.getD t.Kids 1 aa.zero).Kind==1))
  ·cases ((List.getD t.Kids 1 aa.zero).Kind==1)
   ·cases ((List.getD t.Kids 0 aa.zero).Kind==1)<;>simp<;>omega
   ·simp;omega
  ·simp
 ·simp
theorem uB:∀(n:Nat)(t:aa),(cH n t).length<=16*t.sz+14
 |0,t=>by simp[cH]
 |n+1,t=>by
  have hs:=aa.cY t;have hk:=Fz t.Kind;have hx:bJ List.length (t.Kids.map (cH n))+(t.Kids.map (cH n)).length<=16*bJ aa.sz t.Kids:=by
   have key:∀l:List aa,bJ List.length (l.map (cH n))+(l.map (cH n)).length<=16*bJ aa.sz l:=fun l=>by
    induction l with
    |nil=>simp[bJ]
    |cons y r ih=>
     have h1:=uB n y;simp only[eR,bJ,aE]at ih⊢;omega
   exact key _
  have hj:=jy (t.Kids.map (cH n));have hl:=uA t.Kind t.bq t.Kids (t.Kids.map (cH n));have hll:=mY t.Kind t.bq t.Kids (t.Kids.map (cH n));have hle:=d3 List.length t.bq;have hj2:=jy (labT t.Kind t.bq t.Kids (t.Kids.map (cH n)));have hr:=L6 t (t.Kids.map (cH n));rw[cH];unfold bodyT;cases (t.Kind==30)
  ·cases ((t.Kind==20)||(t.Kind==21))
   ·cases (BZ t.Kind)
    ·cases (t.Kind==14)
     ·cases (B0 t.Kind)
      ·simp only[al];omega
      ·simp only[al,ad,aG,aE,aL];omega
     ·simp only[al,ad,aG];omega
    ·simp only[al,ad,aG,aE,aL];omega
   ·simp only[al,ad,aG,aE,aL];omega
  ·simp only[ad];omega
theorem Tt(n:Nat)(l:List aa):bJ List.length (l.map (cH n))<=16*bJ aa.sz l:=by
 induction l with
 |nil=>simp[bJ]
 |cons y r ih=>
  have h1:=uB n y;simp only[eR,bJ];omega
theorem L8{α β Y:Type}{F:Nat->Int->List β->Option Y}{h:List β->Option Y}(g:α->β)(l:List α)(hn:l.length<=2097152)(B6:List β)
 (step:∀f k out,∀hk:k<l.length,out.length=B6.length+k->F (f+1) (k:Int) out=F f ((k+1:Nat):Int) (out++[g l[k]]))
 (stop:∀f out,F (f+1) (l.length:Int) out=h out):F ae 0 B6=h (B6++l.map g):=by
 have key:∀f k out,k<=l.length->l.length-k<f->out.length=B6.length+k->F f (k:Int) out=h (out++(l.drop k).map g):=by
  intro f
  induction f with
  |zero=>intro k out h1 h2;omega
  |succ f ih=>
   intro k out h1 h2 ho;rcases cU k l.length with hk|hk
   ·rw[step f k out hk ho,ih (k+1) _ (by omega) (by omega) (by simp[ho];omega),x8 hk];simp only[eR,fN,List.singleton_append]
   ·have:k=l.length:=by omega
    subst this;rw[stop,xe];simp
 have:=key ae 0 B6 (cN _) (by have:=aZ;omega) rfl;simpa using this
theorem L9{α:Type}(f:α->Nat):∀(l:List α)(k:Nat),bJ f (l.take k)<=bJ f l
 |[],k=>by simp[bJ]
 |x::r,0=>by simp[bJ]
 |x::r,k+1=>by have:=L9 f r k;simp only[List.take_succ_cons,bJ];omega
theorem FB{Y:Type}{F:Nat->List UInt8->Int->Option Y}{h:List UInt8->Option Y}(L:List (List UInt8))(hn:L.length<=2097152)(s0:List UInt8)
 (step:∀f k s,∀hk:k<L.length,s.length<=s0.length+2*bJ List.length L->F (f+1) s (k:Int)=F f ((bif decide ((0:Int)<(k:Int))then s++[44,32]else s)++L[k]) ((k+1:Nat):Int))
 (stop:∀f s,F (f+1) s (L.length:Int)=h s):F ae s0 0=h (s0++jn L):=by
 have key:∀f k,k<=L.length->L.length-k<f->F f (s0++jn (L.take k)) (k:Int)=h (s0++jn L):=by
  intro f
  induction f with
  |zero=>intro k h1 h2;omega
  |succ f ih=>
   intro k h1 h2;rcases cU k L.length with hk|hk
   ·have hj:=jy (L.take k);have ht:=L9 List.length L k;have hl:=d3 List.length L;have hm:(L.take k).length<=L.length:=by rw[ov];omega
    rw[step f k _ hk (by rw[aG];omega)];have e:(bif decide ((0:Int)<(k:Int))then s0++jn (L.take k)++[44,32]else s0++jn (L.take k))++L[k]=s0++jn (L.take (k+1)):=by
     rw[nf,cJ hk,Option.toList_some,aix,ov,Nat.min_eq_left (by omega)];by_cases hz:0<k
     ·rw[bf hz,cM (by omega),ad];simp only[fN]
     ·have:k=0:=by omega
      subst this;simp[L2]
    rw[e];exact ih (k+1) (by omega) (by omega)
   ·have:k=L.length:=by omega
    subst this;rw[stop,DC]
 have:=key ae 0 (cN _) (by have:=aZ;omega);simpa [L2]using this
end M
namespace M
open Go.V (inB bN au ae aZ)
theorem aiy(t:aa)(ks:List (List UInt8))(hl:ks.length=t.Kids.length)(hb:bJ List.length ks<=536870912):M.yQ t ks=some (uz t ks):=by
 unfold M.yQ uz;cases hc:(((ks.length:Nat):Int) !=2)
 ·have h2:ks.length=2:=by have:=bne_eq_false_iff_eq.1 hc;omega
  obtain⟨a,b,rfl⟩:∃a b,ks=[a,b]:=by
   match ks,h2 with
   |[a,b],_=>exact⟨a,b,rfl⟩
  simp only[bJ]at hb;have i0:inB (0:Int) t.Kids.length=true:=by rw[<-hl];rfl
  have i1:inB (1:Int) t.Kids.length=true:=by rw[<-hl];rfl
  have j0:inB (0:Int) [a,b].length=true:=rfl;have j1:inB (1:Int) [a,b].length=true:=rfl;have c1:au [60] (List.getD [a,b] 0 [])=true:=bz (by simp;omega);have c2:au ([60]++List.getD [a,b] 0 []) [62]=true:=bz (by simp;omega);have c3:au [60,95,44,32] (List.getD [a,b] 1 [])=true:=bz (by simp;omega);have c4:au ([60,95,44,32]++List.getD [a,b] 1 []) [62]=true:=bz (by simp;omega);have c5:au ([60]++List.getD [a,b] 0 []) [44,32]=true:=bz (by simp;omega);have c6:au (([60]++List.getD [a,b] 0 [])++[44,32]) (List.getD [a,b] 1 [])=true:=bz (by simp;omega);have c7:au ((([60]++List.getD [a,b] 0 [])++[44,32])++List.getD [a,b] 1 []) [62]=true:=bz (by simp;omega);have n0:Int.toNat (0:Int)=0:=rfl;have n1:Int.toNat (1:Int)=1:=rfl;simp only[al,i0,i1,j0,j1,c1,c2,c3,c4,c5,c6,c7,n0,n1,ak,ad];cases (List.getD t.Kids 0 aa.zero).Kind==1<;>cases (List.getD t.Kids 1 aa.zero).Kind==1<;>rfl
 ·rfl
theorem aiz(f:aa->List UInt8)(t:aa)(hL:t.bq.length<=1048576)(hb:bJ List.length t.bq+bJ List.length (t.Kids.map f)<=268435456):M.yR t (t.Kids.map f)=some (labT t.Kind t.bq t.Kids (t.Kids.map f)):=by
 unfold M.yR;have e:=L8 (F:=fun n i o=>M.se (t.Kids.map f) t.bq ((t.bq.length:Nat):Int) n i t o) (h:=fun o=>some o) id (labT t.Kind t.bq t.Kids (t.Kids.map f)) (by rw[mY];omega) [] (fun n k out hk ho=>by
  have hk':=hk;rw[mY]at hk;have hg:=FA t.Kind f t.bq t.Kids k hk;rw[getD_lt hk']at hg
  show M.se (t.Kids.map f) t.bq ((t.bq.length:Nat):Int) (n+1) (k:Int) t out=_
  rw[M.se];have hc:∀y:List UInt8,decide (out.length+[y].length<=1073741824)=true:=fun y=>jW (by simp at ho⊢;omega)
  have hml:=gk List.length t.bq t.bq[k] (de hk);simp only[aa.bZ,eO hk,ad,bG,dB hk,hc,bj,bQ,cT hk (by omega:t.bq.length<2^62),id,dw _ hk];by_cases hkk:k<t.Kids.length
  ·rw[dif_pos hkk]at hg;have Tu:k<(t.Kids.map f).length:=by rw[eQ];exact hkk
   have hmx:=gk List.length (t.Kids.map f) (f t.Kids[k]) (List.mem_map_of_mem (de hkk));have e1:List.getD (t.Kids.map f) k []=f t.Kids[k]:=by rw[getD_lt Tu,xj]
   have e2:decide ((((t.Kids.map f).length:Nat):Int)<=(k:Int))=false:=ct (by omega);have c1:au [58,32] (f t.Kids[k])=true:=bz (by simp;omega);have c2:au t.bq[k] ([58,32]++f t.Kids[k])=true:=bz (by simp;omega);have c3:au [40] (f t.Kids[k])=true:=bz (by simp;omega);have c4:au ([40]++f t.Kids[k]) [41]=true:=bz (by simp;omega);have c5:au t.bq[k] (([40]++f t.Kids[k])++[41])=true:=bz (by simp;omega);rw[dw _ hk]at hg;simp only[e1,e2,dB hkk,dB Tu,c1,c2,c3,c4,c5,dw _ hkk,al,bp,d4,bh,ak,lP,bj,Bool.or_not_self,Bool.not_or_self];cases h16:(t.Kind==16)<;>cases h17:((t.Kind==17)&&(t.Kids[k].Kind !=1))<;>rw[h16,h17]at hg<;>rw[hg]<;>rfl
  ·rw[dif_neg hkk,dw _ hk]at hg;have e2:decide ((((t.Kids.map f).length:Nat):Int)<=(k:Int))=true:=cM (by rw[eQ];omega);simp only[e2,ad,d4,bV,lP,ak,hg]) (fun n out=>by
  show M.se (t.Kids.map f) t.bq ((t.bq.length:Nat):Int) (n+1) _ t out=_
  rw[mY,M.se];simp)
 simp only[fB,List.map_id]at e;rw[aa.bZ,e]
theorem Tv{K:Int}(h:(decide (1<=K)&&decide (K<=23))=true):fS K=List.getD ([]::words) K.toNat []:=by
 unfold fS;rw[h,ad]
theorem aiA{K:Int}(h:(decide (1<=K)&&decide (K<=23))=false):fS K=[]:=by
 unfold fS;rw[h,al]
theorem aiB{K:Int}(h:(decide (1<=K)&&decide (K<=23))=true):inB K (List.length ([]::words))=true:=by
 simp only[bu,bX]at h;obtain⟨n,rfl⟩:=ka (show 0<=K by omega);rw[db,bX,show List.length (([]:List UInt8)::words)=24 from rfl];omega
theorem Tz:∀(m n:Nat)(t:aa),n<m->n<=100->t.sz<=1048576->M.uC m t (n:Int)=some (cH n t)
 |0,n,t,h,_,_=>by omega
 |m+1,0,t,h,_,_=>rfl
 |m+1,n+1,t,h,hn,hs=>by
  show M.FC (M.uC m) t _=_
  have hz:=aa.cY t;have hw:Go.IntKind.wrap .i64 (((n+1:Nat):Int)-1)=(n:Int):=by rw[wrap_i64 (by omega) (by omega)];omega
  have hrec:∀x∈t.Kids,M.uC m x (Go.IntKind.wrap .i64 (((n+1:Nat):Int)-1))=some (cH n x):=fun x hx=>by
   rw[hw];exact Tz m n x (by omega) (by omega) (by have:=aa.BG hx;omega)
  have hk:=aa.Ff hs;have e0:∀word,M.uy (M.uC m) ((n+1:Nat):Int) word t.Kids ((t.Kids.length:Nat):Int) ae 0 t []=some (word,t,t.Kids.map (cH n)):=fun word=>by
   have:=Tn (word:=word) (t:=t) (cH n) t.Kids hk hrec ae 0 [] (by have:=aZ;omega) (by omega) (by simp;omega);simpa using this
  have hkl:=Tt n t.Kids;have hkw:=Fz t.Kind;have hj:=jy (t.Kids.map (cH n));have hl:=uA t.Kind t.bq t.Kids (t.Kids.map (cH n));have hll:=mY t.Kind t.bq t.Kids (t.Kids.map (cH n));have hle:=d3 List.length t.bq;have hj2:=jy (labT t.Kind t.bq t.Kids (t.Kids.map (cH n)));have hr:=L6 t (t.Kids.map (cH n));have hsk:=d3 aa.sz t.Kids;have hmk:(t.Kids.map (cH n)).length=t.Kids.length:=eQ _;have d:(((n+1:Nat):Int)==0)=false:=by rw[cO];omega
  have r1:=aiy t (t.Kids.map (cH n)) hmk (by omega);have r2:=aiz (cH n) t (by omega) (by omega);have r3:=Ft (t.Kids.map (cH n)) (by omega);have r4:=Ft (labT t.Kind t.bq t.Kids (t.Kids.map (cH n))) (by omega);rw[cH];unfold M.FC bodyT BZ B0;have c1:au (fS t.Kind) [60]=true:=bz (by simp only[aG,aE,aL];omega);have c2:au (fS t.Kind++[60]) t.Name=true:=bz (by simp only[aG,aE,aL];omega);have c3:au ((fS t.Kind++[60])++t.Name) [62]=true:=bz (by simp only[aG,aE,aL];omega);have c4:au (fS t.Kind++[60]) (jn (t.Kids.map (cH n)))=true:=bz (by simp only[aG,aE,aL];omega);have c5:au ((fS t.Kind++[60])++jn (t.Kids.map (cH n))) [62]=true:=bz (by simp only[aG,aE,aL];omega);have c6:au (fS t.Kind) (uz t (t.Kids.map (cH n)))=true:=bz (by omega);have c7:au (fS t.Kind) [32,123,32]=true:=bz (by simp only[aG,aE,aL];omega);have c8:au (fS t.Kind++[32,123,32]) (jn (labT t.Kind t.bq t.Kids (t.Kids.map (cH n))))=true:=bz (by simp only[aG,aE,aL];omega);have c9:au ((fS t.Kind++[32,123,32])++jn (labT t.Kind t.bq t.Kids (t.Kids.map (cH n)))) [32,125]=true:=bz (by simp only[aG,aE,aL];omega);cases hK:decide (1<=t.Kind)&&decide (t.Kind<=23)
  ·rw[aiA hK]at c1 c2 c3 c4 c5 c6 c7 c8 c9⊢;simp only[d,hK,al,aa.bZ,e0];simp only[Fv,r1,r2,r3,r4,c1,c2,c3,c4,c5,c6,c7,c8,c9,an,ar,ak,ad];cases (t.Kind==30)<;>cases ((t.Kind==20)||(t.Kind==21))<;>cases ((t.Kind==12)||((t.Kind==13)||((t.Kind==22)||((t.Kind==23)||(t.Kind==15)))))<;>cases (t.Kind==14)<;>cases ((t.Kind==16)||((t.Kind==17)||((t.Kind==18)||(t.Kind==19))))<;>rfl
  ·simp only[d,hK,al,ad,aa.bZ,e0,EU,an,ar,aiB hK,ak,bh,bj,bQ];simp only[<-Tv hK,Fv,r1,r2,r3,r4,c1,c2,c3,c4,c5,c6,c7,c8,c9,an,ar,ak,ad];cases (t.Kind==30)<;>cases ((t.Kind==20)||(t.Kind==21))<;>cases ((t.Kind==12)||((t.Kind==13)||((t.Kind==22)||((t.Kind==23)||(t.Kind==15)))))<;>cases (t.Kind==14)<;>cases ((t.Kind==16)||((t.Kind==17)||((t.Kind==18)||(t.Kind==19))))<;>rfl
theorem TA(t:aa)(hs:t.sz<=1048576):M.uD t 5=some (cH 5 t):=Tz ae 5 t (by have:=aZ;omega) (by omega) hs
end M
namespace M
open Go.V (inB bN au ae aZ)
def B7(K:Int):Bool:=(K==12)||((K==13)||((K==22)||(K==23)))
def dx(K:Int):Bool:=(K==14)||(K==17)
def mm(K:Int)(n:Int):Int:=bif B7 K then 1 else bif K==14 then 2 else bif K==15 then 1 else bif(K==16)||(K==17)then n else 0
def kX(K:Int)(n:Int):Int:=bif B7 K then 1 else bif K==14 then 2 else bif K==15 then 6 else bif(K==16)||(K==17)then n else 0
def pj(K:Int):Bool:= !((!(decide (1<=K)&&decide (K<=23)))&&(K !=30))
def lJ(g:aa->Int)(u:Bool):List aa->Int->Int
 |[],s=>s
 |x::r,s=>bif u&&(x.Kind==1)then lJ g u r (s+1)else bif decide (g x<0)||decide (12000<s)then -1 else lJ g u r (s+g x)
def b9:Nat->aa->Int
 |0,_=> -1
 |d+1,t=>bif(decide ((16:Int)<((t.bq.length:Nat):Int))||decide ((16:Int)<((t.Kids.length:Nat):Int)))||decide ((12:Int)<((t.Name.length:Nat):Int))then -1
  else bif(!pj t.Kind)|| !(decide (mm t.Kind ((t.bq.length:Nat):Int)<=((t.Kids.length:Nat):Int))&&decide (((t.Kids.length:Nat):Int)<=kX t.Kind ((t.bq.length:Nat):Int)))then -1
  else lJ (b9 d) (dx t.Kind) t.Kids 1
theorem Mc(g:aa->Int)(u:Bool)(B:Int)(hB:0<=B):∀(l:List aa)(s:Int),(∀x∈l,g x<=B)->l.length<=16->s+l.length<=12016+B->lJ g u l s<=12016+B
 |[],s,_,_,h=>by rw[lJ];simpa using h
 |x::r,s,hg,hl,h=>by
  simp only[aE]at hl h;rw[lJ];cases (u&&(x.Kind==1))
  ·rw[al];cases hc:(decide (g x<0)||decide (12000<s))
   ·rw[al];rw[lj,fa,fa]at hc;have:=hg x (by simp);exact Mc g u B hB r _ (fun y hy=>hg y (by simp[hy])) (by omega) (by omega)
   ·rw[ad];omega
  ·rw[ad];exact Mc g u B hB r _ (fun y hy=>hg y (by simp[hy])) (by omega) (by omega)
theorem TB:∀(d:Nat)(t:aa),b9 d t<=12016*(d:Int)
 |0,t=>by show(-1:Int)<=_;omega
 |d+1,t=>by
  rw[b9];cases hc:((decide ((16:Int)<((t.bq.length:Nat):Int))||decide ((16:Int)<((t.Kids.length:Nat):Int)))||decide ((12:Int)<((t.Name.length:Nat):Int)))
  ·rw[al];simp only[lj,fa]at hc;have h1:=Mc (b9 d) (dx t.Kind) (12016*(d:Int)) (by omega) t.Kids 1 (fun x _=>TB d x) (by omega) (by omega);have key:∀q:Bool,(bif q then -1 else lJ (b9 d) (dx t.Kind) t.Kids 1)<=12016*((d+1:Nat):Int):=fun q=>by
    cases q<;>simp only[ad,al]<;>omega
   exact key _
  ·rw[ad];omega
theorem Md{rec:aa->Int->Option Int}{deep:Int}{g:aa->Int}{t:aa}{B:Int}(hk:t.Kids.length<=16)(hr:∀x∈t.Kids,rec x (Go.IntKind.wrap .i64 (deep-1))=some (g x))(hB:∀x∈t.Kids,g x<=B)(h0:0<=B)(h1:B<=1000000):
 ∀(f k:Nat)(s:Int),t.Kids.length-k<f->k<=t.Kids.length->0<=s->s+((t.Kids.length-k:Nat):Int)<=12016+B->∃y,M.we rec deep f s (k:Int) t=some y/\Sum.elim id id y=lJ g (dx t.Kind) (t.Kids.drop k) s
 |0,k,s,h,_,_,_=>by omega
 |f+1,k,s,h,hkl,hs,hsb=>by
  rw[M.we];rcases cU k t.Kids.length with q|q
  ·have hm:=de q;rw[jw q,lJ];simp only[eO q,bG,dw _ q,aa.bZ,hr _ hm,an,ar,ad,dB q,ak,bh,cT q (by omega:t.Kids.length<2^62)]
   show ∃y,(bif dx t.Kind&&_ then _ else _)=some y/\_
   cases hu:(dx t.Kind&&(t.Kids[k].Kind==1))
   ·simp only[al];cases hc:(decide (g t.Kids[k]<0)||decide (12000<s))
    ·simp only[al];rw[lj,fa,fa]at hc;have:=hB _ hm;rw[wrap_i64 (show -9223372036854775808<=s+g t.Kids[k] by omega) (by omega)];exact Md hk hr hB h0 h1 f (k+1) _ (by omega) (by omega) (by omega) (by omega)
    ·simp only[ad];exact⟨_,rfl,rfl⟩
   ·simp only[ad];rw[wrap_i64 (show -9223372036854775808<=s+1 by omega) (by omega)];exact Md hk hr hB h0 h1 f (k+1) _ (by omega) (by omega) (by omega) (by omega)
  ·simp only[jj q,al];rw[List.drop_eq_nil_of_le q,lJ];exact⟨_,rfl,rfl⟩
theorem Me{α:Type}(q:Bool)(a b:α):(bif q then some a else some b)=some (bif q then a else b):=by cases q<;>rfl
theorem TC:∀(m d:Nat)(t:aa),d<m->d<=10->M.wh m t (d:Int)=some (b9 d t)
 |0,d,t,h,_=>by omega
 |m+1,0,t,h,_=>rfl
 |m+1,d+1,t,h,hd=>by
  show M.FD (M.wh m) t _=_
  have e0:(((d+1:Nat):Int)==0)=false:=by rw[cO];omega
  have hw:Go.IntKind.wrap .i64 (((d+1:Nat):Int)-1)=(d:Int):=by rw[wrap_i64 (by omega) (by omega)];omega
  unfold M.FD;rw[b9];simp only[e0,ln,Fv,aa.bZ];cases hc:((decide ((16:Int)<((t.bq.length:Nat):Int))||decide ((16:Int)<((t.Kids.length:Nat):Int)))||decide ((12:Int)<((t.Name.length:Nat):Int)))
  ·simp only[al];simp only[lj,fa]at hc;have e1:(!pj t.Kind)=((!(decide (1<=t.Kind)&&decide (t.Kind<=23)))&&(t.Kind !=30)):=by unfold pj;rw[Bool.not_not]
   rw[e1];unfold mm kX B7;obtain⟨y,hy,hv⟩:=Md (rec:=M.wh m) (deep:=((d+1:Nat):Int)) (g:=b9 d) (t:=t) (B:=12016*(d:Int)) (by omega) (fun x hx=>by rw[hw];exact TC m d x (by omega) (by omega)) (fun x _=>TB d x) (by omega) (by omega) ae 0 1 (by have:=aZ;omega) (by omega) (by omega) (by omega);rw[show((0:Nat):Int)=0 from rfl]at hy;rw[ig]at hv;simp only[hy,<-hv];cases y<;>exact Me _ _ _
  ·rfl
theorem TD(t:aa):M.B8 t 4=some (b9 4 t):=TC ae 4 t (by have:=aZ;omega) (by omega)
structure aiC (d:Nat) (t:aa):Prop where
 kin:(1<=t.Kind/\t.Kind<=23)\/t.Kind=30
 res:t.Kind=14->t.Kids.length=2
 lab:(t.Kind=16\/t.Kind=17)->t.Kids.length=t.bq.length
 non:(t.Kind=18\/t.Kind=19)->t.Kids.length=0
 kid:∀x∈t.Kids,(dx t.Kind&&(x.Kind==1))=true\/0<=b9 d x
theorem MA(g:aa->Int)(u:Bool):∀(l:List aa)(s:Int),0<=lJ g u l s->∀x∈l,(u&&(x.Kind==1))=true\/0<=g x
 |[],s,_,x,hx=>by cases hx
 |y::r,s,h,x,hx=>by
  rw[lJ]at h;cases hu:(u&&(y.Kind==1))<;>rw[hu]at h
  ·rw[al]at h;cases hc:(decide (g y<0)||decide (12000<s))<;>rw[hc]at h
   ·rw[al]at h;rw[lj,fa,fa]at hc;rcases fe.1 hx with q|q
    ·rw[q];right;omega
    ·exact MA g u r _ h x q
   ·rw[ad]at h;omega
  ·rw[ad]at h;rcases fe.1 hx with q|q
   ·rw[q];left;exact hu
   ·exact MA g u r _ h x q
theorem aiD{d:Nat}{t:aa}(h:0<=b9 (d+1) t):aiC d t:=by
 rw[b9]at h;cases hc:((decide ((16:Int)<((t.bq.length:Nat):Int))||decide ((16:Int)<((t.Kids.length:Nat):Int)))||decide ((12:Int)<((t.Name.length:Nat):Int)))<;>rw[hc]at h
 ·rw[al]at h;cases hq:((!pj t.Kind)|| !(decide (mm t.Kind ((t.bq.length:Nat):Int)<=((t.Kids.length:Nat):Int))&&decide (((t.Kids.length:Nat):Int)<=kX t.Kind ((t.bq.length:Nat):Int))))<;>rw[hq]at h
  ·rw[al]at h;simp only[lj,Bool.not_eq_false',bu,bX]at hq;obtain⟨h1,h2,h3⟩:=hq;refine⟨?_,?_,?_,?_,MA _ _ _ _ h⟩
   ·unfold pj at h1;simp only[fb,Bool.and_eq_false_iff,Bool.not_eq_false',bu,bX,bne_eq_false_iff_eq]at h1;exact h1
   ·intro e;rw[e]at h2 h3;have a:mm 14 ((t.bq.length:Nat):Int)=2:=rfl;have b:kX 14 ((t.bq.length:Nat):Int)=2:=rfl;rw[a]at h2;rw[b]at h3;omega
   ·intro e;rcases e with e|e<;>rw[e]at h2 h3
    ·have a:mm 16 ((t.bq.length:Nat):Int)=((t.bq.length:Nat):Int):=rfl;have b:kX 16 ((t.bq.length:Nat):Int)=((t.bq.length:Nat):Int):=rfl;rw[a]at h2;rw[b]at h3;omega
    ·have a:mm 17 ((t.bq.length:Nat):Int)=((t.bq.length:Nat):Int):=rfl;have b:kX 17 ((t.bq.length:Nat):Int)=((t.bq.length:Nat):Int):=rfl;rw[a]at h2;rw[b]at h3;omega
   ·intro e;rcases e with e|e<;>rw[e]at h3
    ·have b:kX 18 ((t.bq.length:Nat):Int)=0:=rfl;rw[b]at h3;omega
    ·have b:kX 19 ((t.bq.length:Nat):Int)=0:=rfl;rw[b]at h3;omega
  ·rw[ad]at h;omega
 ·rw[ad]at h;omega
end M
namespace M
open Go.V (inB bN au ae aZ)
theorem aiE:Option.getD M.jP default++Option.getD M.jQ default=words:=by decide
theorem aiF:Option.isSome M.jP=true:=by decide
theorem aiG:Option.isSome M.jQ=true:=by decide
theorem kwS{K:Int}(h1:1<=K)(h2:K<=23):List.getD words (Int.toNat (Go.IntKind.wrap .i64 (K-1))) []=fS K/\inB (Go.IntKind.wrap .i64 (K-1)) words.length=true:=by
 rw[wrap_i64 (by omega) (by omega)];obtain⟨n,hn⟩:=ka (show 0<=K-1 by omega);have hK:K=((n+1:Nat):Int):=by omega
 subst hK;rw[hn,Tv (by rw[bu,bX,bX];exact⟨h1,h2⟩),bG,bG,db,bX,show words.length=23 from rfl];exact⟨rfl,by omega⟩
theorem FG(k:Nat)(s:List UInt8):(bif decide ((0:Int)<(k:Int))then s++[(44:UInt8),32]else s).length<=s.length+2:=by
 cases decide ((0:Int)<(k:Int))<;>simp
theorem FH(k:Nat){s:List UInt8}(h:s.length<=2000000000):au s [(44:UInt8),32]=true:=bz (by simp only[aE,aL];omega)
theorem aiI{rec:aa->Option (List UInt8)}(f:aa->List UInt8)(l:List aa)(hl:l.length<=1048576)(hb:bJ List.length (l.map f)<=268435456)(hr:∀x∈l,rec x=some (f x)):M.B9 rec l=some (jn (l.map f)):=by
 unfold M.B9;have e:=FB (F:=fun n s i=>M.sf rec l n s i) (h:=some) (l.map f) (by rw[eQ];omega) [] (fun n k s hk hs=>by
  rw[eQ]at hk
  show M.sf rec l (n+1) s (k:Int)=_
  rw[M.sf];have hm:=de hk;have hx:=gk List.length (l.map f) (f l[k]) (List.mem_map_of_mem hm);have hc:=FG k s;simp only[aL]at hs;have c1:au (bif decide ((0:Int)<(k:Int))then s++[44,32]else s) (f l[k])=true:=bz (by omega);simp only[eO hk,bG,dw _ hk,aa.bZ,hr _ hm,an,ar,ad,dB hk,FH k (show s.length<=2000000000 by omega),c1,ak,bh,cT hk (by omega:l.length<2^62),xj]) (fun n s=>by
  show M.sf rec l (n+1) s _=_
  rw[eQ,M.sf];simp)
 simp only[fB]at e;rw[e]
theorem aiJ{rec:aa->Option (List UInt8)}(f:aa->List UInt8)(t:aa)(hL:t.bq.length<=1048576)(hb:bJ List.length t.bq+bJ List.length (t.Kids.map f)<=134217728)(hlab:(t.Kind=16\/t.Kind=17)->t.Kids.length=t.bq.length)(TE:(t.Kind=18\/t.Kind=19)->t.Kids.length=0)
 (hK:t.Kind=16\/t.Kind=17\/t.Kind=18\/t.Kind=19) (hr:∀x∈t.Kids,(dx t.Kind&&(x.Kind==1))=true\/rec x=some (f x)):M.Cb rec t=some (([32,123,32]++jn (labT t.Kind t.bq t.Kids (t.Kids.map f)))++[32,125]):=by
 have hs1:=uA t.Kind t.bq t.Kids (t.Kids.map f);have hs2:=mY t.Kind t.bq t.Kids (t.Kids.map f);have hle:=d3 List.length t.bq;have hj:=jy (labT t.Kind t.bq t.Kids (t.Kids.map f));unfold M.Cb;have e:=FB (F:=fun n s i=>M.sg rec n s i t) (h:=some) (labT t.Kind t.bq t.Kids (t.Kids.map f)) (by omega) [] (fun n k s hk hs=>by
  have hk':=hk;rw[mY]at hk;have hg:=FA t.Kind f t.bq t.Kids k hk;rw[getD_lt hk',dw _ hk]at hg
  show M.sg rec (n+1) s (k:Int) t=_
  rw[M.sg];have hml:=gk List.length t.bq t.bq[k] (de hk);have hc:=FG k s;simp only[aL]at hs;have c1:au (bif decide ((0:Int)<(k:Int))then s++[44,32]else s) t.bq[k]=true:=bz (by omega);simp only[eO hk,bG,dw _ hk,aa.bZ,ad,dB hk,FH k (show s.length<=2000000000 by omega),c1,ak,bh,cT hk (by omega:t.bq.length<2^62),hg];generalize hq:(bif decide ((0:Int)<(k:Int))then s++[44,32]else s)=q at*;rcases hK with h|h|h|h
  ·have hkk:k<t.Kids.length:=by rw[hlab (.inl h)];exact hk
   have hm:=de hkk;have hx:=gk List.length (t.Kids.map f) (f t.Kids[k]) (List.mem_map_of_mem hm);have er:rec t.Kids[k]=some (f t.Kids[k]):=(hr _ hm).resolve_left (by rw[h,show dx 16=false from rfl,cK];decide);have c2:au [58,32] (f t.Kids[k])=true:=bz (by simp only[aE,aL];omega);have c3:au (q++t.bq[k]) ([58,32]++f t.Kids[k])=true:=bz (by simp only[aG,aE,aL];omega);rw[dif_pos hkk];simp only[h,dw _ hkk,er,an,ar,dB hkk,c2,c3,ak,cn,d4,bh,ad];simp only[fN]
  ·have hkk:k<t.Kids.length:=by rw[hlab (.inr h)];exact hk
   have hm:=de hkk;have n16:((17:Int)==16)=false:=rfl;rw[dif_pos hkk];cases h1:(t.Kids[k].Kind==1)
   ·have hx:=gk List.length (t.Kids.map f) (f t.Kids[k]) (List.mem_map_of_mem hm);have er:rec t.Kids[k]=some (f t.Kids[k]):=(hr _ hm).resolve_left (by rw[h1,Bool.and_false];decide);have c2:au [40] (f t.Kids[k])=true:=bz (by simp only[aE,aL];omega);have c3:au ([40]++f t.Kids[k]) [41]=true:=bz (by simp only[aG,aE,aL];omega);have c4:au (q++t.bq[k]) (([40]++f t.Kids[k])++[41])=true:=bz (by simp only[aG,aE,aL];omega);simp only[h,n16,yS,h1,dw _ hkk,er,an,ar,dB hkk,c2,c3,c4,ak,cn,d4,bh,bp,bV,lP,bQ,bj,ad,al];simp only[fN]
   ·simp only[h,n16,yS,h1,dw _ hkk,dB hkk,ak,cn,d4,bh,bp,bV,lP,bQ,bj,Bool.and_false,ad,al]
  ·have hkk:¬k<t.Kids.length:=by rw[TE (.inl h)];omega
   have n16:((18:Int)==16)=false:=rfl;have n17:((18:Int)==17)=false:=rfl;have ft:(false==true)=false:=rfl;rw[dif_neg hkk];simp only[h,n16,n17,ft,cK,bp,d4,lP,ak,ad,al]
  ·have hkk:¬k<t.Kids.length:=by rw[TE (.inr h)];omega
   have n16:((19:Int)==16)=false:=rfl;have n17:((19:Int)==17)=false:=rfl;have ft:(false==true)=false:=rfl;rw[dif_neg hkk];simp only[h,n16,n17,ft,cK,bp,d4,lP,ak,ad,al]) (fun n s=>by
  show M.sg rec (n+1) s _ t=_
  rw[mY,M.sg];simp)
 simp only[fB]at e;rw[aa.bZ,e];have c1:au [32,123,32] (jn (labT t.Kind t.bq t.Kids (t.Kids.map f)))=true:=bz (by simp only[aE,aL];omega);have c2:au ([32,123,32]++jn (labT t.Kind t.bq t.Kids (t.Kids.map f))) [32,125]=true:=bz (by simp only[aG,aE,aL];omega);simp only[c1,c2,ak,ad]
theorem aiK:fS 14=[114,101,115,117,108,116]:=by decide
theorem aiL{rec:aa->Option (List UInt8)}(f:aa->List UInt8)(t:aa)(x y:aa)(hxy:t.Kids=[x,y])(hb:(f x).length+(f y).length<=134217728)(hx:(x.Kind==1)=true\/rec x=some (f x))(hy:(y.Kind==1)=true\/rec y=some (f y)):M.Cc rec x y=some (fS 14++uz t (t.Kids.map f)):=by
 unfold M.Cc uz;rw[hxy,aiK];simp only[eR,List.map_nil,aE,aL,List.getD_cons_zero,List.getD_cons_succ,aa.bZ,yS];have e2:((((0+1+1:Nat)):Int)==2)=true:=rfl;rw[e2];simp only[bV,al];cases h1:(x.Kind==1)<;>cases h2:(y.Kind==1)
 ·have ex:=hx.resolve_left (by rw[h1];decide);have ey:=hy.resolve_left (by rw[h2];decide);have c1:au [44,32] (f y)=true:=bz (by simp only[aE,aL];omega);have c2:au (f x) ([44,32]++f y)=true:=bz (by simp only[aG,aE,aL];omega);have c3:au [114,101,115,117,108,116,60] (f x++([44,32]++f y))=true:=bz (by simp only[aG,aE,aL];omega);have c4:au ([114,101,115,117,108,116,60]++(f x++([44,32]++f y))) [62]=true:=bz (by simp only[aG,aE,aL];omega);simp only[ex,ey,bp,bV,ak,ad,al,an,ar,bh,d4,c1,c2,c3,c4];simp
 ·have ex:=hx.resolve_left (by rw[h1];decide);have c3:au [114,101,115,117,108,116,60] (f x)=true:=bz (by simp only[aG,aE,aL];omega);have c4:au ([114,101,115,117,108,116,60]++f x) [62]=true:=bz (by simp only[aG,aE,aL];omega);simp only[ex,bp,bV,ak,Bool.and_false,bQ,ad,al,an,ar,bh,d4,lP,c3,c4];simp
 ·have ey:=hy.resolve_left (by rw[h2];decide);have c1:au [44,32] (f y)=true:=bz (by simp only[aE,aL];omega);have c2:au [95] ([44,32]++f y)=true:=bz (by simp only[aG,aE,aL];omega);have c3:au [114,101,115,117,108,116,60] ([95]++([44,32]++f y))=true:=bz (by simp only[aG,aE,aL];omega);have c4:au ([114,101,115,117,108,116,60]++([95]++([44,32]++f y))) [62]=true:=bz (by simp only[aG,aE,aL];omega);simp only[ey,bp,bV,ak,Bool.and_false,bQ,cK,ad,al,an,ar,bh,d4,lP,c1,c2,c3,c4];simp
 ·simp
theorem TF:∀(m n:Nat)(t:aa),n<m->t.sz<=1048576->0<=b9 n t->M.nQ m t=some (cH (n+1) t)
 |0,n,t,h,_,_=>by omega
 |m+1,0,t,h,_,h0=>absurd h0 (by show ¬(0:Int)<= -1;omega)
 |m+1,n+1,t,h,hs,h0=>by
  show M.FI (M.nQ m) t=_
  have hS:=aiD h0;have hz:=aa.cY t;have hrec:∀x∈t.Kids,0<=b9 n x->M.nQ m x=some (cH (n+1) x):=fun x hx h=>TF m n x (by omega) (by have:=aa.BG hx;omega) h
  have hrk:∀x∈t.Kids,(dx t.Kind&&(x.Kind==1))=true\/M.nQ m x=some (cH (n+1) x):=fun x hx=>(hS.kid x hx).imp id (hrec x hx)
  have hk:=aa.Ff hs;have hkl:=Tt (n+1) t.Kids;have hkw:=Fz t.Kind;have hj:=jy (t.Kids.map (cH (n+1)));have hle:=d3 List.length t.bq;have hsk:=d3 aa.sz t.Kids;have hmk:(t.Kids.map (cH (n+1))).length=t.Kids.length:=eQ _;have hl:=uA t.Kind t.bq t.Kids (t.Kids.map (cH (n+1)));have hll:=mY t.Kind t.bq t.Kids (t.Kids.map (cH (n+1)));have hj2:=jy (labT t.Kind t.bq t.Kids (t.Kids.map (cH (n+1))));rw[cH];unfold M.FI bodyT BZ B0;cases h30:(t.Kind==30)
  ·have hK:1<=t.Kind/\t.Kind<=23:=hS.kin.resolve_right (fun e=>by rw[e]at h30;exact absurd h30 (by decide));obtain⟨w1,w2⟩:=kwS hK.1 hK.2;simp only[al,Fv,aiE,aiF,aiG,w1,w2,ak,bh,bj,aa.bZ];have c1:au (fS t.Kind) [60]=true:=bz (by simp only[aG,aE,aL];omega);have c2:au (fS t.Kind++[60]) t.Name=true:=bz (by simp only[aG,aE,aL];omega);have c3:au ((fS t.Kind++[60])++t.Name) [62]=true:=bz (by simp only[aG,aE,aL];omega);have c4:au (fS t.Kind++[60]) (jn (t.Kids.map (cH (n+1))))=true:=bz (by simp only[aG,aE,aL];omega);have c5:au ((fS t.Kind++[60])++jn (t.Kids.map (cH (n+1)))) [62]=true:=bz (by simp only[aG,aE,aL];omega);cases hW:((t.Kind==12)||((t.Kind==13)||((t.Kind==22)||((t.Kind==23)||(t.Kind==15)))))
   ·simp only[al];cases qd:(t.Kind==14)
    ·simp only[al];cases h20:((t.Kind==20)||(t.Kind==21))
     ·simp only[al];cases hL:((t.Kind==16)||((t.Kind==17)||((t.Kind==18)||(t.Kind==19))))
      ·simp only[al,ad]
      ·have hL':t.Kind=16\/t.Kind=17\/t.Kind=18\/t.Kind=19:=by simpa only[gu,cL]using hL
       have r:=aiJ (rec:=M.nQ m) (cH (n+1)) t (by omega) (by omega) hS.lab hS.non hL' hrk;have c6:au (fS t.Kind) (([32,123,32]++jn (labT t.Kind t.bq t.Kids (t.Kids.map (cH (n+1)))))++[32,125])=true:=bz (by simp only[aG,aE,aL];omega);simp only[r,c6,ad,an,ar,ak];simp only[fN]
     ·simp only[c1,c2,c3,ad,ak]
    ·have e14:t.Kind=14:=cL.1 qd;have h2:=hS.res e14;obtain⟨x,y,hxy⟩:∃x y,t.Kids=[x,y]:=by
      match hh:t.Kids,h2 with
      |[x,y],_=>exact⟨x,y,rfl⟩
     have h20:((t.Kind==20)||(t.Kind==21))=false:=by rw[e14];rfl
     have u:∀z∈t.Kids,(z.Kind==1)=true\/M.nQ m z=some (cH (n+1) z):=fun z hz=>(hrk z hz).imp (fun q=>(Bool.and_eq_true_iff.1 q).2) id
     have hkl':=hkl;rw[hxy]at hkl';simp only[eR,List.map_nil,bJ]at hkl';have hsz:=hz;rw[hxy]at hsz;simp only[bJ]at hsz;have r:=aiL (rec:=M.nQ m) (cH (n+1)) t x y hxy (by omega) (u x (by rw[hxy];simp)) (u y (by rw[hxy];simp));have i0:inB (0:Int) t.Kids.length=true:=by rw[hxy];rfl
     have i1:inB (1:Int) t.Kids.length=true:=by rw[hxy];rfl
     have g0:List.getD t.Kids (Int.toNat 0) aa.zero=x:=by rw[hxy];rfl
     have g1:List.getD t.Kids (Int.toNat 1) aa.zero=y:=by rw[hxy];rfl
     simp only[g0,g1,i0,i1,r,h20,e14,ad,al,an,ar,ak];rfl
   ·have hW':t.Kind=12\/t.Kind=13\/t.Kind=22\/t.Kind=23\/t.Kind=15:=by simpa only[gu,cL]using hW
    have h20:((t.Kind==20)||(t.Kind==21))=false:=by rcases hW' with e|e|e|e|e<;>rw[e]<;>rfl
    have hun:dx t.Kind=false:=by rcases hW' with e|e|e|e|e<;>rw[e]<;>rfl
    have r:=aiI (rec:=M.nQ m) (cH (n+1)) t.Kids hk (by omega) (fun x hx=>(hrk x hx).resolve_left (by rw[hun,cK];decide));simp only[h20,r,c1,c4,c5,ad,al,an,ar,ak]
  ·simp only[ad]
theorem MB(t:aa)(hs:t.sz<=1048576)(h:0<=b9 4 t):M.yT t=some (cH 5 t):=TF ae 4 t (by have:=aZ;omega) hs h
end M
namespace M
open Go.V (inB bN au ae aZ)
def iK(u:aW):List UInt8:=bif !(u.As==[])then u.Name++([32,97,115,32]++u.As)else u.Name
def hZ(p:aV):List UInt8:=(p.Name++[58,32])++cH 5 p.Term
def nR(x:ai):List UInt8:=bif x.Async then(x.Name++[58,32])++[97,115,121,110,99,32]else x.Name++[58,32]
def uE(x:ai):List UInt8:=nR x++(([102,117,110,99,40]++jn (x.Params.map hZ))++[41])
def jX(pt:aI->List UInt8)(x:ai):List UInt8:=
 bif x.Kind==1 then[114,101,115,111,117,114,99,101,32]++x.Name
 else bif x.Kind==2 then(([116,121,112,101,32]++x.Name)++[32,61,32])++cH 5 x.Term
 else bif x.Kind==4 then((([117,115,101,32]++pt x.From)++[46,123])++jn (x.Uses.map iK))++[125]
 else bif x.Term.Kind !=1 then uE x++([32,45,62,32]++cH 5 x.Term)else uE x
theorem aiM(u:aW):(iK u).length<=u.sz+4:=by
 have:=aW.cY u;unfold iK;cases (u.As==[])<;>simp<;>omega
theorem Cd:∀l:List aW,bJ List.length (l.map iK)<=20*bJ aW.sz l
 |[]=>by simp[bJ]
 |u::r=>by have:=aiM u;have:=Cd r;simp only[eR,bJ];omega
theorem aiN(p:aV):(hZ p).length<=16*p.sz+16:=by
 have:=aV.cY p;have:=uB 5 p.Term;unfold hZ;simp only[aG,aE,aL];omega
theorem Ce:∀l:List aV,bJ List.length (l.map hZ)<=20*bJ aV.sz l
 |[]=>by simp[bJ]
 |u::r=>by have:=aiN u;have:=Ce r;simp only[eR,bJ];omega
theorem MC(x:ai):(nR x).length<=x.Name.length+8:=by
 unfold nR;cases x.Async<;>simp
theorem nS(p:aI):(cE p).length<=p.sz+2:=by
 have:=aI.cY p;unfold cE;cases (p.ba==[])<;>cases (p.Version==[])<;>simp<;>omega
theorem qo(p:aI):(eJ p).length<=p.sz+2:=by
 have:=aI.cY p;unfold eJ;cases (p.ba==[])<;>cases (p.Version==[])<;>simp<;>omega
theorem MD(pt:aI->List UInt8)(hp:∀p,(pt p).length<=p.sz+2)(x:ai):(jX pt x).length<=40*x.sz+40:=by
 have hz:=ai.cY x;have h1:=uB 5 x.Term;have h2:=Cd x.Uses;have h3:=Ce x.Params;have h4:=MC x;have h5:=hp x.From;have j1:=jy (x.Uses.map iK);have j2:=jy (x.Params.map hZ);have l1:=d3 List.length (x.Uses.map iK);have l2:=d3 List.length (x.Params.map hZ);unfold jX uE;cases (x.Kind==1)<;>cases (x.Kind==2)<;>cases (x.Kind==4)<;>cases (x.Term.Kind !=1)<;>simp only[ad,al,aG,aE,aL]<;>omega
theorem aiO(x:ai)(h:x.sz<=1048576):M.qp x.Uses ((x.Uses.length:Nat):Int) ae 0 x []=some (x,x.Uses.map iK):=by
 have hz:=ai.cY x;have hl:=d3 aW.sz x.Uses;have e:=L8 (F:=fun n i o=>M.qp x.Uses ((x.Uses.length:Nat):Int) n i x o) (h:=fun o=>some (x,o)) iK x.Uses (by omega) [] (fun n k out hk ho=>by
  show M.qp x.Uses ((x.Uses.length:Nat):Int) (n+1) (k:Int) x out=_
  rw[M.qp];have hm:=gk aW.sz x.Uses x.Uses[k] (de hk);have hu:=aW.cY x.Uses[k];have hc:∀y:List UInt8,decide (out.length+[y].length<=1073741824)=true:=fun y=>jW (by simp at ho⊢;omega)
  have c1:au [32,97,115,32] x.Uses[k].As=true:=bz (by simp only[aE,aL];omega);have c2:au x.Uses[k].Name ([32,97,115,32]++x.Uses[k].As)=true:=bz (by simp only[aG,aE,aL];omega);simp only[eO hk,bG,dw _ hk,ad,dB hk,hc,c1,c2,ak,bh,ai.bZ,cT hk (by omega:x.Uses.length<2^62)];rfl) (fun n out=>by
  show M.qp x.Uses ((x.Uses.length:Nat):Int) (n+1) _ x out=_
  rw[M.qp];simp only[Int.lt_irrefl,nc,al,ai.bZ])
 simpa using e
theorem aiP(text:List UInt8)(x:ai)(h:x.sz<=1048576):M.qq text x.Params ((x.Params.length:Nat):Int) ae 0 x []=some (text,x,x.Params.map hZ):=by
 have hz:=ai.cY x;have hl:=d3 aV.sz x.Params;have e:=L8 (F:=fun n i o=>M.qq text x.Params ((x.Params.length:Nat):Int) n i x o) (h:=fun o=>some (text,x,o)) hZ x.Params (by omega) [] (fun n k out hk ho=>by
  show M.qq text x.Params ((x.Params.length:Nat):Int) (n+1) (k:Int) x out=_
  rw[M.qq];have hm:=gk aV.sz x.Params x.Params[k] (de hk);have hu:=aV.cY x.Params[k];have ht:=uB 5 x.Params[k].Term;have hc:∀y:List UInt8,decide (out.length+[y].length<=1073741824)=true:=fun y=>jW (by simp at ho⊢;omega)
  have c1:au x.Params[k].Name [58,32]=true:=bz (by simp only[aE,aL];omega);have c2:au (x.Params[k].Name++[58,32]) (cH 5 x.Params[k].Term)=true:=bz (by simp only[aG,aE,aL];omega);have et:M.uD x.Params[k].Term 5=some (cH 5 x.Params[k].Term):=TA _ (by omega);simp only[eO hk,bG,dw _ hk,ad,aa.bZ,et,an,ar,dB hk,hc,c1,c2,ak,ai.bZ,cT hk (by omega:x.Params.length<2^62)];rfl) (fun n out=>by
  show M.qq text x.Params ((x.Params.length:Nat):Int) (n+1) _ x out=_
  rw[M.qq];simp only[Int.lt_irrefl,nc,al,ai.bZ])
 simpa using e
theorem aiQ(x:ai)(h:x.sz<=1048576):M.Cf x=some (jX cE x):=by
 have hz:=ai.cY x;have h1:=uB 5 x.Term;have h2:=Cd x.Uses;have h3:=Ce x.Params;have h4:=MC x;have h5:=nS x.From;have j1:=jy (x.Uses.map iK);have j2:=jy (x.Params.map hZ);have l1:=d3 List.length (x.Uses.map iK);have l2:=d3 List.length (x.Params.map hZ);have et:M.uD x.Term 5=some (cH 5 x.Term):=TA _ (by omega);have ep:M.uw x.From=some (cE x.From):=Ti _ (by omega);have ej1:=Ft (x.Uses.map iK) (by omega);have ej2:=Ft (x.Params.map hZ) (by omega);have ex:ai.re x=x:=ai.bZ x;unfold M.Cf jX;cases hK1:(x.Kind==1)
 ·cases hK2:(x.Kind==2)
  ·cases hK4:(x.Kind==4)
   ·have c1:au x.Name [58,32]=true:=bz (by simp only[aG,aE,aL];omega);have c2:au (x.Name++[58,32]) [97,115,121,110,99,32]=true:=bz (by simp only[aG,aE,aL];omega);have c3:au [102,117,110,99,40] (jn (x.Params.map hZ))=true:=bz (by simp only[aG,aE,aL];omega);have c4:au ([102,117,110,99,40]++jn (x.Params.map hZ)) [41]=true:=bz (by simp only[aG,aE,aL];omega);have c5:au (nR x) (([102,117,110,99,40]++jn (x.Params.map hZ))++[41])=true:=bz (by simp only[aG,aE,aL];omega);have c6:au [32,45,62,32] (cH 5 x.Term)=true:=bz (by simp only[aG,aE,aL];omega);have c7:au (uE x) ([32,45,62,32]++cH 5 x.Term)=true:=bz (by unfold uE;simp only[aG,aE,aL];omega);simp only[al,ex,aiP _ x h,aa.bZ,et,ej2,an,ar];rw[show(bif x.Async then(x.Name++[58,32])++[97,115,121,110,99,32]else x.Name++[58,32])=nR x from rfl];rw[show nR x++(([102,117,110,99,40]++jn (x.Params.map hZ))++[41])=uE x from rfl];simp only[c1,c2,c3,c4,c5,c6,c7,ak,bh,ad]
   ·have c1:au [117,115,101,32] (cE x.From)=true:=bz (by simp only[aG,aE,aL];omega);have c2:au ([117,115,101,32]++cE x.From) [46,123]=true:=bz (by simp only[aG,aE,aL];omega);have c3:au (([117,115,101,32]++cE x.From)++[46,123]) (jn (x.Uses.map iK))=true:=bz (by simp only[aG,aE,aL];omega);have c4:au ((([117,115,101,32]++cE x.From)++[46,123])++jn (x.Uses.map iK)) [125]=true:=bz (by simp only[aG,aE,aL];omega);simp only[al,ad,ex,aiO x h,ep,ej1,an,ar,c1,c2,c3,c4,ak]
  ·have c1:au [116,121,112,101,32] x.Name=true:=bz (by simp only[aG,aE,aL];omega);have c2:au ([116,121,112,101,32]++x.Name) [32,61,32]=true:=bz (by simp only[aG,aE,aL];omega);have c3:au (([116,121,112,101,32]++x.Name)++[32,61,32]) (cH 5 x.Term)=true:=bz (by simp only[aG,aE,aL];omega);simp only[al,ad,aa.bZ,et,an,ar,c1,c2,c3,ak]
 ·have c1:au [114,101,115,111,117,114,99,101,32] x.Name=true:=bz (by simp only[aG,aE,aL];omega);simp only[ad,c1,ak]
def mZ(x:ai):Bool:= !((decide ((6:Int)<((x.Params.length:Nat):Int))||decide ((16:Int)<((x.Uses.length:Nat):Int)))||(decide (b9 4 x.Term<0)&&((x.Kind==2)||(x.Kind==3))))&&((x.Params.all fun p=> !decide (b9 4 p.Term<0))&&(decide (1<=x.Kind)&&decide (x.Kind<=4)))
theorem TG(x:ai)(hl:x.Params.length<=6):∀(f k:Nat),x.Params.length-k<f->k<=x.Params.length->M.yU f (k:Int) x=some (bif((x.Params.drop k).all fun p=> !decide (b9 4 p.Term<0))then .inr x else .inl false)
 |0,k,h,_=>by omega
 |f+1,k,h,hk=>by
  rw[M.yU];have ex:ai.re x=x:=ai.bZ x;rcases cU k x.Params.length with q|q
  ·have ih:=TG x hl f (k+1) (by omega) (by omega);rw[jw q,sU];simp only[eO q,bG,dw _ q,aa.bZ,TD,an,ar,ad,dB q,ak,cT q (by omega:x.Params.length<2^62),ex,ih];cases decide (b9 4 x.Params[k].Term<0)<;>rfl
  ·simp only[jj q,al,ex];rw[List.drop_eq_nil_of_le q];rfl
theorem aiT(x:ai):M.Ci x=some (mZ x):=by
 unfold M.Ci mZ;have ex:ai.re x=x:=ai.bZ x;simp only[aa.bZ,TD,an,ar,bh,ak,ad];cases hc:((decide ((6:Int)<((x.Params.length:Nat):Int))||decide ((16:Int)<((x.Uses.length:Nat):Int)))||(decide (b9 4 x.Term<0)&&((x.Kind==2)||(x.Kind==3))))
 ·have hl:x.Params.length<=6:=by
   simp only[lj,fa]at hc;omega
  have e:=TG x hl ae 0 (by have:=aZ;omega) (by omega);rw[show((0:Nat):Int)=0 from rfl,ig]at e;simp only[al,ex,e,bp,bj];cases (x.Params.all fun p=> !decide (b9 4 p.Term<0))<;>rfl
 ·rfl
theorem aiU(x:ai)(s0:List UInt8)(h:x.sz<=1048576)(h0:s0.length<=100000000):M.qt ae s0 0 x=some (s0++jn (x.Uses.map iK)):=by
 have hz:=ai.cY x;have hl:=d3 aW.sz x.Uses;have h2:=Cd x.Uses;exact FB (F:=fun n s i=>M.qt n s i x) (h:=some) (x.Uses.map iK) (by rw[eQ];omega) s0 (fun n k s hk hs=>by
  rw[eQ]at hk
  show M.qt (n+1) s (k:Int) x=_
  rw[M.qt];have hm:=gk aW.sz x.Uses x.Uses[k] (de hk);have hu:=aW.cY x.Uses[k];have hc:=FG k s;have ex:ai.re x=x:=ai.bZ x;have c0:=FH k (s:=s) (by omega);have c1:au (bif decide ((0:Int)<(k:Int))then s++[44,32]else s) x.Uses[k].Name=true:=bz (by omega);have c2:au [32,97,115,32] x.Uses[k].As=true:=bz (by simp only[aE,aL];omega);have c3:au ((bif decide ((0:Int)<(k:Int))then s++[44,32]else s)++x.Uses[k].Name) ([32,97,115,32]++x.Uses[k].As)=true:=bz (by simp only[aG,aE,aL];omega);simp only[eO hk,bG,dw _ hk,ad,dB hk,c0,c1,c2,c3,ak,bh,cT hk (by omega:x.Uses.length<2^62),ex,xj];unfold iK;cases (x.Uses[k].As==[])<;>simp only[bp,bV,ad,al,fN]) (fun n s=>by
  show M.qt (n+1) s _ x=_
  rw[eQ,M.qt];simp only[Int.lt_irrefl,nc,al])
theorem aiV(x:ai)(s0:List UInt8)(h:x.sz<=1048576)(h0:s0.length<=100000000)(hp:∀p∈x.Params,0<=b9 4 p.Term):M.qu ae s0 0 x=some (s0++jn (x.Params.map hZ),x):=by
 have hz:=ai.cY x;have hl:=d3 aV.sz x.Params;have h2:=Ce x.Params;exact FB (F:=fun n s i=>M.qu n s i x) (h:=fun s=>some (s,x)) (x.Params.map hZ) (by rw[eQ];omega) s0 (fun n k s hk hs=>by
  rw[eQ]at hk
  show M.qu (n+1) s (k:Int) x=_
  rw[M.qu];have hm:=gk aV.sz x.Params x.Params[k] (de hk);have hu:=aV.cY x.Params[k];have ht:=uB 5 x.Params[k].Term;have hc:=FG k s;have ex:ai.re x=x:=ai.bZ x;have et:=MB x.Params[k].Term (by omega) (hp _ (de hk));have c0:=FH k (s:=s) (by omega);have c1:au x.Params[k].Name [58,32]=true:=bz (by simp only[aE,aL];omega);have c2:au (x.Params[k].Name++[58,32]) (cH 5 x.Params[k].Term)=true:=bz (by simp only[aG,aE,aL];omega);have c3:au (bif decide ((0:Int)<(k:Int))then s++[44,32]else s) ((x.Params[k].Name++[58,32])++cH 5 x.Params[k].Term)=true:=bz (by simp only[aG,aE,aL];omega);simp only[eO hk,bG,dw _ hk,ad,aa.bZ,et,an,ar,dB hk,c0,c1,c2,c3,ak,bh,cT hk (by omega:x.Params.length<2^62),ex,xj];rfl) (fun n s=>by
  show M.qu (n+1) s _ x=_
  rw[eQ,M.qu];simp only[Int.lt_irrefl,nc,al,ai.bZ])
theorem aiW(x:ai)(h:x.sz<=1048576)(hS:mZ x=true):M.Cj x=some (jX eJ x):=by
 have hz:=ai.cY x;have h1:=uB 5 x.Term;have h2:=Cd x.Uses;have h3:=Ce x.Params;have h4:=MC x;have h5:=qo x.From;have j1:=jy (x.Uses.map iK);have j2:=jy (x.Params.map hZ);have l1:=d3 List.length (x.Uses.map iK);have l2:=d3 List.length (x.Params.map hZ);have ep:M.ux x.From=some (eJ x.From):=Tj _ (by omega);unfold mZ at hS;simp only[bu,fb,lj,Bool.and_eq_false_iff,fa,bX,fO,fb,fa]at hS;obtain⟨⟨⟨hs1,hs2⟩,hs3⟩,hs4,hs5,hs6⟩:=hS;have hp:∀p∈x.Params,0<=b9 4 p.Term:=fun p hp=>by have:=hs4 p hp;omega
 have ex:ai.re x=x:=ai.bZ x;unfold M.Cj jX;cases hK1:(x.Kind==1)
 ·cases hK2:(x.Kind==2)
  ·cases hK4:(x.Kind==4)
   ·have hK3:(x.Kind==3)=true:=by
     rw[cO]at hK1 hK2 hK4;rw[cL];omega
    have ht:0<=b9 4 x.Term:=by
     rcases hs3 with q|⟨_,q⟩
     ·omega
     ·rw[hK3]at q;cases q
    have et:=MB x.Term (by omega) ht;have c1:au x.Name [58,32]=true:=bz (by simp only[aG,aE,aL];omega);have c2:au (x.Name++[58,32]) [97,115,121,110,99,32]=true:=bz (by simp only[aG,aE,aL];omega);have c3:au (nR x) [102,117,110,99,40]=true:=bz (by simp only[aG,aE,aL];omega);have c4:au ((nR x++[102,117,110,99,40])++jn (x.Params.map hZ)) [41]=true:=bz (by simp only[aG,aE,aL];omega);have c6:au [32,45,62,32] (cH 5 x.Term)=true:=bz (by simp only[aG,aE,aL];omega);have c7:au (((nR x++[102,117,110,99,40])++jn (x.Params.map hZ))++[41]) ([32,45,62,32]++cH 5 x.Term)=true:=bz (by simp only[aG,aE,aL];omega);simp only[al,ex];rw[show(bif x.Async then(x.Name++[58,32])++[97,115,121,110,99,32]else x.Name++[58,32])=nR x from rfl];rw[aiV x _ h (by simp only[aG,aE,aL];omega) hp];simp only[aa.bZ,et,an,ar,c1,c2,c3,c4,c6,c7,ak,bh,ad];unfold uE;cases (x.Term.Kind !=1)<;>simp only[ad,al,fN]
   ·have c1:au [117,115,101,32] (eJ x.From)=true:=bz (by simp only[aG,aE,aL];omega);have c2:au ([117,115,101,32]++eJ x.From) [46,123]=true:=bz (by simp only[aG,aE,aL];omega);have c4:au ((([117,115,101,32]++eJ x.From)++[46,123])++jn (x.Uses.map iK)) [125]=true:=bz (by simp only[aG,aE,aL];omega);have e:=aiU x (([117,115,101,32]++eJ x.From)++[46,123]) h (by simp only[aG,aE,aL];omega);simp only[al,ad,ex,ep,an,ar,e,c1,c2,c4,ak]
  ·have ht:0<=b9 4 x.Term:=by
    rcases hs3 with q|⟨q,_⟩
    ·omega
    ·rw[hK2]at q;cases q
   have et:=MB x.Term (by omega) ht;have c1:au [116,121,112,101,32] x.Name=true:=bz (by simp only[aG,aE,aL];omega);have c2:au ([116,121,112,101,32]++x.Name) [32,61,32]=true:=bz (by simp only[aG,aE,aL];omega);have c3:au (([116,121,112,101,32]++x.Name)++[32,61,32]) (cH 5 x.Term)=true:=bz (by simp only[aG,aE,aL];omega);simp only[al,ad,aa.bZ,et,an,ar,c1,c2,c3,ak]
 ·have c1:au [114,101,115,111,117,114,99,101,32] x.Name=true:=bz (by simp only[aG,aE,aL];omega);simp only[ad,c1,ak]
def po(p:aI):Prop:=p.ba=[]->p.Version=[]
theorem aiX(x:ai)(h:po x.From):jX eJ x=jX cE x:=by
 unfold jX;rw[Tm x.From h]
end M
namespace M
open Go.V (inB bN au ae aZ)
theorem lK{α:Type}(g:α->List UInt8):∀l:List α,((l.map g).flatten).length<=bJ (fun x=>(g x).length) l
 |[]=>by simp[bJ]
 |x::r=>by have:=lK g r;simp only[eR,List.flatten_cons,aG,bJ];omega
theorem uF{α Y:Type}{F:Nat->Int->List UInt8->Option Y}{h:List UInt8->Option Y}(g:α->List UInt8)(l:List α)(hn:l.length<=2097152)(s0:List UInt8)
 (step:∀f k s,∀hk:k<l.length,s.length<=s0.length+bJ (fun x=>(g x).length) l->F (f+1) (k:Int) s=F f ((k+1:Nat):Int) (s++g l[k]))
 (stop:∀f s,F (f+1) (l.length:Int) s=h s):F ae 0 s0=h (s0++(l.map g).flatten):=by
 have key:∀f k,k<=l.length->l.length-k<f->F f (k:Int) (s0++((l.take k).map g).flatten)=h (s0++(l.map g).flatten):=by
  intro f
  induction f with
  |zero=>intro k h1 h2;omega
  |succ f ih=>
   intro k h1 h2;rcases cU k l.length with hk|hk
   ·have hj:=lK g (l.take k);have ht:=L9 (fun x=>(g x).length) l k;rw[step f k _ hk (by rw[aG];omega)];have e:(s0++((l.take k).map g).flatten)++g l[k]=s0++((l.take (k+1)).map g).flatten:=by
     rw[nf,cJ hk,Option.toList_some,zO,List.flatten_append,fN];simp
    rw[e];exact ih (k+1) (by omega) (by omega)
   ·have:k=l.length:=by omega
    subst this;rw[stop,DC]
 have:=key ae 0 (cN _) (by have:=aZ;omega);simpa using this
theorem wi(s o:List UInt8)(h:o.length+s.length<=1073741824):M.pq s o=some (((s.length:Nat):Int),o++s):=by
 unfold M.pq;rw[List.map_id'];simp only[jW h,ak,ad]
def jz(pt:aI->List UInt8)(x:ai):List UInt8:=([32,32]++jX pt x)++[59,10]
def iL(pt:aI->List UInt8)(f:aF):List UInt8:=((([10,105,110,116,101,114,102,97,99,101,32]++f.Name)++[32,123,10])++(f.Items.map (jz pt)).flatten)++[125,10]
def jk:List (List UInt8):=[[105,109,112,111,114,116],[101,120,112,111,114,116],[105,110,99,108,117,100,101]]
def kY(K:Int):List UInt8:=bif decide (1<=K)&&decide (K<=3)then List.getD ([]::jk) K.toNat []else[]
def jA(pt:aI->List UInt8)(x:aN):List UInt8:=((([32,32]++kY x.Kind)++[32])++pt x.Path)++[59,10]
def worldT(pt:aI->List UInt8)(w:aS):List UInt8:=((([10,119,111,114,108,100,32]++w.Name)++[32,123,10])++(w.Items.map (jA pt)).flatten)++[125,10]
def firstT(x:ah):List UInt8:=((([112,97,99,107,97,103,101,32]++x.Name)++[64])++x.Version)++[59,10]
def gQ(pt:aI->List UInt8)(x:ah):List UInt8:=(firstT x++(x.aD.map (iL pt)).flatten)++(x.Worlds.map (worldT pt)).flatten
theorem FK(K:Int):(kY K).length<=7:=by
 unfold kY;have h:∀w∈([]::jk),w.length<=7:=by
  have:((([]:List UInt8)::jk).all fun w=>decide (w.length<=7))=true:=by decide
  intro w hw;simpa using fO.1 this w hw
 cases decide (1<=K)&&decide (K<=3)
 ·simp
 ·rw[ad];rcases cU K.toNat (List.length ([]::jk))with hk|hk
  ·rw[getD_lt hk];exact h _ (de hk)
  ·rw[gp,kA hk];simp
theorem aiY{pt:aI->List UInt8}(hp:∀p,(pt p).length<=p.sz+2)(x:ai):(jz pt x).length<=40*x.sz+44:=by
 have:=MD pt hp x;unfold jz;simp only[aG,aE,aL];omega
theorem yV{pt:aI->List UInt8}(hp:∀p,(pt p).length<=p.sz+2):∀l:List ai,bJ (fun x=>(jz pt x).length) l<=48*bJ ai.sz l
 |[]=>by simp[bJ]
 |x::r=>by have:=aiY hp x;have:=yV hp r;simp only[bJ];omega
theorem aiZ{pt:aI->List UInt8}(hp:∀p,(pt p).length<=p.sz+2)(f:aF):(iL pt f).length<=48*f.sz+16:=by
 have h1:=aF.cY f;have h2:=lK (jz pt) f.Items;have h3:=yV hp f.Items;unfold iL;simp only[aG,aE,aL];omega
theorem Cm{pt:aI->List UInt8}(hp:∀p,(pt p).length<=p.sz+2):∀l:List aF,bJ (fun x=>(iL pt x).length) l<=48*bJ aF.sz l
 |[]=>by simp[bJ]
 |x::r=>by have:=aiZ hp x;have:=Cm hp r;simp only[bJ];omega
theorem TI{pt:aI->List UInt8}(hp:∀p,(pt p).length<=p.sz+2)(x:aN):(jA pt x).length<=x.sz+14:=by
 have h1:=aN.cY x;have h2:=FK x.Kind;have h3:=hp x.Path;unfold jA;simp only[aG,aE,aL];omega
theorem yW{pt:aI->List UInt8}(hp:∀p,(pt p).length<=p.sz+2):∀l:List aN,bJ (fun x=>(jA pt x).length) l<=48*bJ aN.sz l
 |[]=>by simp[bJ]
 |x::r=>by have:=TI hp x;have:=yW hp r;simp only[bJ];omega
theorem ai0{pt:aI->List UInt8}(hp:∀p,(pt p).length<=p.sz+2)(f:aS):(worldT pt f).length<=48*f.sz+16:=by
 have h1:=aS.cY f;have h2:=lK (jA pt) f.Items;have h3:=yW hp f.Items;unfold worldT;simp only[aG,aE,aL];omega
theorem FM{pt:aI->List UInt8}(hp:∀p,(pt p).length<=p.sz+2):∀l:List aS,bJ (fun x=>(worldT pt x).length) l<=48*bJ aS.sz l
 |[]=>by simp[bJ]
 |x::r=>by have:=ai0 hp x;have:=FM hp r;simp only[bJ];omega
theorem ai1(a:List aF)(b c:Int)(x:ah)(l:List ai)(h:bJ ai.sz l<=1048576)(o:List UInt8)(ho:o.length<=300000000):M.qw a b c l ((l.length:Nat):Int) x ae 0 o=some (a,b,c,x,o++(l.map (jz cE)).flatten):=by
 have hl:=d3 ai.sz l;have hs:=yV nS l;exact uF (F:=fun n i s=>M.qw a b c l ((l.length:Nat):Int) x n i s) (h:=fun s=>some (a,b,c,x,s)) (jz cE) l (by omega) o (fun n k s hk hs'=>by
  show M.qw a b c l ((l.length:Nat):Int) x (n+1) (k:Int) s=_
  rw[M.qw];have hm:=gk ai.sz l l[k] (de hk);have hi:=MD cE nS l[k];have ex:∀y:ai,ai.re y=y:=ai.bZ;have et:=aiQ l[k] (by omega);have c1:au [32,32] (jX cE l[k])=true:=bz (by simp only[aE,aL];omega);have c2:au ([32,32]++jX cE l[k]) [59,10]=true:=bz (by simp only[aG,aE,aL];omega);have ew:=wi (([32,32]++jX cE l[k])++[59,10]) s (by simp only[aG,aE,aL];omega);simp only[eO hk,bG,dw _ hk,ad,ex,et,an,ar,dB hk,c1,c2,ew,ak,cT hk (by omega:l.length<2^62)];rfl) (fun n s=>by
  show M.qw a b c l ((l.length:Nat):Int) x (n+1) _ s=_
  rw[M.qw];simp only[Int.lt_irrefl,nc,al])
theorem ai2(x:ah)(l:List aF)(h:bJ aF.sz l<=1048576)(o:List UInt8)(ho:o.length<=100000000):M.qx ae l ((l.length:Nat):Int) 0 x o=some (x,o++(l.map (iL cE)).flatten):=by
 have hl:=d3 aF.sz l;have hs:=Cm nS l;exact uF (F:=fun n i s=>M.qx n l ((l.length:Nat):Int) i x s) (h:=fun s=>some (x,s)) (iL cE) l (by omega) o (fun n k s hk hs'=>by
  show M.qx (n+1) l ((l.length:Nat):Int) (k:Int) x s=_
  rw[M.qx];have hm:=gk aF.sz l l[k] (de hk);have hz:=aF.cY l[k];have hi:=lK (jz cE) l[k].Items;have hi2:=yV nS l[k].Items;have c1:au [10,105,110,116,101,114,102,97,99,101,32] l[k].Name=true:=bz (by simp only[aE,aL];omega);have c2:au ([10,105,110,116,101,114,102,97,99,101,32]++l[k].Name) [32,123,10]=true:=bz (by simp only[aG,aE,aL];omega);have w1:=wi (([10,105,110,116,101,114,102,97,99,101,32]++l[k].Name)++[32,123,10]) s (by simp only[aG,aE,aL];omega);have ei:=ai1 l ((l.length:Nat):Int) (k:Int) x l[k].Items (by omega) (s++(([10,105,110,116,101,114,102,97,99,101,32]++l[k].Name)++[32,123,10])) (by simp only[aG,aE,aL];omega);have w2:=wi [125,10] ((s++(([10,105,110,116,101,114,102,97,99,101,32]++l[k].Name)++[32,123,10]))++(l[k].Items.map (jz cE)).flatten) (by simp only[aG,aE,aL];omega);simp only[eO hk,bG,dw _ hk,ad,an,ar,dB hk,c1,c2,w1,w2,ei,ak,cT hk (by omega:l.length<2^62)];unfold iL;simp only[fN]) (fun n s=>by
  show M.qx (n+1) l ((l.length:Nat):Int) _ x s=_
  rw[M.qx];simp only[Int.lt_irrefl,nc,al])
theorem ai3(a:List aS)(b c:Int)(l:List aN)(h:bJ aN.sz l<=1048576)(o:List UInt8)(ho:o.length<=300000000):M.qy a b c l ((l.length:Nat):Int) ([]::jk) ae 0 o=some (a,b,c,[]::jk,o++(l.map (jA cE)).flatten):=by
 have hl:=d3 aN.sz l;have hs:=yW nS l;exact uF (F:=fun n i s=>M.qy a b c l ((l.length:Nat):Int) ([]::jk) n i s) (h:=fun s=>some (a,b,c,[]::jk,s)) (jA cE) l (by omega) o (fun n k s hk hs'=>by
  show M.qy a b c l ((l.length:Nat):Int) ([]::jk) (n+1) (k:Int) s=_
  rw[M.qy];have hm:=gk aN.sz l l[k] (de hk);have hz:=aN.cY l[k];have hi:=TI nS l[k];have hpl:=nS l[k].Path;have hww:=FK l[k].Kind;have et:=Ti l[k].Path (by omega);have c0:au [32,32] (kY l[k].Kind)=true:=bz (by simp only[aE,aL];omega);have c1:au ([32,32]++kY l[k].Kind) [32]=true:=bz (by simp only[aG,aE,aL];omega);have c2:au (([32,32]++kY l[k].Kind)++[32]) (cE l[k].Path)=true:=bz (by simp only[aG,aE,aL];omega);have c3:au ((([32,32]++kY l[k].Kind)++[32])++cE l[k].Path) [59,10]=true:=bz (by simp only[aG,aE,aL];omega);have ew:=wi (((([32,32]++kY l[k].Kind)++[32])++cE l[k].Path)++[59,10]) s (by simp only[aG,aE,aL];omega);have hw:(bif decide (1<=l[k].Kind)&&decide (l[k].Kind<=3)then List.getD ([]::jk) (Int.toNat l[k].Kind) []else[])=kY l[k].Kind:=rfl;have hib:((inB l[k].Kind (List.length ([]::jk))&&true)|| !(decide (1<=l[k].Kind)&&decide (l[k].Kind<=3)))=true:=by
   cases hq:(decide (1<=l[k].Kind)&&decide (l[k].Kind<=3))
   ·simp
   ·simp only[bu,bX]at hq;obtain⟨j,hj⟩:=ka (show 0<=l[k].Kind by omega);rw[hj,db,show List.length (([]:List UInt8)::jk)=4 from rfl,cM (show j<4 by omega)];rfl
  simp only[eO hk,bG,dw _ hk,ad,et,an,ar,dB hk,hw,ak,bh];simp only[c0,c1,c2,c3,ew,hib,an,ar,ak,ad,cT hk (by omega:l.length<2^62)];rfl) (fun n s=>by
  show M.qy a b c l ((l.length:Nat):Int) ([]::jk) (n+1) _ s=_
  rw[M.qy];simp only[Int.lt_irrefl,nc,al])
theorem ai5(l:List aS)(h:bJ aS.sz l<=1048576)(o:List UInt8)(ho:o.length<=200000000):M.qz ae l ((l.length:Nat):Int) 0 ([]::jk) o=some (o++(l.map (worldT cE)).flatten):=by
 have hl:=d3 aS.sz l;have hs:=FM nS l;exact uF (F:=fun n i s=>M.qz n l ((l.length:Nat):Int) i ([]::jk) s) (h:=fun s=>some s) (worldT cE) l (by omega) o (fun n k s hk hs'=>by
  show M.qz (n+1) l ((l.length:Nat):Int) (k:Int) ([]::jk) s=_
  rw[M.qz];have hm:=gk aS.sz l l[k] (de hk);have hz:=aS.cY l[k];have hi:=lK (jA cE) l[k].Items;have hi2:=yW nS l[k].Items;have c1:au [10,119,111,114,108,100,32] l[k].Name=true:=bz (by simp only[aE,aL];omega);have c2:au ([10,119,111,114,108,100,32]++l[k].Name) [32,123,10]=true:=bz (by simp only[aG,aE,aL];omega);have w1:=wi (([10,119,111,114,108,100,32]++l[k].Name)++[32,123,10]) s (by simp only[aG,aE,aL];omega);have ei:=ai3 l ((l.length:Nat):Int) (k:Int) l[k].Items (by omega) (s++(([10,119,111,114,108,100,32]++l[k].Name)++[32,123,10])) (by simp only[aG,aE,aL];omega);have w2:=wi [125,10] ((s++(([10,119,111,114,108,100,32]++l[k].Name)++[32,123,10]))++(l[k].Items.map (jA cE)).flatten) (by simp only[aG,aE,aL];omega);simp only[eO hk,bG,dw _ hk,ad,an,ar,dB hk,c1,c2,w1,w2,ei,ak,cT hk (by omega:l.length<2^62)];unfold worldT;simp only[fN]) (fun n s=>by
  show M.qz (n+1) l ((l.length:Nat):Int) _ ([]::jk) s=_
  rw[M.qz];simp only[Int.lt_irrefl,nc,al])
theorem ai6(x:ah)(h:x.sz<=1048576):M.uu x=some (gQ cE x):=by
 have hz:=ah.cY x;have f1:=lK (iL cE) x.aD;have f2:=Cm nS x.aD;have f3:=lK (worldT cE) x.Worlds;have f4:=FM nS x.Worlds;have c1:au [112,97,99,107,97,103,101,32] x.Name=true:=bz (by simp only[aG,aE,aL];omega);have c2:au ([112,97,99,107,97,103,101,32]++x.Name) [64]=true:=bz (by simp only[aG,aE,aL];omega);have c3:au (([112,97,99,107,97,103,101,32]++x.Name)++[64]) x.Version=true:=bz (by simp only[aG,aE,aL];omega);have c4:au ((([112,97,99,107,97,103,101,32]++x.Name)++[64])++x.Version) [59,10]=true:=bz (by simp only[aG,aE,aL];omega);have e0:((([112,97,99,107,97,103,101,32]++x.Name)++[64])++x.Version)++[59,10]=firstT x:=rfl;have fl:(firstT x).length<=1048700:=by unfold firstT;simp only[aG,aE,aL];omega
 have w:=wi (firstT x) [] (by simp only[aL];omega);have e1:=ai2 x x.aD (by omega) (firstT x) (by omega);have e2:=ai5 x.Worlds (by omega) (firstT x++(x.aD.map (iL cE)).flatten) (by simp only[aG];omega);have e3:M.tD (gQ cE x)=some (gQ cE x):=by
  unfold M.tD;have:(gQ cE x).length<=1073741824:=by unfold gQ;simp only[aG];omega
  rw[cM this];rfl
 unfold M.uu;simp only[e0,w,fB,an,ar,e1];rw[show([[],[(105:UInt8),(109:UInt8),(112:UInt8),(111:UInt8),(114:UInt8),(116:UInt8)],[(101:UInt8),(120:UInt8),(112:UInt8),(111:UInt8),(114:UInt8),(116:UInt8)],[(105:UInt8),(110:UInt8),(99:UInt8),(108:UInt8),(117:UInt8),(100:UInt8),(101:UInt8)]]:List (List UInt8))=[]::jk from rfl,e2];simp only[];rw[show(firstT x++(x.aD.map (iL cE)).flatten)++(x.Worlds.map (worldT cE)).flatten=gQ cE x from rfl,e3];simp only[c1,c2,c3,c4,an,ar,ak,ad]
end M
namespace M
open Go.V (inB bN au ae aZ)
def mn(f:aF):Bool:= !decide ((16:Int)<((f.Items.length:Nat):Int))&&f.Items.all mZ
def si(x:aN):Bool:=decide (1<=x.Kind)&&decide (x.Kind<=3)
def mo(w:aS):Bool:= !decide ((16:Int)<((w.Items.length:Nat):Int))&&w.Items.all si
def uG(x:ah):Bool:= !(decide ((8:Int)<((x.aD.length:Nat):Int))||decide ((8:Int)<((x.Worlds.length:Nat):Int)))&&(x.aD.all mn&&x.Worlds.all mo)
theorem TJ(x:ah)(i:Nat)(hi:i<x.aD.length)(hl:x.aD[i].Items.length<=16):∀(f k:Nat),x.aD[i].Items.length-k<f->k<=x.aD[i].Items.length->M.yX (i:Int) x f (k:Int)=some (bif(x.aD[i].Items.drop k).all mZ then .inr ((i:Int),x)else .inl false)
 |0,k,h,_=>by omega
 |f+1,k,h,hk=>by
  rw[M.yX];have ex:∀y:ai,ai.re y=y:=ai.bZ;simp only[bG,dw _ hi,dB hi];rcases cU k x.aD[i].Items.length with q|q
  ·have ih:=TJ x i hi hl f (k+1) (by omega) (by omega);rw[jw q,sU];simp only[eO q,bG,dw _ q,ex,aiT,an,ar,ad,dB q,ak,cT q (by omega:x.aD[i].Items.length<2^62),ih];cases mZ x.aD[i].Items[k]<;>rfl
  ·simp only[jj q,al,ak,ad];rw[List.drop_eq_nil_of_le q];rfl
theorem TK(x:ah)(hl:x.aD.length<=8):∀(f k:Nat),x.aD.length-k<f->k<=x.aD.length->M.yY f (k:Int) x=some (bif(x.aD.drop k).all mn then .inr x else .inl false)
 |0,k,h,_=>by omega
 |f+1,k,h,hk=>by
  rw[M.yY];rcases cU k x.aD.length with q|q
  ·have ih:=TK x hl f (k+1) (by omega) (by omega);rw[jw q,sU];simp only[eO q,bG,dw _ q,ad,dB q,ak];cases hc:decide ((16:Int)<((x.aD[k].Items.length:Nat):Int))
   ·have h16:x.aD[k].Items.length<=16:=by have:=of_decide_eq_false hc;omega
    have e:=TJ x k q h16 ae 0 (by have:=aZ;omega) (by omega);rw[show((0:Nat):Int)=0 from rfl,ig]at e;have es:mn x.aD[k]=x.aD[k].Items.all mZ:=by unfold mn;rw[hc];rfl
    simp only[al,e,es];cases x.aD[k].Items.all mZ
    ·rfl
    ·simp only[ad,bj,cT q (by omega:x.aD.length<2^62),ih]
   ·have es:mn x.aD[k]=false:=by unfold mn;rw[hc];rfl
    simp only[ad,es];rfl
  ·simp only[jj q,al];rw[List.drop_eq_nil_of_le q];rfl
theorem TL(x:ah)(i:Nat)(hi:i<x.Worlds.length)(hl:x.Worlds[i].Items.length<=16):∀(f k:Nat),x.Worlds[i].Items.length-k<f->k<=x.Worlds[i].Items.length->M.yZ (i:Int) x f (k:Int)=some (bif(x.Worlds[i].Items.drop k).all si then .inr ((i:Int),x)else .inl false)
 |0,k,h,_=>by omega
 |f+1,k,h,hk=>by
  rw[M.yZ];simp only[bG,dw _ hi,dB hi];rcases cU k x.Worlds[i].Items.length with q|q
  ·have ih:=TL x i hi hl f (k+1) (by omega) (by omega);rw[jw q,sU];have ew:(decide (1<=x.Worlds[i].Items[k].Kind)&&decide (x.Worlds[i].Items[k].Kind<=3))=si x.Worlds[i].Items[k]:=rfl;simp only[eO q,bG,dw _ q,ew,ad,dB q,ak,cT q (by omega:x.Worlds[i].Items.length<2^62),ih];cases si x.Worlds[i].Items[k]<;>rfl
  ·simp only[jj q,al,ak,ad];rw[List.drop_eq_nil_of_le q];rfl
theorem TM(x:ah)(hl:x.Worlds.length<=8):∀(f k:Nat),x.Worlds.length-k<f->k<=x.Worlds.length->M.y6 f (k:Int) x=some (bif(x.Worlds.drop k).all mo then .inr ()else .inl false)
 |0,k,h,_=>by omega
 |f+1,k,h,hk=>by
  rw[M.y6];rcases cU k x.Worlds.length with q|q
  ·have ih:=TM x hl f (k+1) (by omega) (by omega);rw[jw q,sU];simp only[eO q,bG,dw _ q,ad,dB q,ak];cases hc:decide ((16:Int)<((x.Worlds[k].Items.length:Nat):Int))
   ·have h16:x.Worlds[k].Items.length<=16:=by have:=of_decide_eq_false hc;omega
    have e:=TL x k q h16 ae 0 (by have:=aZ;omega) (by omega);rw[show((0:Nat):Int)=0 from rfl,ig]at e;have es:mo x.Worlds[k]=x.Worlds[k].Items.all si:=by unfold mo;rw[hc];rfl
    simp only[al,e,es];cases x.Worlds[k].Items.all si
    ·rfl
    ·simp only[ad,bj,cT q (by omega:x.Worlds.length<2^62),ih]
   ·have es:mo x.Worlds[k]=false:=by unfold mo;rw[hc];rfl
    simp only[ad,es];rfl
  ·simp only[jj q,al];rw[List.drop_eq_nil_of_le q];rfl
theorem ai7(x:ah):M.uv x=some (uG x):=by
 unfold M.uv uG;cases hc:(decide ((8:Int)<((x.aD.length:Nat):Int))||decide ((8:Int)<((x.Worlds.length:Nat):Int)))
 ·simp only[lj,fa]at hc;have e1:=TK x (by omega) ae 0 (by have:=aZ;omega) (by omega);have e2:=TM x (by omega) ae 0 (by have:=aZ;omega) (by omega);rw[show((0:Nat):Int)=0 from rfl,ig]at e1 e2;simp only[al,e1,bp,bj];cases x.aD.all mn
  ·rfl
  ·simp only[ad,e2,bj];cases x.Worlds.all mo<;>rfl
 ·rfl
theorem ai8(x:ah)(i:Nat)(hi:i<x.aD.length)(h:bJ ai.sz x.aD[i].Items<=1048576)(hS:x.aD[i].Items.all mZ=true)(o:List UInt8)(ho:o.length<=300000000):M.qA (i:Int) x ae o 0=some (o++(x.aD[i].Items.map (jz eJ)).flatten,(i:Int),x):=by
 have hl:=d3 ai.sz x.aD[i].Items;have hs:=yV qo x.aD[i].Items;exact uF (F:=fun n k s=>M.qA (i:Int) x n s k) (h:=fun s=>some (s,(i:Int),x)) (jz eJ) x.aD[i].Items (by omega) o (fun n k s hk hs'=>by
  show M.qA (i:Int) x (n+1) s (k:Int)=_
  rw[M.qA];have hm:=gk ai.sz x.aD[i].Items x.aD[i].Items[k] (de hk);have hi2:=MD eJ qo x.aD[i].Items[k];have ex:∀y:ai,ai.re y=y:=ai.bZ;have et:=aiW x.aD[i].Items[k] (by omega) (fO.1 hS _ (de hk));have c1:au [32,32] (jX eJ x.aD[i].Items[k])=true:=bz (by simp only[aE,aL];omega);have c2:au ([32,32]++jX eJ x.aD[i].Items[k]) [59,10]=true:=bz (by simp only[aG,aE,aL];omega);have c3:au s (([32,32]++jX eJ x.aD[i].Items[k])++[59,10])=true:=bz (by simp only[aG,aE,aL];omega);simp only[bG,dw _ hi,dB hi];simp only[eO hk,bG,dw _ hk,ad,ex,et,an,ar,dB hk,c1,c2,c3,ak,cT hk (by omega:x.aD[i].Items.length<2^62)];rfl) (fun n s=>by
  show M.qA (i:Int) x (n+1) s _=_
  rw[M.qA];simp only[bG,dw _ hi,dB hi,Int.lt_irrefl,nc,al,ak,ad])
theorem ai9(x:ah)(h:bJ aF.sz x.aD<=1048576)(hS:x.aD.all mn=true)(o:List UInt8)(ho:o.length<=100000000):M.qB ae o 0 x=some (o++(x.aD.map (iL eJ)).flatten,x):=by
 have hl:=d3 aF.sz x.aD;have hs:=Cm qo x.aD;exact uF (F:=fun n k s=>M.qB n s k x) (h:=fun s=>some (s,x)) (iL eJ) x.aD (by omega) o (fun n k s hk hs'=>by
  show M.qB (n+1) s (k:Int) x=_
  rw[M.qB];have hm:=gk aF.sz x.aD x.aD[k] (de hk);have hz:=aF.cY x.aD[k];have hi:=lK (jz eJ) x.aD[k].Items;have hi2:=yV qo x.aD[k].Items;have hF:=fO.1 hS _ (de hk);unfold mn at hF;have c1:au [10,105,110,116,101,114,102,97,99,101,32] x.aD[k].Name=true:=bz (by simp only[aE,aL];omega);have c2:au ([10,105,110,116,101,114,102,97,99,101,32]++x.aD[k].Name) [32,123,10]=true:=bz (by simp only[aG,aE,aL];omega);have c3:au s (([10,105,110,116,101,114,102,97,99,101,32]++x.aD[k].Name)++[32,123,10])=true:=bz (by simp only[aG,aE,aL];omega);have ei:=ai8 x k hk (by omega) (Bool.and_eq_true_iff.1 hF).2 (s++(([10,105,110,116,101,114,102,97,99,101,32]++x.aD[k].Name)++[32,123,10])) (by simp only[aG,aE,aL];omega);have c4:au ((s++(([10,105,110,116,101,114,102,97,99,101,32]++x.aD[k].Name)++[32,123,10]))++(x.aD[k].Items.map (jz eJ)).flatten) [125,10]=true:=bz (by simp only[aG,aE,aL];omega);simp only[eO hk,bG,dw _ hk,ad,dB hk,c1,c2,c3,c4,ei,ak,cT hk (by omega:x.aD.length<2^62)];unfold iL;simp only[fN]) (fun n s=>by
  show M.qB (n+1) s _ x=_
  rw[M.qB];simp only[Int.lt_irrefl,nc,al])
theorem wwS{K:Int}(h:(decide (1<=K)&&decide (K<=3))=true):List.getD (Option.getD M.jV default) (Int.toNat (Go.IntKind.wrap .i64 (K-1))) []=kY K/\inB (Go.IntKind.wrap .i64 (K-1)) (Option.getD M.jV default).length=true:=by
 have hc:=h;simp only[bu,bX]at h;rw[wrap_i64 (by omega) (by omega),show Option.getD M.jV default=jk from rfl];obtain⟨n,hn⟩:=ka (show 0<=K-1 by omega);have hK:K=((n+1:Nat):Int):=by omega
 subst hK;unfold kY;rw[hc,ad,hn,bG,bG,db,bX,show jk.length=3 from rfl];exact⟨rfl,by omega⟩
theorem ajb(x:ah)(i:Nat)(hi:i<x.Worlds.length)(h:bJ aN.sz x.Worlds[i].Items<=1048576)(hS:x.Worlds[i].Items.all si=true)(o:List UInt8)(ho:o.length<=300000000):M.qC (i:Int) x ae o 0=some (o++(x.Worlds[i].Items.map (jA eJ)).flatten,(i:Int),x):=by
 have hl:=d3 aN.sz x.Worlds[i].Items;have hs:=yW qo x.Worlds[i].Items;exact uF (F:=fun n k s=>M.qC (i:Int) x n s k) (h:=fun s=>some (s,(i:Int),x)) (jA eJ) x.Worlds[i].Items (by omega) o (fun n k s hk hs'=>by
  show M.qC (i:Int) x (n+1) s (k:Int)=_
  rw[M.qC];have hm:=gk aN.sz x.Worlds[i].Items x.Worlds[i].Items[k] (de hk);have hz:=aN.cY x.Worlds[i].Items[k];have hpl:=qo x.Worlds[i].Items[k].Path;have hww:=FK x.Worlds[i].Items[k].Kind;have et:=Tj x.Worlds[i].Items[k].Path (by omega);obtain⟨w1,w2⟩:=wwS (fO.1 hS _ (de hk):(decide (1<=x.Worlds[i].Items[k].Kind)&&decide (x.Worlds[i].Items[k].Kind<=3))=true);have w3:Option.isSome M.jV=true:=rfl;have c0:au [32,32] (kY x.Worlds[i].Items[k].Kind)=true:=bz (by simp only[aE,aL];omega);have c1:au ([32,32]++kY x.Worlds[i].Items[k].Kind) [32]=true:=bz (by simp only[aG,aE,aL];omega);have c2:au (([32,32]++kY x.Worlds[i].Items[k].Kind)++[32]) (eJ x.Worlds[i].Items[k].Path)=true:=bz (by simp only[aG,aE,aL];omega);have c3:au ((([32,32]++kY x.Worlds[i].Items[k].Kind)++[32])++eJ x.Worlds[i].Items[k].Path) [59,10]=true:=bz (by simp only[aG,aE,aL];omega);have c4:au s (((([32,32]++kY x.Worlds[i].Items[k].Kind)++[32])++eJ x.Worlds[i].Items[k].Path)++[59,10])=true:=bz (by simp only[aG,aE,aL];omega);simp only[bG,dw _ hi,dB hi];simp only[eO hk,bG,dw _ hk,ad,et,an,ar,dB hk,w1,w2,w3,c0,c1,c2,c3,c4,ak,cT hk (by omega:x.Worlds[i].Items.length<2^62)];rfl) (fun n s=>by
  show M.qC (i:Int) x (n+1) s _=_
  rw[M.qC];simp only[bG,dw _ hi,dB hi,Int.lt_irrefl,nc,al,ak,ad])
theorem ajc(x:ah)(h:bJ aS.sz x.Worlds<=1048576)(hS:x.Worlds.all mo=true)(o:List UInt8)(ho:o.length<=200000000):M.qD ae o 0 x=some (o++(x.Worlds.map (worldT eJ)).flatten):=by
 have hl:=d3 aS.sz x.Worlds;have hs:=FM qo x.Worlds;exact uF (F:=fun n k s=>M.qD n s k x) (h:=fun s=>some s) (worldT eJ) x.Worlds (by omega) o (fun n k s hk hs'=>by
  show M.qD (n+1) s (k:Int) x=_
  rw[M.qD];have hm:=gk aS.sz x.Worlds x.Worlds[k] (de hk);have hz:=aS.cY x.Worlds[k];have hi:=lK (jA eJ) x.Worlds[k].Items;have hi2:=yW qo x.Worlds[k].Items;have hF:=fO.1 hS _ (de hk);unfold mo at hF;have c1:au [10,119,111,114,108,100,32] x.Worlds[k].Name=true:=bz (by simp only[aE,aL];omega);have c2:au ([10,119,111,114,108,100,32]++x.Worlds[k].Name) [32,123,10]=true:=bz (by simp only[aG,aE,aL];omega);have c3:au s (([10,119,111,114,108,100,32]++x.Worlds[k].Name)++[32,123,10])=true:=bz (by simp only[aG,aE,aL];omega);have ei:=ajb x k hk (by omega) (Bool.and_eq_true_iff.1 hF).2 (s++(([10,119,111,114,108,100,32]++x.Worlds[k].Name)++[32,123,10])) (by simp only[aG,aE,aL];omega);have c4:au ((s++(([10,119,111,114,108,100,32]++x.Worlds[k].Name)++[32,123,10]))++(x.Worlds[k].Items.map (jA eJ)).flatten) [125,10]=true:=bz (by simp only[aG,aE,aL];omega);simp only[eO hk,bG,dw _ hk,ad,dB hk,c1,c2,c3,c4,ei,ak,cT hk (by omega:x.Worlds.length<2^62)];unfold worldT;simp only[fN]) (fun n s=>by
  show M.qD (n+1) s _ x=_
  rw[M.qD];simp only[Int.lt_irrefl,nc,al])
theorem TN(x:ah)(h:x.sz<=1048576)(hS:uG x=true):M.qn x=some (gQ eJ x):=by
 have hz:=ah.cY x;unfold uG at hS;rw[bu,bu]at hS;have f1:=lK (iL eJ) x.aD;have f2:=Cm qo x.aD;have c1:au [112,97,99,107,97,103,101,32] x.Name=true:=bz (by simp only[aG,aE,aL];omega);have c2:au ([112,97,99,107,97,103,101,32]++x.Name) [64]=true:=bz (by simp only[aG,aE,aL];omega);have c3:au (([112,97,99,107,97,103,101,32]++x.Name)++[64]) x.Version=true:=bz (by simp only[aG,aE,aL];omega);have c4:au ((([112,97,99,107,97,103,101,32]++x.Name)++[64])++x.Version) [59,10]=true:=bz (by simp only[aG,aE,aL];omega);have e0:((([112,97,99,107,97,103,101,32]++x.Name)++[64])++x.Version)++[59,10]=firstT x:=rfl;have fl:(firstT x).length<=1048700:=by unfold firstT;simp only[aG,aE,aL];omega
 have e1:=ai9 x (by omega) hS.2.1 (firstT x) (by omega);have e2:=ajc x (by omega) hS.2.2 (firstT x++(x.aD.map (iL eJ)).flatten) (by simp only[aG];omega);unfold M.qn;simp only[e0,e1,e2,c1,c2,c3,c4,ak,ad];rfl
def ME(x:ah):Prop:=(∀f∈x.aD,∀i∈f.Items,po i.From)/\∀w∈x.Worlds,∀i∈w.Items,po i.Path
theorem ajd(x:ah)(h:ME x):gQ eJ x=gQ cE x:=by
 unfold gQ;have e1:x.aD.map (iL eJ)=x.aD.map (iL cE):=by
  apply List.map_congr_left;intro f hf;unfold iL;rw[List.map_congr_left (g:=jz cE) fun i hi=>by unfold jz;rw[aiX i (h.1 f hf i hi)]]
 have e2:x.Worlds.map (worldT eJ)=x.Worlds.map (worldT cE):=by
  apply List.map_congr_left;intro f hf;unfold worldT;rw[List.map_congr_left (g:=jA cE) fun i hi=>by unfold jA;rw[Tm i.Path (h.2 f hf i hi)]]
 rw[e1,e2]
end M
namespace M
open Go.V (inB bN au ae aZ)
def dE(u:Bool)(g:aa->Int)(x:aa):Int:=bif u&&(x.Kind==1)then 1 else g x
def eY{α:Type}(w:α->Int):List α->Int
 |[]=>0
 |x::r=>w x+eY w r
theorem MF{α:Type}(w:α->Int):∀a b:List α,eY w (a++b)=eY w a+eY w b
 |[],b=>by simp[eY]
 |x::a,b=>by rw[ow,eY,eY,MF w a b];omega
theorem FN{α:Type}(w:α->Int):∀l:List α,(∀x∈l,0<=w x)->0<=eY w l
 |[],_=>by simp[eY]
 |x::r,h=>by have:=h x (by simp);have:=FN w r fun y hy=>h y (by simp[hy]);rw[eY];omega
theorem TP(g:aa->Int)(u:Bool):∀(l:List aa)(s:Int),(∀x∈l,0<=dE u g x)->s+eY (dE u g) l<=12000->lJ g u l s=s+eY (dE u g) l
 |[],s,_,_=>by simp[lJ,eY]
 |x::r,s,h,hs=>by
  have h1:=h x (by simp);have h2:=FN (dE u g) r fun y hy=>h y (by simp[hy])
  rw[eY]at hs⊢;have ih:=fun s'=>TP g u r s' fun y hy=>h y (by simp[hy])
  rw[lJ];unfold dE at h1 hs⊢;cases hu:(u&&(x.Kind==1))<;>rw[hu]at h1 hs
  ·simp only[al]at h1 hs⊢;rw[ct (show ¬g x<0 by omega),ct (show ¬12000<s by unfold dE at h2;omega),lP,al];have:=ih (s+g x);unfold dE at this;rw[this (by omega)];omega
  ·simp only[ad]at h1 hs⊢;have:=ih (s+1);unfold dE at this;rw[this (by omega)];omega
theorem CB(d:Nat)(t:aa)(h1:t.bq.length<=16)(h2:t.Kids.length<=16)(h3:t.Name.length<=12)(hk:pj t.Kind=true)(hlo:mm t.Kind ((t.bq.length:Nat):Int)<=((t.Kids.length:Nat):Int))(hhi:((t.Kids.length:Nat):Int)<=kX t.Kind ((t.bq.length:Nat):Int))
 (hc:∀x∈t.Kids,0<=dE (dx t.Kind) (b9 d) x) (hs:1+eY (dE (dx t.Kind) (b9 d)) t.Kids<=12000):b9 (d+1) t=1+eY (dE (dx t.Kind) (b9 d)) t.Kids:=by
 rw[b9,ct (show ¬(16:Int)<((t.bq.length:Nat):Int) by omega),ct (show ¬(16:Int)<((t.Kids.length:Nat):Int) by omega),ct (show ¬(12:Int)<((t.Name.length:Nat):Int) by omega),hk,cM hlo,cM hhi];exact TP _ _ _ _ hc hs
theorem TQ{l:List aj}{k:Nat}(h:l.length<=k):bU l k=aj.zero:=by
 unfold bU;rw[gp,kA h];rfl
theorem TR{l:List aj}{t:List UInt8}{k:Nat}(ht:t≠[])(h:aC l t k=true):k<l.length:=by
 rcases cU k l.length with q|q
 ·exact q
 ·unfold aC at h;rw[TQ q,bu]at h;exact absurd (cL.1 h.2).symm ht
theorem TS{l:List aj}{k:Nat}(h:f6 l k=true):k<l.length:=by
 rcases cU k l.length with q|q
 ·exact q
 ·unfold f6 at h;rw[TQ q,bu]at h;exact absurd (cL.1 h.1) (by show ¬(0:Int)=1;decide)
theorem pv{l:List aj}{t:List UInt8}(ht:t≠[]){k k':Nat}{v:Unit}(h:cA l t k=.ok v k'):k'=k+1/\k'<=l.length:=by
 unfold cA at h;cases hb:aC l t k<;>rw[hb]at h<;>cases h;exact⟨rfl,TR ht hb⟩
theorem TU{l:List aj}{k:Nat}(h:f6 l k=true):(bU l k).Text.length<=12:=by
 unfold f6 l7 at h;simp only[bu,bX]at h;exact h.2.2.1.2
theorem TV{l:List aj}{k k':Nat}{v:List UInt8}(h:g9 l k=.ok v k'):k'=k+1/\k'<=l.length/\v.length<=12:=by
 unfold g9 at h;cases hb:f6 l k<;>rw[hb]at h<;>cases h;exact⟨rfl,TS hb,TU hb⟩
theorem aje{l:List aj}{k k':Nat}{v:List UInt8}(h:mT l k=.ok v k'):k'=k+1/\k'<=l.length/\v.length<=12:=by
 unfold mT at h;cases hb:l8 l k<;>rw[hb]at h<;>cases h;unfold l8 at hb;rw[bu]at hb;exact⟨rfl,TS hb.1,TU hb.1⟩
theorem MG{α:Type}{P:α->Prop}{w:α->Int}(l:List aj)(el:Nat->PR α)(he:∀(k:Nat)(v:α)(k':Nat),el k=.ok v k'->k<k'/\k'<=l.length/\P v/\0<=w v/\w v<=3*((k':Int)-(k:Int))):
 ∀(m:Nat)(acc:List α)(k:Nat)(vs:List α)(k':Nat),(∀v∈acc,P v/\0<=w v)->dZ l el m acc k=.ok vs k'->k<k'/\k'<=l.length/\acc.length+1<=vs.length/\vs.length<=acc.length+m+1/\(∀v∈vs,P v/\0<=w v)/\eY w vs<=eY w acc+3*((k':Int)-(k:Int))
 |m,acc,k,vs,k',ha,h=>by
  rw[dZ.eq_def]at h;dsimp only at h;cases hk:el k with
  |no q=>rw[hk]at h;cases h
  |ok v k1=>
   rw[hk]at h;obtain⟨g1,g2,g3,g4,g5⟩:=he _ _ _ hk;have one:∀y∈acc++[v],P y/\0<=w y:=fun y hy=>by
    rcases df.1 hy with q|q
    ·exact ha y q
    ·rw[ej.1 q];exact⟨g3,g4⟩
   have es:eY w (acc++[v])=eY w acc+w v:=by rw[MF];simp[eY]
   have TW:(acc++[v]).length=acc.length+1:=by simp
   cases m with
   |zero=>
    cases h;exact⟨g1,g2,by omega,by omega,one,by rw[es];omega⟩
   |succ m=>
    simp only at h;cases hc:aC l [44] k1<;>rw[hc]at h
    ·cases h;exact⟨g1,g2,by omega,by omega,one,by rw[es];omega⟩
    ·obtain⟨r1,r2,r3,r4,r5,r6⟩:=MG l el he m (acc++[v]) (k1+1) vs k' one h;rw[es]at r6;exact⟨by omega,r2,by omega,by omega,r5,by omega⟩
def MH(K:Int)(d:Nat)(v:List UInt8×List aa):Prop:=((K=16\/K=17)->v.2.length=1)/\((K≠16/\K≠17)->v.2=[])/\∀x∈v.2,0<=dE (dx K) (b9 d) x
def qE(K:Int)(d:Nat)(v:List UInt8×List aa):Int:=eY (dE (dx K) (b9 d)) v.2
theorem CC{K:Int}{d:Nat}{t:aa}{c:Int}(h1:1<=b9 d t)(h2:b9 d t<=c)(hc:1<=c):0<=dE (dx K) (b9 d) t/\dE (dx K) (b9 d) t<=c:=by
 unfold dE;cases (dx K&&(t.Kind==1))<;>simp only[ad,al]<;>omega
theorem TX{K:Int}{d:Nat}(h:dx K=true):dE (dx K) (b9 d) dI=1:=by
 unfold dE;rw[h];rfl
theorem ajf{l:List aj}{K:Int}{d:Nat}(ih:∀(k:Nat)(t:aa)(k':Nat),d6 l d k=.ok t k'->k<k'/\k'<=l.length/\1<=b9 d t/\b9 d t<=3*((k':Int)-(k:Int))){k k':Nat}{v:List UInt8×List aa}(h:gK l K (d6 l d) k=.ok v k'):k<k'/\k'<=l.length/\MH K d v/\0<=qE K d v/\qE K d v<=3*((k':Int)-(k:Int)):=by
 unfold gK at h;obtain⟨w,k1,hw,h⟩:=bind_ok h;obtain⟨n1,n2,_⟩:=TV hw;have fin:∀(t:aa)(c:Int),0<=dE (dx K) (b9 d) t/\dE (dx K) (b9 d) t<=c->(K=16\/K=17)->MH K d (w,[t])/\0<=qE K d (w,[t])/\qE K d (w,[t])<=c:=fun t c hc hK=>by
  have e:qE K d (w,[t])=dE (dx K) (b9 d) t:=by unfold qE;simp[eY]
  rw[e];exact⟨⟨fun _=>rfl,fun q=>by omega,fun x hx=>by rw[ej.1 hx];exact hc.1⟩,hc.1,hc.2⟩
 cases h16:(K==(16:Int))<;>rw[h16]at h
 ·cases h17:(K==(17:Int))<;>rw[h17]at h
  ·cases h;rw[cO]at h16 h17;refine⟨by omega,n2,⟨fun q=>by omega,fun _=>rfl,fun x hx=>by cases hx⟩,?_,?_⟩
   ·show(0:Int)<=0;omega
   ·show(0:Int)<=_;omega
  ·have e17:=cL.1 h17;simp only[al,ad]at h;cases hc:aC l [40] k1<;>rw[hc]at h
   ·cases h;refine⟨by omega,n2,fin dI _ ?_ (.inr e17)⟩;rw[TX (by rw[e17];rfl)];omega
   ·obtain⟨t0,k3,h0,h⟩:=bind_ok h;obtain⟨_,k4,h4,h⟩:=bind_ok h;cases h;obtain⟨a1,a2,a3,a4⟩:=ih _ _ _ h0;obtain⟨b1,b2⟩:=pv (by decide) h4;exact⟨by omega,b2,fin t0 _ (CC a3 (by omega) (by omega)) (.inr e17)⟩
 ·obtain⟨_,k2,h2,h⟩:=bind_ok h;obtain⟨t0,k3,h0,h⟩:=bind_ok h;cases h;obtain⟨a1,a2,a3,a4⟩:=ih _ _ _ h0;obtain⟨b1,b2⟩:=pv (by decide) h2;exact⟨by omega,a2,fin t0 _ (CC a3 (by omega) (by omega)) (.inl (cL.1 h16))⟩
theorem MI{α β:Type}{w:β->Int}:∀(ps:List (α×List β)),(∀v∈ps,v.2.length=1)->(ps.map (·.2)).flatten.length=ps.length
 |[],_=>rfl
 |p::r,h=>by rw[eR,List.flatten_cons,aG,h p (by simp),MI (w:=w) r fun v hv=>h v (by simp[hv]),aE];omega
theorem flat_nil{α β:Type}:∀(ps:List (α×List β)),(∀v∈ps,v.2=[])->(ps.map (·.2)).flatten=[]
 |[],_=>rfl
 |p::r,h=>by rw[eR,List.flatten_cons,h p (by simp),flat_nil r fun v hv=>h v (by simp[hv])];rfl
theorem TY{α β:Type}(w:β->Int):∀(ps:List (α×List β)),eY w (ps.map (·.2)).flatten=eY (fun v=>eY w v.2) ps
 |[]=>rfl
 |p::r=>by rw[eR,List.flatten_cons,MF,TY w r,eY]
theorem ajg{l:List aj}{d:Nat}(ih:∀(k:Nat)(t:aa)(k':Nat),d6 l d k=.ok t k'->k<k'/\k'<=l.length/\1<=b9 d t/\b9 d t<=3*((k':Int)-(k:Int))){k k':Nat}{v:List aa}(hk:k<=l.length)(h:oS l (d6 l d) k=.ok v k'):
 k<=k'/\k'<=l.length/\∃a b,v=[a,b]/\0<=dE (dx 14) (b9 d) a/\0<=dE (dx 14) (b9 d) b/\(dE (dx 14) (b9 d) a+dE (dx 14) (b9 d) b<=2\/dE (dx 14) (b9 d) a+dE (dx 14) (b9 d) b<=3*((k':Int)-(k:Int))-5):=by
 unfold oS at h;have hu:dE (dx 14) (b9 d) dI=1:=TX rfl;cases h60:aC l [60] k<;>rw[h60]at h
 ·cases h;exact⟨by omega,hk,dI,dI,rfl,by omega,by omega,by omega⟩
 ·simp only[ad]at h;have l60:=TR (by decide) h60;obtain⟨a,k1,ha,h⟩:=bind_ok h;obtain⟨b,k2,hb,h⟩:=bind_ok h;obtain⟨_,k3,h3,h⟩:=bind_ok h;cases h;obtain⟨n1,n2⟩:=pv (by decide) h3;have pa:k+1<k1/\0<=dE (dx 14) (b9 d) a/\dE (dx 14) (b9 d) a<=3*((k1:Int)-(k:Int))-3:=by
   cases h95:aC l [95] (k+1)<;>rw[h95]at ha
   ·obtain⟨a1,a2,a3,a4⟩:=ih _ _ _ ha;exact⟨by omega,CC a3 (by omega) (by omega)⟩
   ·cases ha;exact⟨by omega,by omega,by omega⟩
  have pb:k1<=k2/\0<=dE (dx 14) (b9 d) b/\dE (dx 14) (b9 d) b<=1+3*((k2:Int)-(k1:Int)):=by
   cases ji:aC l [44] k1<;>rw[ji]at hb
   ·cases hb;exact⟨by omega,by omega,by omega⟩
   ·obtain⟨a1,a2,a3,a4⟩:=ih _ _ _ hb;exact⟨by omega,CC a3 (by omega) (by omega)⟩
  exact⟨by omega,n2,a,b,rfl,pa.2.1,pb.2.1,by omega⟩
theorem FO(l:List aj)(hl:l.length<=4001):∀(d k:Nat)(t:aa)(k':Nat),d6 l d k=.ok t k'->k<k'/\k'<=l.length/\1<=b9 d t/\b9 d t<=3*((k':Int)-(k:Int))
 |0,k,t,k',h=>by cases h
 |d+1,k,t,k',h=>by
  rw[d6]at h;obtain⟨w,k1,hw,h⟩:=bind_ok h;obtain⟨n1,n2,n3⟩:=TV hw;have ih:=FO l hl d;have hb:=EV w;generalize dO w=K at h hb;have leaf:∀(K':Int)(nm:List UInt8),nm.length<=12->pj K'=true->mm K' 0=0->kX K' 0=0->b9 (d+1) (aa.mk K' nm [] [])=1:=fun K' nm hn hk h1 h2=>by
   have:=CB d (aa.mk K' nm [] []) (cN 16) (cN 16) hn hk (by show mm K' 0<=0;omega) (by show 0<=kX K' 0;omega) (fun x hx=>by cases hx) (by show(1:Int)+0<=12000;omega);rw[this];rfl
  cases c0:(K==0)<;>rw[c0]at h
  ·simp only[al]at h;cases c1:((K==12)||((K==13)||((K==22)||(K==23))))<;>rw[c1]at h
   ·simp only[al]at h;cases c2:(K==15)<;>rw[c2]at h
    ·simp only[al]at h;cases c3:((K==20)||(K==21))<;>rw[c3]at h
     ·simp only[al]at h;cases c4:(K==14)<;>rw[c4]at h
      ·simp only[al]at h;cases c5:((K==16)||((K==17)||((K==18)||(K==19))))<;>rw[c5]at h
       ·cases h;have hK:pj K=true:=by
         unfold pj;rw[cO]at c0;rw[cM (show(1:Int)<=K by omega),cM (show K<=23 by omega)];rfl
        have c1':B7 K=false:=c1;have c6:((K==16)||(K==17))=false:=by
         simp only[lj]at c5⊢;exact⟨c5.1,c5.2.1⟩
        have e:=leaf K [] (by simp) hK (by unfold mm;rw[c1',c4,c2,c6];rfl) (by unfold kX;rw[c1',c4,c2,c6];rfl);rw[e];exact⟨by omega,n2,by omega,by omega⟩
       ·simp only[ad]at h;obtain⟨_,k2,h2,h⟩:=bind_ok h;obtain⟨ps,k3,hp,h⟩:=bind_ok h;obtain⟨_,k4,h4,h⟩:=bind_ok h;cases h;obtain⟨m1,m2⟩:=pv (by decide) h2;obtain⟨m3,m4⟩:=pv (by decide) h4;obtain⟨r1,r2,r3,r4,r5,r6⟩:=MG (P:=MH K d) (w:=qE K d) l _ (fun k v k' hv=>ajf ih hv) 15 [] _ ps _ (fun v hv=>by cases hv) hp;simp only[aL]at r3 r4;have e0:eY (qE K d) []=0:=rfl;rw[e0]at r6;have hK:K=16\/K=17\/K=18\/K=19:=by simpa only[gu,cL]using c5
        have MJ:pj K=true:=by rcases hK with e|e|e|e<;>rw[e]<;>rfl
        have TZ:eY (dE (dx K) (b9 d)) (ps.map (·.2)).flatten=eY (qE K d) ps:=TY _ ps;have hlen:(((ps.map (·.2)).flatten.length:Nat):Int)=mm K ((ps.length:Nat):Int)/\(((ps.map (·.2)).flatten.length:Nat):Int)=kX K ((ps.length:Nat):Int)/\(ps.map (·.2)).flatten.length<=16:=by
         rcases hK with e|e|e|e
         ·have:=MI (w:=fun _=>0) ps fun v hv=>(r5 v hv).1.1 (.inl e)
          rw[this,e];exact⟨rfl,rfl,by omega⟩
         ·have:=MI (w:=fun _=>0) ps fun v hv=>(r5 v hv).1.1 (.inr e)
          rw[this,e];exact⟨rfl,rfl,by omega⟩
         ·have:=flat_nil ps fun v hv=>(r5 v hv).1.2.1 (by omega)
          rw[this,e];exact⟨rfl,rfl,by simp⟩
         ·have:=flat_nil ps fun v hv=>(r5 v hv).1.2.1 (by omega)
          rw[this,e];exact⟨rfl,rfl,by simp⟩
        have hnn:=FN (qE K d) ps fun v hv=>(r5 v hv).2
        have e:=CB d (aa.mk K [] (ps.map (·.1)) (ps.map (·.2)).flatten) (by show(ps.map (·.1)).length<=16;rw[eQ];omega) (by show(ps.map (·.2)).flatten.length<=16;exact hlen.2.2) (cN 12) MJ
         (by show mm K (((ps.map (·.1)).length:Nat):Int)<=_;rw[eQ];exact Int.le_of_eq hlen.1.symm)
         (by show _<=kX K (((ps.map (·.1)).length:Nat):Int);rw[eQ];exact Int.le_of_eq hlen.2.1)
         (fun x hx=>by
           obtain⟨q,hq,hx⟩:=List.mem_flatten.1 hx;obtain⟨v,hv,rfl⟩:=List.mem_map.1 hq;exact(r5 v hv).1.2.2 x hx)
         (by show 1+eY (dE (dx K) (b9 d)) (ps.map (·.2)).flatten<=12000;rw[TZ];omega)
        have e:b9 (d+1) (aa.mk K [] (ps.map (·.1)) (ps.map (·.2)).flatten)=1+eY (dE (dx K) (b9 d)) (ps.map (·.2)).flatten:=e;rw[e,TZ];exact⟨by omega,m4,by omega,by omega⟩
      ·have e14:=cL.1 c4;subst e14;simp only[ad]at h;obtain⟨ts,k2,hp,h⟩:=bind_ok h;cases h;obtain⟨r1,r2,a,b,rfl,ra,rb,rs⟩:=ajg ih n2 hp;have e:=CB d (aa.mk 14 [] [] [a,b]) (cN 16) (by show 2<=16;omega) (cN 12) rfl (by show(2:Int)<=2;omega) (by show(2:Int)<=2;omega)
        (fun x hx=>by
          have hx:x∈[a,b]:=hx;simp only[fe,sR,zQ]at hx;rcases hx with q|q<;>rw[q]<;>assumption)
        (by show 1+(dE (dx 14) (b9 d) a+(dE (dx 14) (b9 d) b+0))<=12000;omega)
       have e:b9 (d+1) (aa.mk 14 [] [] [a,b])=1+(dE (dx 14) (b9 d) a+(dE (dx 14) (b9 d) b+0)):=e;rw[e];exact⟨by omega,r2,by omega,by omega⟩
     ·simp only[ad]at h;obtain⟨_,k2,h2,h⟩:=bind_ok h;obtain⟨nm,k3,h3,h⟩:=bind_ok h;obtain⟨_,k4,h4,h⟩:=bind_ok h;cases h;obtain⟨m1,m2⟩:=pv (by decide) h2;obtain⟨m3,m4⟩:=pv (by decide) h4;obtain⟨i1,i2,i3⟩:=aje h3;have hK:K=20\/K=21:=by simpa only[gu,cL]using c3
      have e:=leaf K nm i3 (by rcases hK with e|e<;>rw[e]<;>rfl) (by rcases hK with e|e<;>rw[e]<;>rfl) (by rcases hK with e|e<;>rw[e]<;>rfl);rw[e];exact⟨by omega,m4,by omega,by omega⟩
    ·have e15:=cL.1 c2;subst e15;simp only[ad]at h;obtain⟨_,k2,h2,h⟩:=bind_ok h;obtain⟨ts,k3,hp,h⟩:=bind_ok h;obtain⟨_,k4,h4,h⟩:=bind_ok h;cases h;obtain⟨m1,m2⟩:=pv (by decide) h2;obtain⟨m3,m4⟩:=pv (by decide) h4;obtain⟨r1,r2,r3,r4,r5,r6⟩:=MG (P:=fun t=>0<=dE (dx 15) (b9 d) t) (w:=dE (dx 15) (b9 d)) l _ (fun k v k' hv=>by
      obtain⟨a1,a2,a3,a4⟩:=ih _ _ _ hv;have:=CC (K:=15) a3 a4 (by omega);exact⟨a1,a2,this.1,this.1,this.2⟩) 5 [] _ ts _ (fun v hv=>by cases hv) hp
     simp only[aL]at r3 r4;have e0:eY (dE (dx 15) (b9 d)) []=0:=rfl;rw[e0]at r6;have hnn:=FN (dE (dx 15) (b9 d)) ts fun v hv=>(r5 v hv).2
     have e:=CB d (aa.mk 15 [] [] ts) (cN 16) (by show ts.length<=16;omega) (cN 12) rfl (by show(1:Int)<=((ts.length:Nat):Int);omega) (by show((ts.length:Nat):Int)<=6;omega)
      (fun x hx=>(r5 x hx).1) (by show 1+eY (dE (dx 15) (b9 d)) ts<=12000;omega)
     have e:b9 (d+1) (aa.mk 15 [] [] ts)=1+eY (dE (dx 15) (b9 d)) ts:=e;rw[e];exact⟨by omega,m4,by omega,by omega⟩
   ·simp only[ad]at h;obtain⟨_,k2,h2,h⟩:=bind_ok h;obtain⟨t0,k3,h0,h⟩:=bind_ok h;obtain⟨_,k4,h4,h⟩:=bind_ok h;cases h;obtain⟨m1,m2⟩:=pv (by decide) h2;obtain⟨m3,m4⟩:=pv (by decide) h4;obtain⟨a1,a2,a3,a4⟩:=ih _ _ _ h0;have hK:K=12\/K=13\/K=22\/K=23:=by simpa only[gu,cL]using c1
    have MJ:pj K=true:=by rcases hK with e|e|e|e<;>rw[e]<;>rfl
    have hu:dx K=false:=by rcases hK with e|e|e|e<;>rw[e]<;>rfl
    have h1:B7 K=true:=c1;have ec:dE (dx K) (b9 d) t0=b9 d t0:=by unfold dE;rw[hu];rfl
    have e:=CB d (aa.mk K [] [] [t0]) (cN 16) (by show 1<=16;omega) (cN 12) MJ (by show mm K 0<=1;unfold mm;rw[h1];show(1:Int)<=1;omega) (by show 1<=kX K 0;unfold kX;rw[h1];show(1:Int)<=1;omega)
     (fun x hx=>by have hx:x∈[t0]:=hx;rw[ej.1 hx];show 0<=dE (dx K) (b9 d) t0;rw[ec];omega)
     (by show 1+(dE (dx K) (b9 d) t0+0)<=12000;rw[ec];omega)
    have e:b9 (d+1) (aa.mk K [] [] [t0])=1+(dE (dx K) (b9 d) t0+0):=e;rw[e,ec];exact⟨by omega,m4,by omega,by omega⟩
  ·cases h;rw[leaf 30 w n3 rfl rfl rfl];exact⟨by omega,n2,by omega,by omega⟩
end M
namespace M
open Go.V (inB bN au ae aZ)
theorem ajh{l:List aj}(hl:l.length<=4001){k k':Nat}{v:aV}(h:kT l k=.ok v k'):0<=b9 4 v.Term:=by
 unfold kT at h;obtain⟨_,_,_,h⟩:=bind_ok h;obtain⟨_,_,_,h⟩:=bind_ok h;obtain⟨t,_,ht,h⟩:=bind_ok h;cases h;have:=(FO l hl 4 _ _ _ ht).2.2.1
 show 0<=b9 4 t
 omega
theorem aji:b9 4 dI=1:=rfl
theorem FP(x:ai)(h1:x.Params.length<=6)(h2:x.Uses.length<=16)(h3:(x.Kind=2\/x.Kind=3)->0<=b9 4 x.Term)(h4:∀p∈x.Params,0<=b9 4 p.Term)(h5:1<=x.Kind)(h6:x.Kind<=4):mZ x=true:=by
 unfold mZ;rw[ct (show ¬(6:Int)<((x.Params.length:Nat):Int) by omega),ct (show ¬(16:Int)<((x.Uses.length:Nat):Int) by omega),cM h5,cM h6];have e:(x.Params.all fun p=> !decide (b9 4 p.Term<0))=true:=by
  rw[fO];intro p hp;have:=h4 p hp;rw[ct (by omega)];rfl
 rw[e];cases hk:((x.Kind==2)||(x.Kind==3))
 ·simp
 ·have hK:x.Kind=2\/x.Kind=3:=by simpa only[gu,cL]using hk
  have:=h3 hK;rw[ct (show ¬b9 4 x.Term<0 by omega)];rfl
def FQ(x:ai):Prop:=mZ x=true/\po x.From
theorem T0{l:List aj}{k k':Nat}{p:aI}(h:qf l k=.ok p k'):po p:=by
 unfold qf at h;obtain⟨a,k1,ha,h⟩:=bind_ok h;cases h47:aC l [47] k1<;>rw[h47]at h
 ·cases h;exact fun _=>rfl
 ·simp only[ad]at h;obtain⟨b,k2,hb,h⟩:=bind_ok h;have ne:a≠[]:=by
   unfold g9 at ha;cases hn:f6 l k<;>rw[hn]at ha<;>cases ha;intro e;unfold f6 at hn;rw[e,bu]at hn;exact absurd hn.2 (by decide)
  cases h64:aC l [64] k2<;>rw[h64]at h
  ·cases h;exact fun _=>rfl
  ·simp only[ad]at h;obtain⟨v,k3,hv,h⟩:=bind_ok h;cases h;exact fun e=>absurd e ne
theorem ajj(l:List aj)(hl:l.length<=4001)(nm:List UInt8)(k:Nat)(v:ai)(k':Nat)(h:oW l nm k=.ok v k'):FQ v:=by
 have:∀as k,rS l nm as k=.ok v k'->FQ v:=fun as k h=>by
  unfold rS at h;obtain⟨_,_,_,h⟩:=bind_ok h;obtain⟨ps,k1,hp,h⟩:=bind_ok h;obtain⟨t,k2,ht,h⟩:=bind_ok h;cases h;have h1:ps.length<=6/\∀p∈ps,0<=b9 4 p.Term:=by
   unfold yo at hp;obtain⟨_,k3,_,hp⟩:=bind_ok hp;cases hc:aC l [41] k3<;>rw[hc]at hp
   ·simp only[al]at hp;obtain⟨qs,_,hq,hp⟩:=bind_ok hp;obtain⟨_,_,_,hp⟩:=bind_ok hp;cases hp;have:=v8 (P:=fun v:aV=>0<=b9 4 v.Term) l _ (fun _ _ _ hv=>ajh hl hv) 5 [] _ _ _ (fun v hv=>by cases hv) hq;exact⟨by simpa using this.1,this.2⟩
   ·cases hp;exact⟨by simp,fun p hp=>by cases hp⟩
  have h2:0<=b9 4 t:=by
   unfold Bl at ht;cases hc:aC l [45,62] k1<;>rw[hc]at ht
   ·cases ht;rw[aji];omega
   ·have:=(FO l hl 4 _ _ _ ht).2.2.1;omega
  exact⟨FP _ h1.1 (by simp) (fun _=>h2) h1.2 (by show(1:Int)<=3;decide) (by show(3:Int)<=4;decide),fun _=>rfl⟩
 unfold oW at h;cases hc:aC l rR k<;>rw[hc]at h<;>exact this _ _ h
theorem ajk(l:List aj)(hl:l.length<=4001)(k:Nat)(v:ai)(k':Nat)(h:kU l k=.ok v k'):FQ v:=by
 unfold kU oY at h;obtain⟨x,k1,hx,h⟩:=bind_ok h;obtain⟨_,_,_,h⟩:=bind_ok h;cases h;obtain⟨nm,k2,_,hx⟩:=bind_ok hx;unfold lG at hx;cases jT:aC l [58] k2<;>rw[jT]at hx
 ·cases hR:(nm==nK)<;>rw[hR]at hx
  ·cases hY:(nm==qg)<;>rw[hY]at hx
   ·cases hU:(nm==qh)<;>rw[hU]at hx
    ·cases hx
    ·simp only[ad,al]at hx;unfold yp at hx;obtain⟨p,_,hp,hx⟩:=bind_ok hx;obtain⟨_,_,_,hx⟩:=bind_ok hx;obtain⟨_,_,_,hx⟩:=bind_ok hx;obtain⟨us,_,hu,hx⟩:=bind_ok hx;obtain⟨_,_,_,hx⟩:=bind_ok hx;cases hx;have:=(v8 (P:=fun _=>True) l _ (fun _ _ _ _=>trivial) 15 [] _ us _ (fun _ _=>trivial) hu).1;exact⟨FP _ (by simp) (by simpa using this) (fun q=>absurd q (by show ¬((4:Int)=2\/(4:Int)=3);decide)) (fun p hp=>by cases hp) (by show(1:Int)<=4;decide) (by show(4:Int)<=4;decide),T0 hp⟩
   ·simp only[ad,al]at hx;obtain⟨_,_,_,hx⟩:=bind_ok hx;obtain⟨_,_,_,hx⟩:=bind_ok hx;obtain⟨t,_,ht,hx⟩:=bind_ok hx;cases hx;have:=(FO l hl 4 _ _ _ ht).2.2.1;exact⟨FP _ (by simp) (by simp) (fun _=>by show 0<=b9 4 t;omega) (fun p hp=>by cases hp) (by show(1:Int)<=2;decide) (by show(2:Int)<=4;decide),fun _=>rfl⟩
  ·simp only[ad,al]at hx;obtain⟨_,_,_,hx⟩:=bind_ok hx;cases hx;exact⟨FP _ (by simp) (by simp) (fun q=>absurd q (by show ¬((1:Int)=2\/(1:Int)=3);decide)) (fun p hp=>by cases hp) (by show(1:Int)<=1;decide) (by show(1:Int)<=4;decide),fun _=>rfl⟩
 ·exact ajj l hl _ _ _ _ hx
theorem ajl(l:List aj)(hl:l.length<=4001)(k:Nat)(v:aF)(k':Nat)(h:mW l k=.ok v k'):mn v=true/\∀i∈v.Items,po i.From:=by
 unfold mW at h;obtain⟨_,_,_,h⟩:=bind_ok h;obtain⟨_,_,_,h⟩:=bind_ok h;obtain⟨xs,_,hx,h⟩:=bind_ok h;cases h;have:=BD (P:=FQ) l (kU l) (ajk l hl) 16 [] _ xs _ (fun v hv=>by cases hv) hx;have h1:xs.length<=16:=by simpa using this.1
 refine⟨?_,fun i hi=>(this.2 i hi).2⟩;unfold mn;rw[ct (show ¬(16:Int)<((xs.length:Nat):Int) by omega),bp,bj,fO];exact fun i hi=>(this.2 i hi).1
theorem ajm(l:List aj)(k:Nat)(v:aS)(k':Nat)(h:rT l k=.ok v k'):mo v=true/\∀i∈v.Items,po i.Path:=by
 unfold rT at h;obtain⟨_,_,_,h⟩:=bind_ok h;obtain⟨_,_,_,h⟩:=bind_ok h;obtain⟨xs,_,hx,h⟩:=bind_ok h;cases h;have hw:∀(K:Int),(decide (1<=K)&&decide (K<=3))=true->∀k v k',tY l K k=.ok v k'->si v=true/\po v.Path:=fun K hK k v k' h=>by
  unfold tY at h;obtain⟨p,_,hp,h⟩:=bind_ok h;obtain⟨_,_,_,h⟩:=bind_ok h;cases h;exact⟨hK,T0 hp⟩
 have:=BD (P:=fun v:aN=>si v=true/\po v.Path) l (jU l) (fun k v k' h=>by
  unfold jU at h;cases h1:aC l oZ k<;>rw[h1]at h
  ·cases h2:aC l pd k<;>rw[h2]at h
   ·cases h3:aC l pe k<;>rw[h3]at h
    ·cases h
    ·exact hw 3 rfl _ _ _ h
   ·exact hw 2 rfl _ _ _ h
  ·exact hw 1 rfl _ _ _ h) 16 [] _ xs _ (fun v hv=>by cases hv) hx
 have h1:xs.length<=16:=by simpa using this.1
 refine⟨?_,fun i hi=>(this.2 i hi).2⟩;unfold mo;rw[ct (show ¬(16:Int)<((xs.length:Nat):Int) by omega),bp,bj,fO];exact fun i hi=>(this.2 i hi).1
theorem ajn(l:List aj)(hl:l.length<=4001)(k:Nat)(p:ah)(k':Nat)(h:iu l k=.ok p k'):uG p=true/\ME p:=by
 unfold iu at h;obtain⟨_,_,_,h⟩:=bind_ok h;obtain⟨_,_,_,h⟩:=bind_ok h;obtain⟨_,_,_,h⟩:=bind_ok h;obtain⟨_,_,_,h⟩:=bind_ok h;obtain⟨_,_,_,h⟩:=bind_ok h;obtain⟨q,k6,h6,h⟩:=bind_ok h;cases h;have:=BE (P:=fun f=>mn f=true/\∀i∈f.Items,po i.From) (Q:=fun f=>mo f=true/\∀i∈f.Items,po i.Path) l (ajl l hl) (ajm l) 16 [] [] _ q _ (by simp) (by simp) (by simp) (by simp) h6;refine⟨?_,fun f hf=>(this.2.2.1 f hf).2,fun w hw=>(this.2.2.2 w hw).2⟩;unfold uG;have e1:q.1.all mn=true:=by rw[fO];exact fun f hf=>(this.2.2.1 f hf).1
 have e2:q.2.all mo=true:=by rw[fO];exact fun f hf=>(this.2.2.2 f hf).1
 have h1:=this.1;have h2:=this.2.1;show(!(decide ((8:Int)<((q.1.length:Nat):Int))||decide ((8:Int)<((q.2.length:Nat):Int)))&&(q.1.all mn&&q.2.all mo))=true
 rw[ct (show ¬(8:Int)<((q.1.length:Nat):Int) by omega),ct (show ¬(8:Int)<((q.2.length:Nat):Int) by omega),e1,e2];rfl
theorem ajo(s:List UInt8)(x:ah)(h:gj s=.inr x):uG x=true/\ME x:=by
 unfold gj at h;split at h
 ·rename_i h0;split at h
  ·cases h
  ·rename_i hp;cases h;exact ajn _ (ER s h0).len _ _ _ hp
 ·cases h
theorem T8(x:ah)(hx:x.sz<=1048576):M.wd x=some (gm x (gQ cE x))/\M.sd x=some (gm x (gQ cE x))/\(gm x (gQ cE x)=true->M.qn x=some (gQ cE x)):=
 aiu x (gQ cE x) hx (ai6 x hx) (uG x) (ai7 x) (fun h=>⟨_,TN x hx h⟩) (fun⟨t,ht⟩=>by
  obtain⟨w1,w2⟩:=ajo t x ht;exact⟨w1,by rw[TN x hx w1,ajd x w2]⟩)
end M
namespace M
open Go.V (inB bN au ae aZ)
structure ajp (l l':List aj):Prop where
 nm:∀k,f6 l' k=f6 l k
 id:∀k,l8 l' k=l8 l k
 vr:∀k,mS l' k=mS l k
 is:∀t k,(t≠[59]/\t≠[])->aC l' t k=aC l t k
 sm:∀k,aC l [59] k=true->aC l' [59] k=true
 nt:∀k,f6 l k=true->(bU l' k).Text=(bU l k).Text
 vt:∀k,mS l k=true->(bU l' k).Text=(bU l k).Text
def Up{α:Type}(r r':PR α):Prop:=∀v k,r=.ok v k->r'=.ok v k
theorem Up.refl{α:Type}(r:PR α):Up r r:=fun _ _ h=>h
theorem Up.no{α:Type}(k:Nat)(r:PR α):Up (.no k) r:=fun _ _ h=>by cases h
theorem Up.bind{α β:Type}{r r':PR α}{f f':α->Nat->PR β}(h:Up r r')(hf:∀v k,Up (f v k) (f' v k)):Up (r.bind f) (r'.bind f'):=fun v k e=>by
 obtain⟨a,k1,h1,h2⟩:=bind_ok e;rw[h a k1 h1];exact hf a k1 v k h2
theorem Up.bif{α:Type}{c c':Bool}{a a' b b':PR α}(h:c'=c)(h1:Up a a')(h2:Up b b'):Up (bif c then a else b) (bif c' then a' else b'):=by
 rw[h];cases c
 ·exact h2
 ·exact h1
section
variable {l l':List aj}(R:ajp l l')
include R
end
end M
namespace M
open Go.V (inB bN au ae aZ)
def sj:Nat->List UInt8->Int->List aj->(Int×Int)⊕(Int×List aj)
 |0,_,_,_=>.inl (0,0)
 |_+1,[],line,out=>.inr (line,out)
 |n+1,c::r,line,out=>if(eM c r).1=0 then .inl (line,6)else if out.length=4000 then .inl (line,4)
   else sj n (((c::r).drop (eM c r).2).drop (cw false ((c::r).drop (eM c r).2) line).1) (cw false ((c::r).drop (eM c r).2) line).2 (out++[aj.mk (eM c r).1 ((c::r).take (eM c r).2) line])
theorem T9(s:List UInt8):∀(f a:Nat)(line:Int)(out:List aj),iY s f a line out=sj f (s.drop a) line out
 |0,a,line,out=>rfl
 |f+1,a,line,out=>by
  rw[iY];rcases cU a s.length with h|h
  ·rw[bf h,getD_lt h,List.drop_eq_getElem_cons h,sj,<-List.drop_eq_getElem_cons h];by_cases h0:(eM s[a] (s.drop (a+1))).1=0
   ·rw[bf h0,bf h0]
   ·rw[bg h0,bg h0];by_cases h4:out.length=4000
    ·rw[bf h4,bf h4]
    ·rw[bg h4,bg h4,T9 s f];simp only[xg,kE,nA]
  ·rw[bg (by omega),List.drop_eq_nil_of_le h,sj]
def upT(t:aj):aj:=aj.mk t.Kind t.Text (t.Line+1)
def mq(r:List UInt8):Prop:=∃q,r=q++[10]
theorem mq.ne{r:List UInt8}(h:mq r):r≠[]:=by obtain⟨q,rfl⟩:=h;simp
theorem mq.pos{r:List UInt8}(h:mq r):1<=r.length:=List.length_pos_iff.2 h.ne
theorem mq.tail{c:UInt8}{r:List UInt8}(h:mq (c::r)):(r=[]/\c=10)\/mq r:=by
 obtain⟨q,h⟩:=h;cases q with
 |nil=>simp only[fB,List.cons.injEq]at h;exact .inl ⟨h.2,h.1⟩
 |cons x q=>simp only[ow,List.cons.injEq]at h;exact .inr ⟨q,h.2⟩
theorem mq.drop{r:List UInt8}(h:mq r)(k:Nat):r.drop k=[]\/mq (r.drop k):=by
 obtain⟨q,rfl⟩:=h;rcases cU q.length k with hk|hk
 ·left;exact List.drop_eq_nil_of_le (by simp;omega)
 ·right;exact⟨q.drop k,by rw[List.drop_append,show k-q.length=0 by omega];rfl⟩
end M
set_option maxRecDepth 100000
namespace M
open Go.V (inB bN au ae aZ)
theorem Ua:∀(f g:Nat)(r:List UInt8)(line:Int)(out:List aj),r.length<f->r.length<g->sj f r line out=sj g r line out
 |0,g,r,line,out,h,_=>absurd h (xf _)
 |f+1,0,r,line,out,_,h=>absurd h (xf _)
 |f+1,g+1,[],line,out,_,_=>rfl
 |f+1,g+1,c::r,line,out,hf,hg=>by
  rw[sj,sj];by_cases h0:(eM c r).1=0
  ·rw[bf h0,bf h0]
  ·rw[bg h0,bg h0];by_cases h4:out.length=4000
   ·rw[bf h4,bf h4]
   ·rw[bg h4,bg h4];have l3:=EN c r h0;have hl:(((c::r).drop (eM c r).2).drop (cw false ((c::r).drop (eM c r).2) line).1).length<=r.length:=by
     rw[List.length_drop,List.length_drop,aE];omega
    rw[aE]at hf hg;exact Ua f g _ _ _ (by omega) (by omega)
def jB:ah:=ah.mk [98,97,115,101] [49,46,48,46,48] [] []
def sk:List UInt8:=[112,97,99,107,97,103,101,32,98,97,115,101,64,49,46,48,46,48,59,10]
theorem ajq:gQ cE jB=sk:=by decide+kernel
def Ub:List aj:=match sj 30 (sk.drop (cw false sk 1).1) (cw false sk 1).2 []with
 |.inl _=>[]
 |.inr y=>y.2++[aj.mk 4 [] y.1]
theorem ajr:(sk.drop (cw false sk 1).1).length<=20:=by decide+kernel
theorem ajs:dL sk=(Ub,0,0):=by
 have e:=ajr;have hb:=aZ;unfold dL;rw[bg (show ¬30000<sk.length by decide),T9,Ua ae 30 _ _ _ (by omega) (by omega)];rfl
theorem ajt:iu Ub 0=.ok jB 5:=by kernel_rfl
theorem aju:gj sk=.inr jB:=by
 unfold gj;rw[ajs];simp only[Dx];rw[ajt]
theorem ajv:gm jB (gQ cE jB)=true:=by
 rw[ajq];unfold gm kW;rw[aju];have e:mX jB=true:=by kernel_rfl
 simp only[e,ad];rw[bu,LY];exact⟨rfl,rfl⟩
end M
namespace M
open Go.V (inB bN au ae aZ)
theorem mq.app{a b:List UInt8}(ha:mq a)(hb:b=[]\/mq b):mq (a++b):=by
 rcases hb with rfl|⟨q,rfl⟩
 ·rw[sS];exact ha
 ·exact⟨a++q,by rw[fN]⟩
theorem ajw{x:ah}{t:List UInt8}(h:gm x t=true):kW t=(x,0,0)/\gj t=.inr x/\mX x=true:=by
 have hw:=L1 x t h;unfold gm kW at h;rw[hw]at h;simp only at h;have hc:mX x=true:=by
  by_cases hc:mX x=true
  ·exact hc
  ·rw[sQ]at hc;rw[hc]at h;simp only[al]at h;exact absurd (Bool.and_eq_true_iff.1 h).1 (by decide)
 refine⟨?_,hw,hc⟩;unfold kW;rw[hw];simp only[hc,ad]
theorem ajx(t:List UInt8)(h0:(dL t).2.2=0)(hp:0<(dL t).1.length):dL t=((dL t).1,0,0):=by
 revert h0 hp
 unfold dL;split
 ·intro h0;exact absurd h0 (by decide)
 ·cases iY t ae (cw false t 1).1 (cw false t 1).2 []with
  |inl x=>intro h0 hp;exact absurd hp (Nat.lt_irrefl _)
  |inr y=>intro _ _;rfl
theorem ajy{x:ah}{t:List UInt8}(h:gj t=.inr x):∃l k,dL t=(l,0,0)/\bY l/\iu l 0=.ok x k:=by
 unfold gj at h;split at h
 ·rename_i h0;split at h
  ·cases h
  ·rename_i hp;cases h;have hL:=ER t h0;exact⟨(dL t).1,_,ajx t h0 hL.pos,hL,hp⟩
 ·cases h
end M
namespace M
open Go.V (inB bN au ae aZ)
theorem kZ{α:Type}(f:α->Nat)(c:Nat):∀l:List α,(∀x∈l,f x<=c)->bJ f l<=(c+1)*l.length
 |[],_=>by simp[bJ]
 |x::r,h=>by
  have h1:=h x (by simp);have h2:=kZ f c r fun y hy=>h y (by simp[hy])
  simp only[bJ,aE,Nat.mul_add,qU];omega
structure iv (t:aa):Prop where
 k:t.Kids=[]
 l:t.bq=[]
 n:t.Name.length<=4
theorem iv.size{t:aa}(h:iv t):t.sz<=10:=by
 have:=aa.cY t;have hn:=h.n;rw[h.k,h.l]at this;simp only[bJ]at this;omega
structure mr (t:aa):Prop where
 size:t.sz<=200
theorem iv.term{t:aa}(h:iv t):mr t:=⟨by have:=h.size;omega⟩
theorem mr.mid{t:aa}(h1:t.Kids.length<=3)(h2:∀x∈t.Kids,iv x)(h3:t.bq.length<=3)(h4:∀x∈t.bq,x.length<=3)(h5:t.Name=[]):mr t:=by
 have e2:=kZ List.length 3 t.bq h4;have e3:=kZ aa.sz 10 t.Kids fun x hx=>(h2 x hx).size
 have e4:=aa.cY t;rw[h5]at e4;simp only[aL]at e4;exact⟨by omega⟩
structure mw (x:ai):Prop where
 size:x.sz<=2000
structure iZ (p:aI):Prop where
 pk:p.ba.length<=5
 n:p.Name.length<=5
 v:p.Version.length<=5
theorem iZ.size{p:aI}(h:iZ p):p.sz<=20:=by
 have:=aI.cY p;have:=h.pk;have:=h.n;have:=h.v;omega
theorem iZ.zero:iZ aI.zero:=⟨by decide,by decide,by decide⟩
theorem mw.of{x:ai}(h1:x.Name.length<=3)(h2:iZ x.From)(h3:x.Uses.length<=1)(h4:∀u∈x.Uses,u.Name.length<=3/\u.As.length<=4)(h5:x.Params.length<=2)(h6:∀p∈x.Params,p.Name.length<=2/\mr p.Term)(h7:mr x.Term):mw x:=by
 have u2:=kZ aW.sz 10 x.Uses (fun u hu=>by
  obtain⟨a,b⟩:=h4 u hu;have:=aW.cY u;omega)
 have p2:=kZ aV.sz 210 x.Params (fun u hu=>by
  obtain⟨a,b⟩:=h6 u hu;have:=aV.cY u;have:=b.size;omega)
 have hs:=h7.size;have hps:=h2.size;have hz:=ai.cY x;exact⟨by omega⟩
structure uH (f:aF):Prop where
 n:f.Name.length<=5
 c:f.Items.length<=6
 i:∀x∈f.Items,mw x
theorem uH.size{f:aF}(h:uH f):f.sz<=13000:=by
 have h1:=aF.cY f;have h2:=kZ ai.sz 2000 f.Items fun x hx=>(h.i x hx).size
 have:=h.n;have:=h.c;omega
structure za (x:aN):Prop where
 p:iZ x.Path
structure CE (f:aS):Prop where
 n:f.Name.length<=4
 c:f.Items.length<=3
 i:∀x∈f.Items,za x
theorem CE.size{f:aS}(h:CE f):f.sz<=200:=by
 have h1:=aS.cY f;have h2:=kZ aN.sz 30 f.Items fun x hx=>by
  have:=aN.cY x;have:=(h.i x hx).p.size;omega
 have:=h.n;have:=h.c;omega
def FR(n:List UInt8):Prop:=n=[98,97,115,101]\/n=[119,97,114,100]\/n=[108,97,98]
structure k9 (x:ah):Prop where
 n:FR x.Name
 v:x.Version.length<=5
 fc:x.aD.length<=2
 f:∀f∈x.aD,uH f
 wc:x.Worlds.length<=1
 w:∀f∈x.Worlds,CE f
theorem FR.len{n:List UInt8}(h:FR n):n.length<=4:=by
 rcases h with rfl|rfl|rfl<;>decide
theorem k9.size{x:ah}(h:k9 x):x.sz<=30000:=by
 have h1:=ah.cY x;have f2:=kZ aF.sz 13000 x.aD fun y hy=>(h.f y hy).size
 have f4:=kZ aS.sz 200 x.Worlds fun y hy=>(h.w y hy).size
 have:=h.n.len;have:=h.v;have:=h.fc;have:=h.wc;omega
end M
namespace M
open Go.V (inB bN au ae aZ)
structure dy (s:aT) (m:Int):Prop where
 c:s.code.length<=1048576
 lo:0<=s.at_
 hi:s.at_<=m
theorem dy.up{s:aT}{m k:Int}(h:dy s m)(hk:m<=k):dy s k:=⟨h.c,h.lo,by have:=h.hi;omega⟩
theorem ajz(x:Int):0<=Go.IntKind.wrap .i64 (Go.V.oz .and .u64 x 255):=by
 have h:(BitVec.ofInt 64 x&&& BitVec.ofInt 64 255).toNat<=255:=by
  rw[BitVec.toNat_and];exact Nat.and_le_right
 have e:Go.V.oz .and .u64 x 255=(((BitVec.ofInt 64 x&&& BitVec.ofInt 64 255).toNat:Nat):Int):=by
  unfold Go.V.oz
  show Go.IntKind.wrap .u64 (((BitVec.ofInt 64 x&&& BitVec.ofInt 64 255).toNat:Nat):Int)=_
  exact Go.IntWalk.u64_in _ ⟨by omega,by omega⟩
 rw[e,wrap_i64 (by omega) (by omega)];omega
theorem ajA{s:aT}{m:Int}(h:dy s m)(hm:m<=1000000000000):∃v s',M.wm s=some (v,s')/\dy s' (m+1)/\0<=v:=by
 obtain⟨hc,hlo,hhi⟩:=h;have hw:Go.IntKind.wrap .i64 (s.at_+1)=s.at_+1:=wrap_i64 (by omega) (by omega);have hin:((inB s.at_ s.code.length&&true)|| !decide (s.at_<((s.code.length:Nat):Int)))=true:=by
  obtain⟨n,hn⟩:=ka hlo;rw[hn,db,bQ];by_cases hh:n<s.code.length
  ·rw[cM hh];rfl
  ·rw[ct hh,ct (by omega)];rfl
 unfold M.wm;simp only[hw,hin,bj,ad];have hv:(0:Int)<=(bif decide (s.at_<((s.code.length:Nat):Int))then Go.IntKind.wrap .i64 (((s.code.getD s.at_.toNat 0).toNat:Nat):Int)else 0):=by
  cases decide (s.at_<((s.code.length:Nat):Int))with
  |false=>exact Int.le_refl _
  |true=>
   have:=(s.code.getD s.at_.toNat 0).toNat_lt;simp only[ad];rw[wrap_i64 (by omega) (by omega)];omega
 cases decide (s.at_+1<=((s.code.length:Nat):Int))with
 |true=>exact⟨_,_,rfl,⟨hc,by simp only[];omega,by simp only[];omega⟩,hv⟩
 |false=>exact⟨_,_,rfl,⟨hc,by simp only[];omega,by simp only[];omega⟩,ajz _⟩
theorem ko{s:aT}{m:Int}(h:dy s m)(hm:m<=1000000000000)(n:Int)(h1:1<=n)(h2:n<=200):∃v s',M.dm n s=some (v,s')/\dy s' (m+1)/\0<=v/\v<n:=by
 by_cases hn1:n=1
 ·subst hn1;unfold M.dm;rw[cM (show(1:Int)<=1 by omega)];exact⟨0,s,rfl,h.up (by omega),by omega,by omega⟩
 ·obtain⟨v,s',e,g1,g2⟩:=ajA h hm;unfold M.dm;rw[ct (show ¬n<=1 by omega),ct (show ¬(200:Int)<n by omega)];have hn:(n !=0)=true:=by simp;omega
  simp only[e,hn,al,an,ar,bQ,bj,ad];exact⟨_,_,rfl,g1,Int.tmod_nonneg _ g2,Int.tmod_lt_of_pos _ (by omega)⟩
theorem mx{s:aT}{m:Int}(h:dy s m)(hm:m<=1000000000000)(n:Int)(h1:1<=n)(h2:n<=200):∃v s',M.ja n s=some (v,s')/\dy s' (m+1):=by
 obtain⟨v,s',e,g1,-⟩:=ko h hm n h1 h2;unfold M.ja;simp only[e,an,ar,bQ,ad];exact⟨_,_,rfl,g1⟩
theorem FT{s:aT}{m:Int}(h:dy s m)(hm:m<=1000000000000)(l:List (List UInt8))(h1:1<=l.length)(h2:l.length<=200):∃v s',M.sn s l=some (v,s',l)/\dy s' (m+1)/\v∈l:=by
 obtain⟨v,s',e,g1,g2,g3⟩:=ko h hm (l.length:Int) (by omega) (by omega);unfold M.sn;obtain⟨k,rfl⟩:=ka g2;have hk:k<l.length:=by omega
 have hin:inB (k:Int) l.length=true:=by rw[db];simpa using hk
 simp only[e,hin,an,ar,bQ,bj,ad,bG,getD_lt hk];exact⟨_,_,rfl,g1,de hk⟩
theorem Ud{s:aT}{m:Int}(h:dy s m)(hm:m<=1000000000000)(l:List Int)(h1:1<=l.length)(h2:l.length<=200):∃v s',M.wo l s=some (v,s')/\dy s' (m+1)/\v∈l:=by
 obtain⟨v,s',e,h',h3,h4⟩:=ko h hm (l.length:Int) (by omega) (by omega);obtain⟨k,rfl⟩:=ka h3;have hk:k<l.length:=by omega
 have hin:inB (k:Int) l.length=true:=by rw[db];simpa using hk
 unfold M.wo;simp only[e,an,ar,hin,bG,getD_lt hk,ak,ad];exact⟨l[k],s',rfl,h',de hk⟩
theorem du{α:Type}(a b:α):(bif true then a else b)=a:=id rfl
theorem fU{α:Type}(a b:α):(bif false then a else b)=b:=id rfl
abbrev zb :=Int->M.aT->(List (List UInt8))->Option (Int×(List UInt8)×M.aT×(List (List UInt8))×(List (List UInt8))×(List M.aa))
def nU(t:aa)(s:aT)(n:List (List UInt8)):Int×(List UInt8)×M.aT×(List (List UInt8))×(List (List UInt8))×(List M.aa):=(t.Kind,t.Name,s,n,t.bq,t.Kids)
structure so (n:List (List UInt8)):Prop where
 c:n.length<=20
 n:∀x∈n,x.length<=4
def FU(rec:zb):Prop:=∀(s:aT)(m:Int)(n:List (List UInt8)),dy s m->m<=100000000000->so n->∃t s',rec 1 s n=some (nU t s' n)/\dy s' (m+3)/\iv t
theorem ajB(rec:zb)(s:aT)(m:Int)(n:List (List UInt8))(h:dy s m)(hm:m<=100000000000)(hn:so n):∃t s',M.zc rec 1 s n=some (nU t s' n)/\dy s' (m+3)/\iv t:=by
 have d1:decide ((1:Int)<=1)=true:=rfl;unfold M.zc;simp only[d1,du];by_cases hl:0<n.length
 ·have d2:decide ((0:Int)<(n.length:Int))=true:=cM (by omega);obtain⟨v,s1,e1,g1⟩:=mx h (by omega) 2 (by omega) (by omega);simp only[d2,e1,an,ar,du];cases v with
  |true=>
   obtain⟨x,s2,e2,g2,hx⟩:=FT g1 (by omega) n hl (by have:=hn.c;omega);simp only[e2,an,ar,du];exact⟨aa.mk 30 x [] [],s2,rfl,g2.up (by omega),⟨rfl,rfl,hn.n x hx⟩⟩
  |false=>
   obtain⟨x,s2,e2,g2,-⟩:=ko g1 (by omega) 10 (by omega) (by omega);simp only[e2,an,ar,du,fU];exact⟨aa.mk _ [] [] [],s2,rfl,g2.up (by omega),⟨rfl,rfl,cN _⟩⟩
 ·have d2:decide ((0:Int)<(n.length:Int))=false:=ct (by omega);obtain⟨x,s2,e2,g2,-⟩:=ko h (by omega) 10 (by omega) (by omega);simp only[d2,e2,an,ar,du,fU];exact⟨aa.mk _ [] [] [],s2,rfl,g2.up (by omega),⟨rfl,rfl,cN _⟩⟩
theorem CG:Go.IntKind.wrap Go.IntKind.i64 ((2:Int)-1)=1:=by decide
theorem uI(t:aa):aa.mk t.Kind t.Name t.bq t.Kids=t:=by cases t;rfl
theorem MK{rec:zb}(hr:FU rec)(t6:Int)(t62:List UInt8)(t:Int)(t2:List UInt8)(o8:List (List UInt8))(o9:List aa)(bL:List (List UInt8))(names:List (List UInt8))(hn:so names):
 ∀(j f k:Nat)(s:aT)(m:Int)(o:List aa),j<f->k+j=2->dy s m->m+4*(j:Int)<=10000000000->o.length=2->(∀x∈o,iv x)->
  ∃s' o',M.sq rec 2 t6 t62 t t2 o8 o9 bL f (k:Int) s names o=some (s'.code,s'.at_,s'.seed,names,t6,t62,t,t2,o8,o9,bL,o')/\dy s' (m+4*(j:Int))/\o'.length=2/\(∀x∈o',iv x)
 |j,0,k,s,m,o,h1,_,_,_,_,_=>by omega
 |0,f+1,k,s,m,o,h1,h2,hs,hm,hl,ho=>by
  rw[M.sq,ct (by omega)];exact⟨s,o,rfl,hs.up (by omega),hl,ho⟩
 |j+1,f+1,k,s,m,o,h1,h2,hs,hm,hl,ho=>by
  obtain⟨v,s1,e1,g1⟩:=mx hs (by omega) 2 (by omega) (by omega);have w:Go.IntKind.wrap .i64 ((k:Int)+1)=((k+1:Nat):Int):=by rw[wrap_i64 (by omega) (by omega)];omega
  rw[M.sq,cM (by omega)];simp only[du,e1,an,ar,w,CG];cases v with
  |true=>
   obtain⟨x,s2,e2,g2,hx⟩:=hr s1 (m+1) names g1 (by omega) hn;have hin:inB (k:Int) o.length=true:=by rw[db,hl];simp;omega
   obtain⟨s3,o3,e3,g3,h3,h4⟩:=MK hr t6 t62 t t2 o8 o9 bL names hn j f (k+1) s2 (m+4) (o.set k x) (by omega) (by omega) (g2.up (by omega)) (by omega) (by simpa using hl) (fun y hy=>by
    rcases List.mem_or_eq_of_mem_set hy with q|q
    ·exact ho y q
    ·rw[q];exact hx)
   simp only[du,e2,hin,nU,an,ar,bQ,ak,bG,uI,e3];exact⟨s3,o3,rfl,g3.up (by omega),h3,h4⟩
  |false=>
   obtain⟨s3,o3,e3,g3,h3,h4⟩:=MK hr t6 t62 t t2 o8 o9 bL names hn j f (k+1) s1 (m+4) o (by omega) (by omega) (g1.up (by omega)) (by omega) hl ho;simp only[du,fU,bQ,e3];exact⟨s3,o3,rfl,g3.up (by omega),h3,h4⟩
theorem Ue{rec:zb}(hr:FU rec)(n:Nat)(hn3:n<=3)(t6:Int)(t62:List UInt8)(t:Int)(t2:List UInt8)(o8:List (List UInt8))(o9:List aa)(bL:List (List UInt8))(names:List (List UInt8))(hn:so names):
 ∀(j f k:Nat)(s:aT)(m:Int)(o:List aa),j<f->k+j=n->dy s m->m+4*(j:Int)<=10000000000->o.length=k->(∀x∈o,iv x)->
  ∃s' o',M.uJ rec 2 (n:Int) t6 t62 t t2 o8 o9 bL f (k:Int) s names o=some (s'.code,s'.at_,s'.seed,names,t6,t62,t,t2,o8,o9,bL,o')/\dy s' (m+4*(j:Int))/\o'.length=n/\(∀x∈o',iv x)
 |j,0,k,s,m,o,h1,_,_,_,_,_=>by omega
 |0,f+1,k,s,m,o,h1,h2,hs,hm,hl,ho=>by
  rw[M.uJ,ct (by omega)];exact⟨s,o,rfl,hs.up (by omega),by omega,ho⟩
 |j+1,f+1,k,s,m,o,h1,h2,hs,hm,hl,ho=>by
  have w:Go.IntKind.wrap .i64 ((k:Int)+1)=((k+1:Nat):Int):=by rw[wrap_i64 (by omega) (by omega)];omega
  obtain⟨x,s2,e2,g2,hx⟩:=hr s m names hs (by omega) hn;obtain⟨s3,o3,e3,g3,h3,h4⟩:=Ue hr n hn3 t6 t62 t t2 o8 o9 bL names hn j f (k+1) s2 (m+4) (o++[x]) (by omega) (by omega) (g2.up (by omega)) (by omega) (by simp;omega) (fun y hy=>by
   rcases df.1 hy with q|q
   ·exact ho y q
   ·rw[ej.1 q];exact hx)
  have hc:=jW (a:=o.length) (b:=1) (by omega);rw[M.uJ,cM (by omega)];simp only[du,e2,w,CG,nU,an,ar,aE,aL,dz,hc,bQ,ak,uI,e3];exact⟨s3,o3,rfl,g3.up (by omega),h3,h4⟩
theorem Uf{rec:zb}(hr:FU rec)(n:Nat)(hn3:n<=3)(t6:Int)(t62:List UInt8)(t:Int)(t2:List UInt8)(o8:List (List UInt8))(o9:List aa)(bL:List (List UInt8))(names:List (List UInt8))(hn:so names):
 ∀(j f k:Nat)(s:aT)(m:Int)(o:List aa),j<f->k+j=n->dy s m->m+4*(j:Int)<=10000000000->o.length=k->(∀x∈o,iv x)->
  ∃s' o',M.pw rec 2 (n:Int) t6 t62 t t2 o8 o9 bL f (k:Int) s names o=some (s'.code,s'.at_,s'.seed,names,t6,t62,t,t2,o8,o9,bL,o')/\dy s' (m+4*(j:Int))/\o'.length=n/\(∀x∈o',iv x)
 |j,0,k,s,m,o,h1,_,_,_,_,_=>by omega
 |0,f+1,k,s,m,o,h1,h2,hs,hm,hl,ho=>by
  rw[M.pw,ct (by omega)];exact⟨s,o,rfl,hs.up (by omega),by omega,ho⟩
 |j+1,f+1,k,s,m,o,h1,h2,hs,hm,hl,ho=>by
  have w:Go.IntKind.wrap .i64 ((k:Int)+1)=((k+1:Nat):Int):=by rw[wrap_i64 (by omega) (by omega)];omega
  have hc:=jW (a:=o.length) (b:=1) (by omega);have next:∀(x:aa)(s2:aT),iv x->dy s2 (m+4)->∃s' o',M.pw rec 2 (n:Int) t6 t62 t t2 o8 o9 bL f ((k+1:Nat):Int) s2 names (o++[x])=some (s'.code,s'.at_,s'.seed,names,t6,t62,t,t2,o8,o9,bL,o')/\dy s' (m+4*((j+1:Nat):Int))/\o'.length=n/\(∀x∈o',iv x):=fun x s2 hx g2=>by
   obtain⟨s3,o3,e3,g3,h3,h4⟩:=Uf hr n hn3 t6 t62 t t2 o8 o9 bL names hn j f (k+1) s2 (m+4) (o++[x]) (by omega) (by omega) g2 (by omega) (by simp;omega) (fun y hy=>by
    rcases df.1 hy with q|q
    ·exact ho y q
    ·rw[ej.1 q];exact hx)
   exact⟨s3,o3,e3,g3.up (by omega),h3,h4⟩
  rw[M.pw,cM (by omega)];cases ht:(t==17)
  ·obtain⟨x,s2,e2,g2,hx⟩:=hr s m names hs (by omega) hn;obtain⟨s3,o3,e3,r⟩:=next x s2 hx (g2.up (by omega))
   simp only[du,fU,e2,w,CG,nU,an,ar,aE,aL,dz,hc,bQ,ak,uI,e3,cn];exact⟨s3,o3,rfl,r⟩
  ·obtain⟨v,s1,e1,g1⟩:=mx hs (by omega) 3 (by omega) (by omega);simp only[du,e1,an,ar,w,CG,cn,bQ,ak];cases v with
   |true=>
    obtain⟨s3,o3,e3,r⟩:=next (aa.mk 1 [] [] []) s1 ⟨rfl,rfl,cN _⟩ (g1.up (by omega))
    simp only[du,aE,aL,dz,hc,e3];exact⟨s3,o3,rfl,r⟩
   |false=>
    obtain⟨x,s2,e2,g2,hx⟩:=hr s1 (m+1) names g1 (by omega) hn;obtain⟨s3,o3,e3,r⟩:=next x s2 hx (g2.up (by omega))
    simp only[du,fU,e2,nU,an,ar,aE,aL,dz,hc,bQ,ak,uI,e3];exact⟨s3,o3,rfl,r⟩
theorem ajC(j:Int)(h0:0<=j)(h3:j<3):bN (0:Int) (1+j) 3=true/\(List.drop (Int.toNat (0:Int)) (List.take (Int.toNat (1+j)) [[(97:UInt8)],[(98:UInt8)],[(99:UInt8),(45:UInt8),(100:UInt8)]])).length<=3/\∀x∈(List.drop (Int.toNat (0:Int)) (List.take (Int.toNat (1+j)) [[(97:UInt8)],[(98:UInt8)],[(99:UInt8),(45:UInt8),(100:UInt8)]])),x.length<=3:=by
 have:j=0\/j=1\/j=2:=by omega
 rcases this with rfl|rfl|rfl<;>decide
theorem Ug{a b:Int}(h:a=b):(a==b)=true:=by rw[h];exact cn b
theorem Uh{a b:Int}(h:¬a=b):(a==b)=false:=by rw[cO];exact h
theorem ajD{rec:zb}(hr:FU rec)(s:aT)(m:Int)(n:List (List UInt8))(h:dy s m)(hm:m<=1000000000)(hn:so n):∃t s',M.zc rec 2 s n=some (nU t s' n)/\dy s' (m+40)/\mr t:=by
 have d1:decide ((2:Int)<=1)=false:=rfl;have hb:=aZ;unfold M.zc;simp only[d1,fU];obtain⟨v,s1,e1,g1⟩:=mx h (by omega) 3 (by omega) (by omega);simp only[e1,an,ar];cases v with
 |true=>
  simp only[du];by_cases hl:0<n.length
  ·have d2:decide ((0:Int)<(n.length:Int))=true:=cM (by omega);obtain⟨v,s2,e2,g2⟩:=mx g1 (by omega) 2 (by omega) (by omega);simp only[d2,e2,an,ar,du];cases v with
   |true=>
    obtain⟨x,s3,e3,g3,hx⟩:=FT g2 (by omega) n hl (by have:=hn.c;omega);simp only[e3,an,ar,du];exact⟨aa.mk 30 x [] [],s3,rfl,g3.up (by omega),iv.term ⟨rfl,rfl,hn.n x hx⟩⟩
   |false=>
    obtain⟨x,s3,e3,g3,-⟩:=ko g2 (by omega) 10 (by omega) (by omega);simp only[e3,an,ar,du,fU];exact⟨aa.mk _ [] [] [],s3,rfl,g3.up (by omega),iv.term ⟨rfl,rfl,cN _⟩⟩
  ·have d2:decide ((0:Int)<(n.length:Int))=false:=ct (by omega);obtain⟨x,s2,e2,g2,-⟩:=ko g1 (by omega) 10 (by omega) (by omega);simp only[d2,e2,an,ar,du,fU];exact⟨aa.mk _ [] [] [],s2,rfl,g2.up (by omega),iv.term ⟨rfl,rfl,cN _⟩⟩
 |false=>
  obtain⟨K,s2,e2,g2,-⟩:=Ud g1 (by omega) [(12:Int),(13:Int),(14:Int),(15:Int),(16:Int),(17:Int),(18:Int),(19:Int),(12:Int),(16:Int),(22:Int)] (by decide) (by decide);obtain⟨j,s3,e3,g3,j0,j3⟩:=ko g2 (by omega) 3 (by omega) (by omega);obtain⟨l1,l2,l3⟩:=ajC j j0 j3;have wj:Go.IntKind.wrap Go.IntKind.i64 ((1:Int)+j)=1+j:=wrap_i64 (by omega) (by omega);obtain⟨n3,hn3⟩:=ka (show 0<=1+j by omega);simp only[fU,e2,e3,an,ar,wj,aE,aL,dz,Nat.reduceAdd,l1];by_cases qd:K=14
  ·obtain⟨s4,o4,e4,g4,q1,q2⟩:=MK hr 0 [] K [] [] [] [] n hn 2 ae 0 s3 (m+3) [aa.mk 1 [] [] [],aa.mk 1 [] [] []] (by omega) rfl (g3.up (by omega)) (by omega) rfl (fun x hx=>by
    rcases fe.1 hx with q|hx
    ·rw[q];exact⟨rfl,rfl,cN _⟩
    ·rw[ej.1 hx];exact⟨rfl,rfl,cN _⟩)
   have e4':M.sq rec 2 0 [] K [] [] [] [] ae 0 s3 n [aa.mk 1 [] [] [],aa.mk 1 [] [] []]=_:=e4;simp only[Ug qd,du,e4',bQ,ak,cn];exact⟨aa.mk K [] [] o4,s4,rfl,g4.up (by omega),mr.mid (by show o4.length<=3;omega) q2 (cN _) (fun x hx=>by cases hx) rfl⟩
  ·simp only[Uh qd,fU];by_cases h15:K=15
   ·obtain⟨s4,o4,e4,g4,q1,q2⟩:=Ue hr n3 (by omega) 0 [] K [] [] [] [] n hn n3 ae 0 s3 (m+3) [] (by omega) (by omega) (g3.up (by omega)) (by omega) rfl (fun x hx=>by cases hx);rw[<-hn3]at e4;have e4':M.uJ rec 2 (1+j) 0 [] K [] [] [] [] ae 0 s3 n []=_:=e4;simp only[Ug h15,du,e4',bQ,ak,cn];exact⟨aa.mk K [] [] o4,s4,rfl,g4.up (by omega),mr.mid (by show o4.length<=3;omega) q2 (cN _) (fun x hx=>by cases hx) rfl⟩
   ·simp only[Uh h15,fU];cases h16:(bif K==16 then K==16 else K==17)
    ·simp only[fU];cases h18:(bif K==18 then K==18 else K==19)
     ·obtain⟨x,s4,e4,g4,hx⟩:=hr s3 (m+3) n (g3.up (by omega)) (by omega) hn;simp only[fU,CG,e4,nU,an,ar,uI,bQ,ak,cn,bh,du];exact⟨aa.mk K [] [] [x],s4,rfl,g4.up (by omega),mr.mid (by show 1<=3;omega) (fun y hy=>by rw[ej.1 hy];exact hx) (cN _) (fun x hx=>by cases hx) rfl⟩
     ·have hc:=jW (a:=0) (b:=(List.drop (Int.toNat (0:Int)) (List.take (Int.toNat (1+j)) [[(97:UInt8)],[(98:UInt8)],[(99:UInt8),(45:UInt8),(100:UInt8)]])).length) (by omega);simp only[du,bQ,ak,cn,bh];simp only[dz]at hc;simp only[hc,du,fB];exact⟨aa.mk K [] _ [],s3,rfl,g3.up (by omega),mr.mid (cN _) (fun x hx=>by cases hx) l2 l3 rfl⟩
    ·obtain⟨s4,o4,e4,g4,q1,q2⟩:=Uf hr n3 (by omega) 0 [] K [] [] [] ([]++(List.drop (Int.toNat (0:Int)) (List.take (Int.toNat (1+j)) [[(97:UInt8)],[(98:UInt8)],[(99:UInt8),(45:UInt8),(100:UInt8)]]))) n hn n3 ae 0 s3 (m+3) [] (by omega) (by omega) (g3.up (by omega)) (by omega) rfl (fun x hx=>by cases hx);rw[<-hn3]at e4;have e4':M.pw rec 2 (1+j) 0 [] K [] [] [] ([]++(List.drop (Int.toNat (0:Int)) (List.take (Int.toNat (1+j)) [[(97:UInt8)],[(98:UInt8)],[(99:UInt8),(45:UInt8),(100:UInt8)]]))) ae 0 s3 n []=_:=e4;have hc:=jW (a:=0) (b:=(List.drop (Int.toNat (0:Int)) (List.take (Int.toNat (1+j)) [[(97:UInt8)],[(98:UInt8)],[(99:UInt8),(45:UInt8),(100:UInt8)]])).length) (by omega);simp only[dz]at hc;simp only[du,e4',bQ,ak,cn,bh,hc];exact⟨aa.mk K [] _ o4,s4,rfl,g4.up (by omega),mr.mid (by show o4.length<=3;omega) q2 l2 l3 rfl⟩
theorem ML(s:aT)(m:Int)(n:List (List UInt8))(h:dy s m)(hm:m<=1000000000)(hn:so n):∃t s',M.wq 2 s n=some (nU t s' n)/\dy s' (m+40)/\mr t:=by
 obtain⟨g,hg⟩:∃g,ae=(g+1)+1:=⟨ae-2,by have:=aZ;omega⟩;unfold M.wq;rw[hg];exact ajD (rec:=M.CH (g+1)) (fun s m n h hm hn=>ajB _ s m n h hm hn) s m n h hm hn
end M
namespace M
open Go.V (inB bN au ae aZ)
theorem MM(k:Nat)(h1:1<=k)(h2:k<=2):∃d,M.wu (k:Int)=some d/\d.length=1:=by
 obtain⟨g,hg⟩:∃g,ae=g+1:=⟨ae-1,by have:=aZ;omega⟩;unfold M.wu;rw[hg];have:k=1\/k=2:=by omega
 rcases this with rfl|rfl
 ·exact⟨[49],rfl,rfl⟩
 ·exact⟨[50],rfl,rfl⟩
theorem down(j:Nat)(h:j<=100):Go.IntKind.wrap .i64 (((j+1:Nat):Int)-1)=(j:Int):=by rw[wrap_i64 (by omega) (by omega)];omega
theorem CJ(j:Nat):decide ((0:Int)<((j+1:Nat):Int))=true:=cM (by omega)
theorem CL:decide ((0:Int)<((0:Nat):Int))=false:=rfl
theorem Ui(t8 f:List UInt8)(o7:List ai):∀(j fu:Nat)(s:aT)(m:Int)(n:List (List UInt8))(o:List ai),j<fu->j<=2->dy s m->m+40*(j:Int)<=900000000->n.length+j<=20->(∀x∈n,x.length<=4)->o.length+j<=100->
 ∃s' n' o',M.kq t8 f o7 fu (j:Int) s n o=some (s',t8,f,n',o7,o++o')/\dy s' (m+40*(j:Int))/\n'.length<=n.length+j/\(∀x∈n',x.length<=4)/\o'.length=j/\∀x∈o',mw x
 |j,0,s,m,n,o,h1,_,_,_,_,_,_=>by omega
 |0,fu+1,s,m,n,o,h1,h2,hs,hm,hn,hn4,ho=>by
  rw[M.kq,CL];exact⟨s,n,[],by simp,hs.up (by omega),by omega,hn4,rfl,fun x hx=>by cases hx⟩
 |j+1,fu+1,s,m,n,o,h1,h2,hs,hm,hn,hn4,ho=>by
  obtain⟨d,ed,ld⟩:=MM (j+1) (by omega) h2;obtain⟨t,s1,e1,g1,ht⟩:=ML s m n hs (by omega) ⟨by omega,hn4⟩;have c1:au [(116:UInt8),(45:UInt8)] d=true:=bz (by simp only[aE,aL];omega);have hc:=jW (a:=o.length) (b:=1) (by omega);have hc2:=jW (a:=n.length) (b:=1) (by omega);obtain⟨s2,n2,o2,e2,g2,k1,k2,k3,k4⟩:=Ui t8 f o7 j fu s1 (m+40) (n++[[116,45]++d]) (o++[ai.mk 2 ([116,45]++d) t [] false (aI.mk [] [] []) []]) (by omega) (by omega) g1 (by omega) (by simp;omega) (fun x hx=>by
   rcases df.1 hx with q|q
   ·exact hn4 x q
   ·rw[ej.1 q];simp;omega) (by simp;omega)
  rw[M.kq,CJ];simp only[du,e1,ed,nU,an,ar,uI,aE,aL,dz,c1,hc,hc2,bQ,ak,down j (by omega),e2];refine⟨s2,n2,ai.mk 2 ([116,45]++d) t [] false (aI.mk [] [] []) []::o2,by simp,g2.up (by omega),by simp at k1;omega,k2,by simp[k3],fun x hx=>?_⟩;rcases fe.1 hx with q|q
  ·rw[q];exact mw.of (by simp;omega) iZ.zero (cN _) (fun u hu=>by cases hu) (cN _) (fun u hu=>by cases hu) ht
  ·exact k4 x q
theorem Uj(k:Int)(t8 f:List UInt8)(i:Int)(i2:List UInt8)(i3:Int)(i4:List UInt8)(i5:Bool)(i6 i7 i8:List UInt8)(kr nV:List ai)(nW:List (List UInt8))(nX:List aa)(nY:List aW)(n:List (List UInt8))(hn:so n):
 ∀(j fu:Nat)(s:aT)(m:Int)(o:List aV),j<fu->j<=2->dy s m->m+40*(j:Int)<=900000000->o.length+j<=100->
 ∃s' o',M.wv k t8 f i i2 i3 i4 i5 i6 i7 i8 kr nV nW nX nY fu (j:Int) s n o=some (k,s',t8,f,i,i2,i3,i4,i5,i6,i7,i8,n,kr,nV,nW,nX,o++o',nY)/\dy s' (m+40*(j:Int))/\o'.length=j/\∀p∈o',p.Name.length<=2/\mr p.Term
 |j,0,s,m,o,h1,_,_,_,_=>by omega
 |0,fu+1,s,m,o,h1,h2,hs,hm,ho=>by
  rw[M.wv,CL];exact⟨s,[],by simp,hs.up (by omega),rfl,fun x hx=>by cases hx⟩
 |j+1,fu+1,s,m,o,h1,h2,hs,hm,ho=>by
  obtain⟨d,ed,ld⟩:=MM (j+1) (by omega) h2;obtain⟨t,s1,e1,g1,ht⟩:=ML s m n hs (by omega) hn;have c1:au [(112:UInt8)] d=true:=bz (by simp only[aE,aL];omega);have hc:=jW (a:=o.length) (b:=1) (by omega);obtain⟨s2,o2,e2,g2,k3,k4⟩:=Uj k t8 f i i2 i3 i4 i5 i6 i7 i8 kr nV nW nX nY n hn j fu s1 (m+40) (o++[aV.mk ([112]++d) t]) (by omega) (by omega) g1 (by omega) (by simp;omega);rw[M.wv,CJ];simp only[du,e1,ed,nU,an,ar,uI,aE,aL,dz,c1,hc,bQ,ak,down j (by omega),e2];refine⟨s2,aV.mk ([112]++d) t::o2,by simp,g2.up (by omega),by simp[k3],fun x hx=>?_⟩;rcases fe.1 hx with q|q
  ·rw[q];exact⟨by simp;omega,ht⟩
  ·exact k4 x q
theorem Uk(t8 f:List UInt8)(o7:List ai)(n:List (List UInt8))(hn:so n):
 ∀(j fu:Nat)(s:aT)(m:Int)(o:List ai),j<fu->j<=2->dy s m->m+200*(j:Int)<=900000000->o.length+j<=100->
 ∃s' o',M.jC fu (j:Int) s t8 f n o7 o=some (s'.code,s'.at_,s'.seed,t8,f,o7,o++o')/\dy s' (m+200*(j:Int))/\o'.length=j/\∀p∈o',mw p
 |j,0,s,m,o,h1,_,_,_,_=>by omega
 |0,fu+1,s,m,o,h1,h2,hs,hm,ho=>by
  rw[M.jC,CL];exact⟨s,[],by simp,hs.up (by omega),rfl,fun x hx=>by cases hx⟩
 |j+1,fu+1,s,m,o,h1,h2,hs,hm,ho=>by
  have hb:=aZ;obtain⟨d,ed,ld⟩:=MM (j+1) (by omega) h2;obtain⟨a,s1,e1,g1⟩:=mx hs (by omega) 4 (by omega) (by omega);obtain⟨p,s2,e2,g2,p0,p3⟩:=ko g1 (by omega) 3 (by omega) (by omega);obtain⟨pn,rfl⟩:=ka p0;obtain⟨s3,ps,e3,g3,k3,k4⟩:=Uj ((j+1:Nat):Int) t8 f 3 ([102]++d) 1 [] a [] [] [] o7 o [] [] [] n hn pn ae s2 (m+2) [] (by omega) (by omega) (g2.up (by omega)) (by omega) (by simp;omega);obtain⟨b,s4,e4,g4⟩:=mx g3 (by omega) 2 (by omega) (by omega);have c1:au [(102:UInt8)] d=true:=bz (by simp only[aE,aL];omega);have hc:=jW (a:=o.length) (b:=1) (by omega);have next:∀(t:aa)(s5:aT),mr t->dy s5 (m+200)->∃s' o',M.jC fu (j:Int) s5 t8 f n o7 (o++[ai.mk 3 ([102]++d) t ps a (aI.mk [] [] []) []])=some (s'.code,s'.at_,s'.seed,t8,f,o7,o++o')/\dy s' (m+200*((j+1:Nat):Int))/\o'.length=j+1/\∀p∈o',mw p:=fun t s5 ht g5=>by
   obtain⟨s6,o6,e6,g6,q1,q2⟩:=Uk t8 f o7 n hn j fu s5 (m+200) (o++[ai.mk 3 ([102]++d) t ps a (aI.mk [] [] []) []]) (by omega) (by omega) g5 (by omega) (by simp;omega);refine⟨s6,ai.mk 3 ([102]++d) t ps a (aI.mk [] [] []) []::o6,by rw[e6];simp,g6.up (by omega),by simp[q1],fun x hx=>?_⟩;rcases fe.1 hx with q|q
   ·rw[q];exact mw.of (by simp;omega) iZ.zero (cN _) (fun u hu=>by cases hu) (by show ps.length<=2;omega) k4 ht
   ·exact q2 x q
  rw[M.jC,CJ];simp only[du,ed,e1,e2,e3,e4,an,ar,fB];cases b with
  |true=>
   obtain⟨t,s5,e5,g5,ht⟩:=ML s4 (m+90) n (g4.up (by omega)) (by omega) hn;obtain⟨s6,o6,e6,r⟩:=next t s5 ht (g5.up (by omega))
   simp only[du,e5,nU,an,ar,uI,aE,aL,dz,c1,hc,bQ,ak,down j (by omega),e6];exact⟨s6,o6,rfl,r⟩
  |false=>
   obtain⟨s6,o6,e6,r⟩:=next (aa.mk 1 [] [] []) s4 (iv.term ⟨rfl,rfl,cN _⟩) (g4.up (by omega))
   simp only[du,fU,an,ar,aE,aL,dz,c1,hc,bQ,ak,down j (by omega),e6];exact⟨s6,o6,rfl,r⟩
theorem qF(name:List UInt8)(hname:name.length<=5)(s:aT)(m:Int)(h:dy s m)(hm:m<=100000000)(n0:List (List UInt8))(hn:n0.length<=5)(hn4:∀x∈n0,x.length<=4)(i0:List ai)(hi:i0.length<=2)(hI:∀x∈i0,mw x):
 ∃v s1,M.dm 3 s=some (v,s1)/\∃y,M.kq [] name [] ae v s1 n0 i0=some y/\∃w s3,M.dm 3 y.1=some (w,s3)/\∃z,M.jC ae w s3 y.2.1 y.2.2.1 y.2.2.2.1 y.2.2.2.2.1 y.2.2.2.2.2=some z/\uH (aF.mk z.2.2.2.2.1 z.2.2.2.2.2.2)/\dy (aT.mk z.1 z.2.1 z.2.2.1) (m+500):=by
 have hb:=aZ;obtain⟨v,s1,e1,g1,v0,v3⟩:=ko h (by omega) 3 (by omega) (by omega);obtain⟨vn,rfl⟩:=ka v0;obtain⟨s2,n2,o2,e2,g2,k1,k2,k3,k4⟩:=Ui [] name [] vn ae s1 (m+1) n0 i0 (by omega) (by omega) g1 (by omega) (by omega) hn4 (by omega);obtain⟨w,s3,e3,g3,w0,w3⟩:=ko g2 (by omega) 3 (by omega) (by omega);obtain⟨wn,rfl⟩:=ka w0;obtain⟨s4,o4,e4,g4,q1,q2⟩:=Uk [] name [] n2 ⟨by omega,k2⟩ wn ae s3 (m+90) (i0++o2) (by omega) (by omega) (g3.up (by omega)) (by omega) (by simp;omega);refine⟨_,s1,e1,_,e2,_,s3,e3,_,e4,⟨hname,?_,fun x hx=>?_⟩,g4.up (by omega)⟩
 ·simp only[aG];omega
 ·simp only[df]at hx;rcases hx with(hx|hx)|hx
  ·exact hI x hx
  ·exact k4 x hx
  ·exact q2 x hx
def ajE:ai:=ai.mk 1 [98,101,100] (aa.mk 0 [] [] []) [] false (aI.mk [] [] []) []
theorem ajF:mw ajE:=mw.of (by decide) iZ.zero (cN _) (fun u hu=>by cases hu) (cN _) (fun u hu=>by cases hu) (iv.term ⟨rfl,rfl,cN _⟩)
theorem FV(u:aW)(p:aI)(hp:iZ p)(h1:u.Name.length<=3)(h2:u.As.length<=4):mw (ai.mk 4 [] (aa.mk 0 [] [] []) [] false p [u]):=
 mw.of (cN _) hp (cq _) (fun v hv=>by rw[ej.1 hv];exact⟨h1,h2⟩) (cN _) (fun u hu=>by cases hu) (iv.term ⟨rfl,rfl,cN _⟩)
theorem Ul(n:List UInt8):M.nL (aW.mk n [117,115,101,100])=some [117,115,101,100]:=rfl
theorem FW(n:List UInt8):M.nL (aW.mk n [])=some n:=rfl
theorem Um{l:List aI}(h:∀x∈l,iZ x)(k:Nat)(hk:k<l.length):iZ (l.getD k aI.zero):=by rw[getD_lt hk];exact h _ (de hk)
theorem CM:∀x∈([]++[ai.mk 1 [(98:UInt8),(101:UInt8),(100:UInt8)] (aa.mk 0 [] [] []) [] false (aI.mk [] [] []) []]:List ai),mw x:=fun x hx=>by
 rw[fB]at hx;rw[ej.1 hx];exact ajF
theorem Un(name:List UInt8)(hname:name.length<=5)(s:aT)(m:Int)(h:dy s m)(hm:m<=10000000)(from_:List aI)(hfc:from_.length<=20)(Uo:∀x∈from_,iZ x)(given:List (List UInt8))(hgc:given.length<=5)(Ur:∀x∈given,x.length<=3):
 ∃f s',M.zd name s from_ given=some (f,s',from_,given)/\dy s' (m+600)/\uH f:=by
 obtain⟨a,s1,e1,g1⟩:=mx h (by omega) 2 (by omega) (by omega);unfold M.zd;simp only[e1,an,ar];cases a with
 |true=>
  simp only[du];cases hq:(decide ((0:Int)<(from_.length:Int))&&decide ((0:Int)<(given.length:Int)))
  ·obtain⟨v,s2,e2,y,e3,w,s3,e4,z,e5,hF,hS⟩:=qF name hname s1 (m+1) g1 (by omega) ([]++[[(98:UInt8),(101:UInt8),(100:UInt8)]]) (by simp) (by simp) ([]++[ai.mk 1 [(98:UInt8),(101:UInt8),(100:UInt8)] (aa.mk 0 [] [] []) [] false (aI.mk [] [] []) []]) (by simp) CM;simp only[fU,e2,e3,e4,e5,an,ar,cn,ak,bQ,du];exact⟨_,_,rfl,hS.up (by omega),hF⟩
  ·have hfl:1<=from_.length/\1<=given.length:=by simp only[bu,bX]at hq;omega
   obtain⟨b,s2,e2,g2⟩:=mx g1 (by omega) 2 (by omega) (by omega);simp only[du,e2,an,ar];cases b with
   |false=>
    obtain⟨v,s3,e3,y,e4,w,s4,e5,z,e6,hF,hS⟩:=qF name hname s2 (m+2) (g2.up (by omega)) (by omega) ([]++[[(98:UInt8),(101:UInt8),(100:UInt8)]]) (by simp) (by simp) ([]++[ai.mk 1 [(98:UInt8),(101:UInt8),(100:UInt8)] (aa.mk 0 [] [] []) [] false (aI.mk [] [] []) []]) (by simp) CM;simp only[fU,e3,e4,e5,e6,an,ar,cn,ak,bQ,du];exact⟨_,_,rfl,hS.up (by omega),hF⟩
   |true=>
    obtain⟨x,s3,e3,g3,hx⟩:=FT g2 (by omega) given hfl.2 (by omega);obtain⟨c,s4,e4,g4⟩:=mx g3 (by omega) 2 (by omega) (by omega);simp only[du,e3,e4,an,ar];have hx3:=Ur x hx;obtain⟨p,s5,e5,g5,p0,p1⟩:=ko g4 (by omega) (from_.length:Int) (by omega) (by omega);obtain⟨pn,rfl⟩:=ka p0;have hin:inB (pn:Int) from_.length=true:=by rw[db];simp;omega
    have hP:=Um Uo pn (by omega);cases c with
    |true=>
     obtain⟨v,s6,e6,y,e7,w,s7,e8,z,e9,hF,hS⟩:=qF name hname s5 (m+5) (g5.up (by omega)) (by omega) (([]++[[(98:UInt8),(101:UInt8),(100:UInt8)]])++[[117,115,101,100]]) (by simp) (fun y hy=>by simp at hy;first|(rcases hy with rfl|rfl<;>(first|decide|omega))|(rw[hy];first|decide|omega)) (([]++[ai.mk 1 [(98:UInt8),(101:UInt8),(100:UInt8)] (aa.mk 0 [] [] []) [] false (aI.mk [] [] []) []])++[ai.mk 4 [] (aa.mk 0 [] [] []) [] false (from_.getD pn aI.zero) [aW.mk x [117,115,101,100]]]) (by simp) (fun y hy=>by
      rcases df.1 hy with q|q
      ·exact CM _ q
      ·rw[ej.1 q];exact FV _ _ hP hx3 (by simp))
     simp only[du,Ul,e5,e6,bG,hin,e7,e8,e9,an,ar,cn,ak,bQ];exact⟨_,_,rfl,hS.up (by omega),hF⟩
    |false=>
     simp only[fU,FW,an,ar];cases ajG:(!(x==[(98:UInt8),(101:UInt8),(100:UInt8)]))
     ·obtain⟨v,s6,e6,y,e7,w,s7,e8,z,e9,hF,hS⟩:=qF name hname s4 (m+5) (g4.up (by omega)) (by omega) ([]++[[(98:UInt8),(101:UInt8),(100:UInt8)]]) (by simp) (by simp) ([]++[ai.mk 1 [(98:UInt8),(101:UInt8),(100:UInt8)] (aa.mk 0 [] [] []) [] false (aI.mk [] [] []) []]) (by simp) CM;simp only[fU,e6,e7,e8,e9,an,ar,cn,ak,bQ,du];exact⟨_,_,rfl,hS.up (by omega),hF⟩
     ·obtain⟨v,s6,e6,y,e7,w,s7,e8,z,e9,hF,hS⟩:=qF name hname s5 (m+5) (g5.up (by omega)) (by omega) (([]++[[(98:UInt8),(101:UInt8),(100:UInt8)]])++[x]) (by simp) (fun y hy=>by simp at hy;first|(rcases hy with rfl|rfl<;>(first|decide|omega))|(rw[hy];first|decide|omega)) (([]++[ai.mk 1 [(98:UInt8),(101:UInt8),(100:UInt8)] (aa.mk 0 [] [] []) [] false (aI.mk [] [] []) []])++[ai.mk 4 [] (aa.mk 0 [] [] []) [] false (from_.getD pn aI.zero) [aW.mk x []]]) (by simp) (fun y hy=>by
      rcases df.1 hy with q|q
      ·exact CM _ q
      ·rw[ej.1 q];exact FV _ _ hP hx3 (by simp))
      simp only[du,FW,e5,e6,bG,hin,e7,e8,e9,an,ar,cn,ak,bQ];exact⟨_,_,rfl,hS.up (by omega),hF⟩
 |false=>
  simp only[fU];cases hq:(decide ((0:Int)<(from_.length:Int))&&decide ((0:Int)<(given.length:Int)))
  ·obtain⟨v,s2,e2,y,e3,w,s3,e4,z,e5,hF,hS⟩:=qF name hname s1 (m+1) g1 (by omega) [] (by simp) (by simp) [] (by simp) (fun x hx=>by cases hx);simp only[fU,e2,e3,e4,e5,an,ar,cn,ak,bQ,du];exact⟨_,_,rfl,hS.up (by omega),hF⟩
  ·have hfl:1<=from_.length/\1<=given.length:=by simp only[bu,bX]at hq;omega
   obtain⟨b,s2,e2,g2⟩:=mx g1 (by omega) 2 (by omega) (by omega);simp only[du,e2,an,ar];cases b with
   |false=>
    obtain⟨v,s3,e3,y,e4,w,s4,e5,z,e6,hF,hS⟩:=qF name hname s2 (m+2) (g2.up (by omega)) (by omega) [] (by simp) (by simp) [] (by simp) (fun x hx=>by cases hx);simp only[fU,e3,e4,e5,e6,an,ar,cn,ak,bQ,du];exact⟨_,_,rfl,hS.up (by omega),hF⟩
   |true=>
    obtain⟨x,s3,e3,g3,hx⟩:=FT g2 (by omega) given hfl.2 (by omega);obtain⟨c,s4,e4,g4⟩:=mx g3 (by omega) 2 (by omega) (by omega);simp only[du,e3,e4,an,ar];have hx3:=Ur x hx;obtain⟨p,s5,e5,g5,p0,p1⟩:=ko g4 (by omega) (from_.length:Int) (by omega) (by omega);obtain⟨pn,rfl⟩:=ka p0;have hin:inB (pn:Int) from_.length=true:=by rw[db];simp;omega
    have hP:=Um Uo pn (by omega);cases c with
    |true=>
     obtain⟨v,s6,e6,y,e7,w,s7,e8,z,e9,hF,hS⟩:=qF name hname s5 (m+5) (g5.up (by omega)) (by omega) ([]++[[117,115,101,100]]) (by simp) (fun y hy=>by simp at hy;first|(rcases hy with rfl|rfl<;>(first|decide|omega))|(rw[hy];first|decide|omega)) ([]++[ai.mk 4 [] (aa.mk 0 [] [] []) [] false (from_.getD pn aI.zero) [aW.mk x [117,115,101,100]]]) (by simp) (fun y hy=>by
      rcases df.1 hy with q|q
      ·cases q
      ·rw[ej.1 q];exact FV _ _ hP hx3 (by simp))
     simp only[du,Ul,e5,e6,bG,hin,e7,e8,e9,an,ar,cn,ak,bQ];exact⟨_,_,rfl,hS.up (by omega),hF⟩
    |false=>
     simp only[fU,FW,an,ar];cases ajG:(!(x==[(98:UInt8),(101:UInt8),(100:UInt8)]))
     ·obtain⟨v,s6,e6,y,e7,w,s7,e8,z,e9,hF,hS⟩:=qF name hname s4 (m+5) (g4.up (by omega)) (by omega) [] (by simp) (by simp) [] (by simp) (fun x hx=>by cases hx);simp only[fU,e6,e7,e8,e9,an,ar,cn,ak,bQ,du];exact⟨_,_,rfl,hS.up (by omega),hF⟩
     ·obtain⟨v,s6,e6,y,e7,w,s7,e8,z,e9,hF,hS⟩:=qF name hname s5 (m+5) (g5.up (by omega)) (by omega) ([]++[x]) (by simp) (fun y hy=>by simp at hy;first|(rcases hy with rfl|rfl<;>(first|decide|omega))|(rw[hy];first|decide|omega)) ([]++[ai.mk 4 [] (aa.mk 0 [] [] []) [] false (from_.getD pn aI.zero) [aW.mk x []]]) (by simp) (fun y hy=>by
      rcases df.1 hy with q|q
      ·cases q
      ·rw[ej.1 q];exact FV _ _ hP hx3 (by simp))
      simp only[du,FW,e5,e6,bG,hin,e7,e8,e9,an,ar,cn,ak,bQ];exact⟨_,_,rfl,hS.up (by omega),hF⟩
end M
namespace M
open Go.V (inB bN au ae aZ)
theorem CN{s:aT}{m:Int}(h:dy s m)(hm:m<=1000000000000)(l:List (List UInt8))(h1:1<=l.length)(h2:l.length<=200):∃v s',M.m5 l s=some (v,s')/\dy s' (m+1)/\v∈l:=by
 obtain⟨v,s',e,g1,g2,g3⟩:=ko h hm (l.length:Int) (by omega) (by omega);unfold M.m5;obtain⟨k,rfl⟩:=ka g2;have hk:k<l.length:=by omega
 have hin:inB (k:Int) l.length=true:=by rw[db];simpa using hk
 simp only[e,hin,an,ar,bQ,bj,ad,bG,getD_lt hk];exact⟨_,_,rfl,g1,de hk⟩
theorem Us(j:Nat)(h:j<=1000):Go.IntKind.wrap .i64 ((j:Int)+1)=((j+1:Nat):Int):=by rw[wrap_i64 (by omega) (by omega)];omega
theorem Ut(k:Int)(x x2:List UInt8)(out:List ah)(ho:out.length<=3)(hO:∀y∈out,k9 y)(o8:List aF)(o9:List aS):
 ∀(j fu i:Nat)(s:aT)(m:Int)(o:List aI),j<fu->i+j=out.length->dy s m->m+(j:Int)<=900000000->o.length+j<=10->(∀p∈o,iZ p)->
 ∃s' o',M.uK k x x2 out o8 o9 fu (i:Int) s o=some (k,s',x,x2,out,o',o8,o9)/\dy s' (m+(j:Int))/\o'.length<=10/\∀p∈o',iZ p
 |j,0,i,s,m,o,h1,_,_,_,_,_=>by omega
 |0,fu+1,i,s,m,o,h1,h2,hs,hm,hc,hp=>by
  rw[M.uK,ct (by omega)];exact⟨s,o,rfl,hs.up (by omega),by omega,hp⟩
 |j+1,fu+1,i,s,m,o,h1,h2,hs,hm,hc,hp=>by
  have hi:i<out.length:=by omega
  obtain⟨v,s1,e1,g1,hv⟩:=CN hs (by omega) [(out.getD i ah.zero).Version,[49,46,48,46,48],[]] (by simp) (by simp);have hq:=hO _ (de hi);have hv5:v.length<=5:=by
   rw[getD_lt hi]at hv;simp only[fe,sR,zQ]at hv;rcases hv with rfl|rfl|rfl
   ·exact hq.v
   ·decide
   ·decide
  have hP:iZ (aI.mk (out.getD i ah.zero).Name [116,121,112,101,115] v):=by
   rw[getD_lt hi];exact⟨by have:=hq.n.len;show out[i].Name.length<=5;omega,by simp,hv5⟩
  obtain⟨s2,o2,e2,g2,k1,k2⟩:=Ut k x x2 out ho hO o8 o9 j fu (i+1) s1 (m+1) (o++[aI.mk (out.getD i ah.zero).Name [116,121,112,101,115] v]) (by omega) (by omega) g1 (by omega) (by simp;omega) (fun p hpp=>by
   rcases df.1 hpp with q|q
   ·exact hp p q
   ·rw[ej.1 q];exact hP)
  have hc1:=jW (a:=o.length) (b:=1) (by omega);have hin:inB (i:Int) out.length=true:=by rw[db];simpa using hi
  rw[M.uK,cM (by omega)];simp only[du,bG,e1,an,ar,aE,aL,dz,hc1,hin,bQ,ak,Us i (by omega),e2];exact⟨s2,o2,rfl,g2.up (by omega),k1,k2⟩
theorem main5:iZ (aI.mk [] [109,97,105,110] []):=⟨by decide,by decide,by decide⟩
theorem Uu(k:Int)(x x2 w:List UInt8)(out:List ah)(ho:out.length<=3)(hO:∀y∈out,k9 y)(o8:List aF)(o9:List aS):
 ∀(j fu:Nat)(s:aT)(m:Int)(o:List aN),j<fu->j<=3->dy s m->m+10*(j:Int)<=900000000->o.length+j<=3->(∀p∈o,za p)->
 ∃s' o',M.kt k x x2 w out o8 o9 fu (j:Int) s o=some (k,s',x,x2,w,out,o8,o9,o')/\dy s' (m+10*(j:Int))/\o'.length<=3/\∀p∈o',za p
 |j,0,s,m,o,h1,_,_,_,_,_=>by omega
 |0,fu+1,s,m,o,h1,h2,hs,hm,hc,hp=>by
  rw[M.kt,CL];exact⟨s,o,rfl,hs.up (by omega),by omega,hp⟩
 |j+1,fu+1,s,m,o,h1,h2,hs,hm,hc,hp=>by
  obtain⟨nm,s1,e1,g1,hnm⟩:=CN hs (by omega) [[(116:UInt8),(121:UInt8),(112:UInt8),(101:UInt8),(115:UInt8)],[(109:UInt8),(111:UInt8),(114:UInt8),(101:UInt8)]] (by simp) (by simp);have MN:nm.length<=5:=by
   simp only[fe,sR,zQ]at hnm;rcases hnm with rfl|rfl<;>decide
  obtain⟨K,s2,e2,g2,-⟩:=Ud g1 (by omega) [(1:Int),(2:Int),(3:Int)] (by decide) (by decide);have hc1:=jW (a:=o.length) (b:=1) (by omega);have next:∀(p:aI)(s5:aT),iZ p->dy s5 (m+10)->∃s' o',M.kt k x x2 w out o8 o9 fu (j:Int) s5 (o++[aN.mk K p])=some (k,s',x,x2,w,out,o8,o9,o')/\dy s' (m+10*((j+1:Nat):Int))/\o'.length<=3/\∀p∈o',za p:=fun p s5 hP g5=>by
   obtain⟨s6,o6,e6,g6,q1,q2⟩:=Uu k x x2 w out ho hO o8 o9 j fu s5 (m+10) (o++[aN.mk K p]) (by omega) (by omega) g5 (by omega) (by simp;omega) (fun y hy=>by
    rcases df.1 hy with q|q
    ·exact hp y q
    ·rw[ej.1 q];exact⟨hP⟩)
   exact⟨s6,o6,e6,g6.up (by omega),q1,q2⟩
  have Uw:∀(nm:List UInt8)(s3:aT),nm.length<=5->1<=out.length->dy s3 (m+3)->∃(pn:Nat)(s4:aT),M.dm (out.length:Int) s3=some ((pn:Int),s4)/\inB (pn:Int) out.length=true/\∃v s5,M.m5 [[],[(49:UInt8),(46:UInt8),(48:UInt8),(46:UInt8),(48:UInt8)],[(49:UInt8),(46:UInt8),(49:UInt8),(46:UInt8),(48:UInt8)]] s4=some (v,s5)/\dy s5 (m+10)/\iZ (aI.mk (out.getD pn ah.zero).Name nm v):=fun nm s3 hnm h1 g3=>by
   obtain⟨p,s4,e4,g4,p0,p1⟩:=ko g3 (by omega) (out.length:Int) (by omega) (by omega);obtain⟨pn,rfl⟩:=ka p0;have hpn:pn<out.length:=by omega
   obtain⟨v,s5,e5,g5,hv⟩:=CN g4 (by omega) [[],[(49:UInt8),(46:UInt8),(48:UInt8),(46:UInt8),(48:UInt8)],[(49:UInt8),(46:UInt8),(49:UInt8),(46:UInt8),(48:UInt8)]] (by simp) (by simp);have hq:=hO _ (de hpn);refine⟨pn,s4,e4,by rw[db];simpa using hpn,v,s5,e5,g5.up (by omega),?_⟩;rw[getD_lt hpn];refine⟨by have:=hq.n.len;show out[pn].Name.length<=5;omega,hnm,?_⟩;simp only[fe,sR,zQ]at hv;rcases hv with rfl|rfl|rfl<;>simp
  rw[M.kt,CJ];simp only[du,e1,e2,an,ar,down j (by omega)];by_cases hl:1<=out.length
  ·have d2:decide ((0:Int)<(out.length:Int))=true:=cM (by omega);obtain⟨b,s3,e3,g3⟩:=mx g2 (by omega) 2 (by omega) (by omega);simp only[d2,du,e3,an,ar];cases hK:(K==3)
   ·simp only[fU,cK,lP];cases b with
    |true=>
     obtain⟨pn,s4,e4,hin,v,s5,e5,g5,hP⟩:=Uw nm s3 MN hl (g3.up (by omega));obtain⟨s6,o6,e6,r⟩:=next _ s5 hP g5
     simp only[du,e4,hin,e5,bG,an,ar,aE,aL,dz,hc1,bQ,ak,cn,e6];exact⟨s6,o6,rfl,r⟩
    |false=>
     obtain⟨s6,o6,e6,r⟩:=next (aI.mk [] nm []) s3 ⟨cN _,MN,cN _⟩ (g3.up (by omega))
     simp only[fU,du,an,ar,aE,aL,dz,hc1,bQ,ak,cn,e6];exact⟨s6,o6,rfl,r⟩
   ·obtain⟨pn,s4,e4,hin,v,s5,e5,g5,hP⟩:=Uw [109,97,105,110] s3 (by decide) hl (g3.up (by omega));obtain⟨s6,o6,e6,r⟩:=next _ s5 hP g5
    simp only[du,bj,d4,e4,hin,e5,bG,an,ar,aE,aL,dz,hc1,bQ,ak,cn,e6];exact⟨s6,o6,rfl,r⟩
  ·have d2:decide ((0:Int)<(out.length:Int))=false:=ct (by omega);simp only[d2,fU,Bool.and_false,cn];cases hK:(K==3)
   ·obtain⟨s6,o6,e6,r⟩:=next (aI.mk [] nm []) s2 ⟨cN _,MN,cN _⟩ (g2.up (by omega))
    simp only[fU,du,an,ar,aE,aL,dz,hc1,bQ,ak,cn,e6];exact⟨s6,o6,rfl,r⟩
   ·obtain⟨s6,o6,e6,r⟩:=next (aI.mk [] [109,97,105,110] []) s2 main5 (g2.up (by omega))
    simp only[fU,du,an,ar,aE,aL,dz,hc1,bQ,ak,cn,e6];exact⟨s6,o6,rfl,r⟩
theorem Ux:∀(j fu:Nat)(s:aT)(m:Int)(out:List ah),j<fu->j<=3->dy s m->m+2000*(j:Int)<=1000000->out.length+j<=3->(∀p∈out,k9 p)->
 ∃(s':aT)(o':List ah),M.sr fu (j:Int) s out=some (s'.code,s'.at_,s'.seed,o')/\o'.length=out.length+j/\∀p∈o',k9 p
 |j,0,s,m,out,h1,_,_,_,_,_=>by omega
 |0,fu+1,s,m,out,h1,h2,hs,hm,hc,hp=>by
  rw[M.sr,CL];exact⟨s,out,rfl,rfl,hp⟩
 |j+1,fu+1,s,m,out,h1,h2,hs,hm,hc,hp=>by
  have hb:=aZ;obtain⟨nm,s1,e1,g1,hnm⟩:=CN hs (by omega) [[(98:UInt8),(97:UInt8),(115:UInt8),(101:UInt8)],[(98:UInt8),(97:UInt8),(115:UInt8),(101:UInt8)],[(119:UInt8),(97:UInt8),(114:UInt8),(100:UInt8)],[(108:UInt8),(97:UInt8),(98:UInt8)]] (by simp) (by simp);have hnd:FR nm:=by
   simp only[fe,sR,zQ]at hnm;rcases hnm with rfl|rfl|rfl|rfl
   ·exact .inl rfl
   ·exact .inl rfl
   ·exact .inr (.inl rfl)
   ·exact .inr (.inr rfl)
  obtain⟨vr,s2,e2,g2,Uy⟩:=CN g1 (by omega) [[(49:UInt8),(46:UInt8),(48:UInt8),(46:UInt8),(48:UInt8)],[(49:UInt8),(46:UInt8),(49:UInt8),(46:UInt8),(48:UInt8)],[(49:UInt8),(46:UInt8),(50:UInt8),(46:UInt8),(53:UInt8)],[(50:UInt8),(46:UInt8),(48:UInt8),(46:UInt8),(48:UInt8)],[(48:UInt8),(46:UInt8),(49:UInt8),(46:UInt8),(48:UInt8)]] (by simp) (by simp);have hv5:vr.length<=5:=by
   simp only[fe,sR,zQ]at Uy;rcases Uy with rfl|rfl|rfl|rfl|rfl<;>decide
  obtain⟨s3,fr,e3,g3,k1,k2⟩:=Ut ((j+1:Nat):Int) nm vr out (by omega) hp [] [] out.length ae 0 s2 (m+2) [] (by omega) (by omega) (g2.up (by omega)) (by omega) (by simp;omega) (fun p hpp=>by cases hpp);have e3':M.uK ((j+1:Nat):Int) nm vr out [] [] ae 0 s2 []=_:=e3;obtain⟨f1,s4,e4,g4,hf1⟩:=Un [116,121,112,101,115] (by decide) s3 (m+10) (g3.up (by omega)) (by omega) fr (by omega) k2 [[(116:UInt8),(45:UInt8),(49:UInt8)],[(116:UInt8),(45:UInt8),(50:UInt8)]] (by decide) (by decide);obtain⟨b,s5,e5,g5⟩:=mx g4 (by omega) 2 (by omega) (by omega);have next:∀(fs:List aF)(s6:aT),fs.length<=2->(∀f∈fs,uH f)->dy s6 (m+1500)->∃(p:Int)(s7:aT),M.dm 4 s6=some (p,s7)/\∃s8 ws,M.kt ((j+1:Nat):Int) nm vr [109,97,105,110] out fs [] ae p s7 []=some (((j+1:Nat):Int),s8,nm,vr,[109,97,105,110],out,fs,[],ws)/\
   ∃(s':aT)(o':List ah),M.sr fu (j:Int) s8 (out++[ah.mk nm vr fs [aS.mk [109,97,105,110] ws]])=some (s'.code,s'.at_,s'.seed,o')/\o'.length=out.length+(j+1)/\∀p∈o',k9 p:=fun fs s6 hf1 hf2 g6=>by
   obtain⟨p,s7,e7,g7,p0,p1⟩:=ko g6 (by omega) 4 (by omega) (by omega);obtain⟨pn,rfl⟩:=ka p0;obtain⟨s8,ws,e8,g8,w1,w2⟩:=Uu ((j+1:Nat):Int) nm vr [109,97,105,110] out (by omega) hp fs [] pn ae s7 (m+1501) [] (by omega) (by omega) (g7.up (by omega)) (by omega) (by simp;omega) (fun p hpp=>by cases hpp);obtain⟨s9,o9,e9,q1,q2⟩:=Ux j fu s8 (m+2000) (out++[ah.mk nm vr fs [aS.mk [109,97,105,110] ws]]) (by omega) (by omega) (g8.up (by omega)) (by omega) (by simp;omega) (fun y hy=>by
    rcases df.1 hy with q|q
    ·exact hp y q
    ·rw[ej.1 q];exact⟨hnd,hv5,hf1,hf2,cq _,fun z hz=>by rw[ej.1 hz];exact⟨cq _,w1,w2⟩⟩)
   exact⟨_,s7,e7,s8,ws,e8,s9,o9,e9,by rw[q1];simp;omega,q2⟩
  have hc1:=jW (a:=out.length) (b:=1) (by omega);rw[M.sr,CJ];simp only[du,e1,e2,e3',e4,e5,an,ar];cases b with
  |true=>
   obtain⟨f2,s6,e6,g6,hf2⟩:=Un [109,111,114,101] (by decide) s5 (m+700) (g5.up (by omega)) (by omega) (fr++[aI.mk [] [116,121,112,101,115] []]) (by simp;omega) (fun p hpp=>by
    rcases df.1 hpp with q|q
    ·exact k2 p q
    ·rw[ej.1 q];exact⟨by decide,by decide,by decide⟩) [[(116:UInt8),(45:UInt8),(49:UInt8)],[(116:UInt8),(45:UInt8),(50:UInt8)],[(98:UInt8),(101:UInt8),(100:UInt8)]] (by decide) (by decide)
   obtain⟨p,s7,e7,s8,ws,e8,s9,o9,e9,r⟩:=next ([f1]++[f2]) s6 (by simp) (fun f hf=>by
    rcases df.1 hf with q|q
    ·rw[ej.1 q];exact hf1
    ·rw[ej.1 q];exact hf2) (g6.up (by omega))
   have hc2:=jW (a:=fr.length) (b:=1) (by omega);simp only[du,e6,e7,e8,an,ar,aE,aL,dz,hc1,hc2,bQ,ak,down j (by omega),e9];exact⟨s9,o9,rfl,r⟩
  |false=>
   obtain⟨p,s7,e7,s8,ws,e8,s9,o9,e9,r⟩:=next [f1] s5 (by simp) (fun f hf=>by rw[ej.1 hf];exact hf1) (g5.up (by omega))
   simp only[fU,du,e7,e8,an,ar,aE,aL,dz,hc1,bQ,ak,down j (by omega),e9];exact⟨s9,o9,rfl,r⟩
theorem ajH(code:List UInt8)(h:code.length<=1048576):∃l s',M.CO (aT.mk code 0 0)=some (l,s')/\1<=l.length/\l.length<=3/\∀x∈l,k9 x:=by
 have hb:=aZ;obtain⟨v,s1,e1,g1,v0,v3⟩:=ko (s:=aT.mk code 0 0) (m:=0) ⟨h,by show(0:Int)<=0;omega,by show(0:Int)<=0;omega⟩ (by omega) 3 (by omega) (by omega);obtain⟨vn,rfl⟩:=ka v0;have w:Go.IntKind.wrap Go.IntKind.i64 ((1:Int)+(vn:Int))=((vn+1:Nat):Int):=by rw[wrap_i64 (by omega) (by omega)];omega
 obtain⟨s2,l,e2,q1,q2⟩:=Ux (vn+1) ae s1 1 [] (by omega) (by omega) g1 (by omega) (by simp;omega) (fun p hp=>by cases hp);unfold M.CO;simp only[e1,an,ar,w,e2,bQ,ak,du];exact⟨l,_,rfl,by rw[q1];simp,by rw[q1];simp;omega,q2⟩
theorem ajI:k9 jB:=⟨.inl rfl,by decide,by decide,(fun f hf=>by cases hf),by decide,(fun f hf=>by cases hf)⟩
end M
namespace M
open Go.V (inB bN au ae aZ)
noncomputable def okB(x:ah):Bool:=gm x (gQ cE x)
def lg(x q:ah):Bool:=(x.Name==q.Name)&&(x.Version==q.Version)
noncomputable def qG(l:List ah)(k:Nat):Bool:=okB (l.getD k ah.zero)&& !((l.take k).any (lg (l.getD k ah.zero)))
noncomputable def lL(l:List ah):Nat->Nat->Bool
 |0,_=>true
 |n+1,k=>qG l k&&lL l n (k+1)
noncomputable def jY(l:List ah):Int:=bif decide ((8:Int)<((l.length:Nat):Int))then 4 else bif lL l l.length 0 then 0 else 1
theorem Uz(s:List ah)(f:ah)(hs:s.length<=1048576):∀(n k:Nat),s.length-k<n->k<=s.length->∃y,M.ze s f ((s.length:Nat):Int) n (k:Int)=some y/\Sum.elim (fun a:Int=>0<=a/\(s.drop k).any (lg f)=true) (fun _=>(s.drop k).any (lg f)=false) y
 |0,k,h,_=>by omega
 |n+1,k,h,hk=>by
  rw[M.ze];rcases cU k s.length with q|q
  ·rw[jw q,List.any_cons];have e:((f.Name==s[k].Name)&&(f.Version==s[k].Version))=lg f s[k]:=rfl;simp only[eO q,bG,dw _ q,e,ad,dB q,ak,cT q (by omega:s.length<2^62)];cases hc:lg f s[k]
   ·obtain⟨y,h1,h2⟩:=Uz s f hs n (k+1) (by omega) (by omega);refine⟨y,by simpa only[al]using h1,?_⟩;simpa only[ln]using h2
   ·exact⟨.inl (k:Int),rfl,show(0:Int)<=(k:Int) by omega,rfl⟩
  ·simp only[jj q,al];rw[List.drop_eq_nil_of_le q];exact⟨_,rfl,rfl⟩
theorem ajJ(s:List ah)(f:ah)(hs:s.length<=1048576):M.CP s f=some (s.any (lg f)):=by
 obtain⟨y,h1,h2⟩:=Uz s f hs ae 0 (by have:=aZ;omega) (cN _);rw[show((0:Nat):Int)=0 from rfl]at h1;rw[ig]at h2;unfold M.CP M.FX;rw[h1];cases y with
 |inl a=>
  have h2:0<=a/\s.any (lg f)=true:=h2;simp only[ar,an,ak,ad,h2.2,cM h2.1]
 |inr u=>
  have h2:s.any (lg f)=false:=h2;rw[h2];rfl
theorem UA(l:List ah)(hl:l.length<=8)(hz:∀x∈l,x.sz<=1048576):∀(n f k:Nat),n<f->k+n=l.length->M.wx l l ((l.length:Nat):Int) f (k:Int)=some (bif lL l n k then .inr ()else .inl 1)
 |n,0,k,h,_=>by omega
 |0,f+1,k,h,hk=>by
  rw[M.wx,lL];simp only[jj (show l.length<=k by omega),al,ad]
 |n+1,f+1,k,h,hk=>by
  have q:k<l.length:=by omega
  have ih:=UA l hl hz n f (k+1) (by omega) (by omega);rw[M.wx,lL];have e1:=(T8 l[k] (hz _ (de q))).1;have e2:List.drop (Int.toNat (0:Int)) (List.take k l)=l.take k:=rfl;have e3:=ajJ (l.take k) l[k] (by rw[ov];omega);have e4:bN (0:Int) (k:Int) l.length=true:=by unfold bN;simp only[bu,bX];omega
  have eg:qG l k=(gm l[k] (gQ cE l[k])&& !((l.take k).any (lg l[k]))):=by unfold qG okB;rw[dw _ q]
  rw[eg];simp only[eO q,bG,dw _ q,e1,e2,e3,e4,an,ar,dB q,bh,ak,ad,cT q (by omega:l.length<2^62),ih];cases gm l[k] (gQ cE l[k])<;>cases (l.take k).any (lg l[k])<;>rfl
theorem ajK(l:List ah)(hz:∀x∈l,x.sz<=1048576):M.CQ l=some (jY l):=by
 unfold M.CQ jY;cases hc:decide ((8:Int)<((l.length:Nat):Int))
 ·have hl:l.length<=8:=by have:=of_decide_eq_false hc;omega
  have e:=UA l hl hz l.length ae 0 (by have:=aZ;omega) (by omega);rw[show((0:Nat):Int)=0 from rfl]at e;simp only[al,e];cases lL l l.length 0<;>rfl
 ·rfl
theorem ajL(x q:ah):((q.Name==x.Name)&&(q.Version==x.Version))=lg x q:=by
 unfold lg;rw[BEq.comm,BEq.comm (a:=q.Version)]
theorem UB(l:List ah)(hl:l.length<=8)(i:Nat)(hi:i<l.length):∀(n f k:Nat),n<f->k+n=i->M.wy l (i:Int) f (k:Int)=some (bif((l.take i).drop k).any (lg l[i])then .inl 1 else .inr (l,(i:Int)))
 |n,0,k,h,_=>by omega
 |0,f+1,k,h,hk=>by
  have hki:k=i:=by omega
  subst hki;rw[M.wy,List.drop_eq_nil_of_le (by rw[ov];omega)];have:decide ((k:Int)<(k:Int))=false:=ct (by omega);simp only[this,al];rfl
 |n+1,f+1,k,h,hk=>by
  have q:k<i:=by omega
  have hkl:k<l.length:=by omega
  have ih:=UB l hl i hi n f (k+1) (by omega) (by omega);have hd:(l.take i).drop k=l[k]::(l.take i).drop (k+1):=by
   have hk2:k<(l.take i).length:=by rw[ov];omega
   rw[jw hk2,List.getElem_take]
  rw[M.wy,hd,List.any_cons,<-ajL];simp only[eO q,bG,dw _ hkl,dw _ hi,ad,dB hkl,dB hi,bh,ak,cT q (by omega:i<2^62),ih];cases ((l[k].Name==l[i].Name)&&(l[k].Version==l[i].Version))<;>rfl
theorem UC(l:List ah)(hl:l.length<=8)(hz:∀x∈l,x.sz<=1048576):∀(n f k:Nat),n<f->k+n=l.length->M.wz f l (k:Int)=some (bif lL l n k then .inr ()else .inl 1)
 |n,0,k,h,_=>by omega
 |0,f+1,k,h,hk=>by
  rw[M.wz,lL];simp only[jj (show l.length<=k by omega),al,ad]
 |n+1,f+1,k,h,hk=>by
  have q:k<l.length:=by omega
  have ih:=UC l hl hz n f (k+1) (by omega) (by omega);rw[M.wz,lL];have e1:=(T8 l[k] (hz _ (de q))).2.1;have e2:=UB l hl k q k ae 0 (by have:=aZ;omega) (by omega);rw[show((0:Nat):Int)=0 from rfl,ig]at e2;have eg:qG l k=(gm l[k] (gQ cE l[k])&& !((l.take k).any (lg l[k]))):=by unfold qG okB;rw[dw _ q]
  rw[eg];simp only[eO q,bG,dw _ q,e1,e2,an,ar,dB q,ak,ad];cases gm l[k] (gQ cE l[k])
  ·rfl
  ·cases (l.take k).any (lg l[k])
   ·simp only[bV,al,bp,ak,bj,cT q (by omega:l.length<2^62),ih]
   ·rfl
theorem ajM(l:List ah)(hz:∀x∈l,x.sz<=1048576):M.CS l=some (jY l):=by
 unfold M.CS jY;cases hc:decide ((8:Int)<((l.length:Nat):Int))
 ·have hl:l.length<=8:=by have:=of_decide_eq_false hc;omega
  have e:=UC l hl hz l.length ae 0 (by have:=aZ;omega) (by omega);rw[show((0:Nat):Int)=0 from rfl]at e;simp only[al,e];cases lL l l.length 0<;>rfl
 ·rfl
end M
namespace M
open Go.V (inB bN au ae aZ)
def FY(s:List UInt8):Int×Bool:=match cQ.ix s with
 |some n=>((n:Int),true)
 |none=>(0,false)
def FZ(s:List UInt8):Int:=match cQ.pF s with
 |some n=>(n:Int)
 |none=> -1
theorem F3(s:List UInt8)(h:s.length<=1048576):M.nZ s=some (FY s):=by
 have hs:M.strings_Split s [46]=some (cQ.ef s):=by
  unfold M.strings_Split;have:decide (s.length<4294967281)=true:=by rw[bX];omega
  rw[this];rfl
 have hrd:∀p∈cQ.ef s,M.nz p=some (M.d5 p):=fun p hp=>by
  have:=UD s p hp;unfold M.nz;have:decide (p.length<=281474976710656)=true:=by rw[bX];omega
  rw[this];rfl
 unfold M.nZ FY cQ.ix;rw[hs];simp only[an,ar,bj,bQ,ad]
 match hp:cQ.ef s,hrd with
 |[],_=>rfl
 |[a],_=>rfl
 |[a,b],_=>rfl
 |a::b::c::d::r,_=>
  have:((((a::b::c::d::r).length:Nat):Int) !=3)=true:=by
   simp only[aE,lR];omega
  rw[this];rfl
 |[a,b,c],hrd=>
   have h3:((((([a,b,c]:List (List UInt8)).length:Nat):Int) !=3))=false:=rfl;rw[h3];simp only[al];obtain⟨f0,hf0⟩:∃f0,ae=f0+4:=⟨ae-4,by have:=aZ;omega⟩;have ra:=hrd a (by simp);have rb:=hrd b (by simp);have rc:=hrd c (by simp);have st:∀(f:Nat)(n:Int)(k:Nat)(p:List UInt8)(hk:k<3),([a,b,c].getD k [])=p->M.nz p=some (M.d5 p)->M.my [a,b,c] ((([a,b,c]:List (List UInt8)).length:Nat):Int) (f+1) n (k:Int)=
    bif((!(M.d5 p).2)||(!(decide ((0:Int)<=(M.d5 p).1)&&decide ((M.d5 p).1<=999))))then some (.inl (0,false))else M.my [a,b,c] ((([a,b,c]:List (List UInt8)).length:Nat):Int) f (Go.IntKind.wrap .i64 (Go.IntKind.wrap .i64 (n*1000)+(M.d5 p).1)) ((k+1:Nat):Int):=fun f n k p hk hg hr=>by
    rw[M.my];have hlt:decide ((k:Int)<((([a,b,c]:List (List UInt8)).length:Nat):Int))=true:=by simp;omega
    have hin:inB (k:Int) ([a,b,c]:List (List UInt8)).length=true:=by rw[db];simp;omega
    simp only[hlt,ad,bG,hg,hr,an,ar,hin,bj,bQ,cT (show k<3 from hk) (by omega)]
   have e0:=st (f0+3) 0 0 a (by omega) rfl ra;rw[hf0];change M.my [a,b,c] ((([a,b,c]:List (List UInt8)).length:Nat):Int) (f0+4) 0 0=_ at e0;rw[e0];rcases zf a with⟨ha,ca⟩|⟨x,ha,hx,ea,ca⟩
   ·rw[ca,ha];rfl
   rw[ca,ha];have w1:Go.IntKind.wrap .i64 (Go.IntKind.wrap .i64 ((0:Int)*1000)+(M.d5 a).1)=(x:Int):=by
    rw[ea,wrap_i64 (n:=0*1000) (by omega) (by omega),wrap_i64 (by omega) (by omega)];omega
   rw[al,w1,st (f0+2) _ 1 b (by omega) rfl rb];rcases zf b with⟨hb,cb⟩|⟨y,hb,hy,eb,cb⟩
   ·rw[cb,hb];rfl
   rw[cb,hb];have w2:Go.IntKind.wrap .i64 (Go.IntKind.wrap .i64 ((x:Int)*1000)+(M.d5 b).1)=((x*1000+y:Nat):Int):=by
    rw[eb,wrap_i64 (show -9223372036854775808<=(x:Int)*1000 by omega) (by omega),wrap_i64 (by omega) (by omega)];omega
   rw[al,w2,st (f0+1) _ 2 c (by omega) rfl rc];rcases zf c with⟨hc,cc⟩|⟨z,hc,hz,ec,cc⟩
   ·rw[cc,hc];rfl
   rw[cc,hc];have w3:Go.IntKind.wrap .i64 (Go.IntKind.wrap .i64 (((x*1000+y:Nat):Int)*1000)+(M.d5 c).1)=(((x*1000+y)*1000+z:Nat):Int):=by
    rw[ec,wrap_i64 (show -9223372036854775808<=((x*1000+y:Nat):Int)*1000 by omega) (by omega),wrap_i64 (by omega) (by omega)];omega
   rw[al,w3,M.my];rfl
theorem F4(s:List UInt8):M.px s=some (FZ s):=by
 unfold M.px FZ cQ.pF;have hl:=F5 s ae 0 0 0 0 0 (cN _) (by have:=aZ;omega) ⟨by simp,cq _,fun _=>rfl,fun _=>rfl,fun h=>by omega,fun h=>by omega⟩;rw[ig]at hl;rcases hl with⟨e1,e2⟩|⟨m,q,e,m',e1,e2,hI⟩
 ·have e2':M.oa s ae 0 0 0 0=_:=e2;rw[e1,e2']
 ·have e2':M.oa s ae 0 0 0 0=_:=e2;rw[e1,e2'];simp only;have hq:q<1000000000000:=kC hI.fp (lQ (Nat.pow_le_pow_right (by decide) (show min s.length 12<=12 by omega)) (by decide));by_cases he:e=2
  ·subst he;have hm:=hI.d2 rfl;have hw:Go.IntKind.wrap .i64 (m'+(q:Int))=((m+q:Nat):Int):=by
    rw[hI.eq (by omega),wrap_i64 (by omega) (by omega)];omega
   rw[hw];by_cases hc:q<=999/\m+q<1000000000
   ·have c1:((((2:Nat):Int) !=2)||decide ((999:Int)<(q:Int)))=false:=by
     rw[lj,fa];exact⟨rfl,by omega⟩
    have c2:(decide ((0:Int)<=((m+q:Nat):Int))&&decide (((m+q:Nat):Int)<=999999999))=true:=by
     rw[bu,bX,bX];omega
    rw[c1,c2,UE hc.2];by_cases ht:cQ.jZ (m+q)=s
    ·rw[bf ⟨rfl,hc.1,hc.2,ht⟩];simp[ht]
    ·rw[bg (fun h=>ht h.2.2.2)];have:(cQ.jZ (m+q)==s)=false:=by rw[cO];exact ht
     simp[this]
   ·rw[bg (fun h=>hc ⟨h.2.1,h.2.2.1⟩)];have c:(((((2:Nat):Int) !=2)||decide ((999:Int)<(q:Int)))|| !(decide ((0:Int)<=((m+q:Nat):Int))&&decide (((m+q:Nat):Int)<=999999999)))=true:=by
     rw[gu,gu,bX,fb,Bool.and_eq_false_iff,fa,fa];omega
    rw[c];simp
  ·rw[bg (fun h=>he h.1)];have c:((((e:Nat):Int) !=2))=true:=by rw[lR];omega
   rw[c];simp
end M
namespace M
open Go.V (inB bN au ae aZ)
def su(h w:List UInt8):Bool:=match cQ.ix h,cQ.ix w with
 |some x,some y=>bif decide ((x:Int)<(y:Int))||((Go.IntKind.wrap .i64 (Int.tdiv (x:Int) 1000000)) !=(Go.IntKind.wrap .i64 (Int.tdiv (y:Int) 1000000)))then false
  else decide ((1000000:Int)<=(x:Int))||((Go.IntKind.wrap .i64 (Int.tdiv (x:Int) 1000))==(Go.IntKind.wrap .i64 (Int.tdiv (y:Int) 1000)))
 |_,_=>false
def od(a b:List UInt8):Bool:=match cQ.ix a,cQ.ix b with
 |some x,some y=>decide ((y:Int)<(x:Int))
 |_,_=>false
theorem UF:((1000000:Int) !=0)=true:=rfl
theorem UG:((1000:Int) !=0)=true:=rfl
theorem ajN(h w:List UInt8)(h1:h.length<=1048576)(h2:w.length<=1048576):M.CU h w=some (su h w):=by
 unfold M.CU su;simp only[F3 h h1,F3 w h2,an,ar,UF,UG,bh,ak,ad];unfold FY;cases cQ.ix h with
 |none=>rfl
 |some x=>
  cases cQ.ix w with
  |none=>rfl
  |some y=>simp only[bV,kb,ln];exact Me _ _ _
theorem F6(s:List UInt8):FZ s=match cQ.ix s with
 |some n=>(n:Int)
 |none=> -1:=by unfold FZ;rw[cQ.Oz];try (cases cQ.pF s<;>rfl)
theorem nn(n:Nat):decide ((n:Int)<0)=false:=ct (by omega)
theorem F7:decide ((-1:Int)<0)=true:=rfl
theorem ajO(h w:List UInt8):M.CV h w=some (su h w):=by
 unfold M.CV su;simp only[F4 h,F4 w,an,ar,UF,UG,bh,ak,ad];rw[F6,F6];cases cQ.ix h with
 |none=>simp only[F7,bh,ad]
 |some x=>
  cases cQ.ix w with
  |none=>simp only[F7,bh,d4,ad]
  |some y=>simp only[nn,kb,ln];exact Me _ _ _
theorem ne_self(x:Int):(x !=x)=false:=by rw[bne_eq_false_iff_eq]
theorem ajP(a b:List UInt8)(h1:a.length<=1048576)(h2:b.length<=1048576):M.CW a b=some (od a b):=by
 unfold M.CW M.F8 od;simp only[F3 a h1,F3 b h2,an,ar,ak,ad];unfold FY M.F9;cases cQ.ix a with
 |none=>rfl
 |some x=>
  cases cQ.ix b with
  |none=>rfl
  |some y=>
   simp only[bV,kb,al,ne_self];by_cases c1:(x:Int)<(y:Int)
   ·rw[cM c1,ct (show ¬(y:Int)<(x:Int) by omega)];rfl
   ·rw[ct c1];by_cases c2:(y:Int)<(x:Int)
    ·rw[cM c2];rfl
    ·rw[ct c2];rfl
theorem ajQ(a b:List UInt8):∃c e:Int,M.zg a b=some (c,e)/\decide (c<=0)= !od a b:=by
 unfold M.zg od;simp only[F4 a,F4 b,an,ar,ak,ad];rw[F6,F6];cases cQ.ix a with
 |none=>exact⟨0,14,by simp only[F7,bh,ad],rfl⟩
 |some x=>
  cases cQ.ix b with
  |none=>exact⟨0,14,by simp only[F7,d4,ad],rfl⟩
  |some y=>
   simp only[nn,kb,al];by_cases c1:(x:Int)<(y:Int)
   ·rw[cM c1,ct (show ¬(y:Int)<(x:Int) by omega)];exact⟨-1,0,rfl,rfl⟩
   ·rw[ct c1];by_cases c2:(y:Int)<(x:Int)
    ·rw[cM c2];exact⟨1,0,rfl,rfl⟩
    ·rw[ct c2];exact⟨0,0,rfl,rfl⟩
def wA(l:List ah)(name want:List UInt8)(s:Int×Bool)(k:Nat):Int×Bool:=
 bif !((l.getD k ah.zero).Name==name)then s
 else bif(!(want==[]))&& !su (l.getD k ah.zero).Version want then(s.1,true)
 else bif decide (s.1<0)||od (l.getD k ah.zero).Version (l.getD s.1.toNat ah.zero).Version then((k:Int),true)else(s.1,true)
def lM(l:List ah)(name want:List UInt8):Nat->Nat->Int×Bool->Int×Bool
 |0,_,s=>s
 |n+1,k,s=>lM l name want n (k+1) (wA l name want s k)
def sw(k:Nat)(b:Int):Prop:=b= -1\/(0<=b/\b<(k:Int))
theorem MO(l:List ah)(name want:List UInt8)(s:Int×Bool)(k:Nat)(h:sw k s.1):sw (k+1) (wA l name want s k).1:=by
 have up:sw (k+1) s.1:=h.imp id fun⟨a,b⟩=>⟨a,by omega⟩
 unfold wA;cases (l.getD k ah.zero).Name==name
 ·exact up
 ·cases ((!(want==[]))&& !su (l.getD k ah.zero).Version want)
  ·cases (decide (s.1<0)||od (l.getD k ah.zero).Version (l.getD s.1.toNat ah.zero).Version)
   ·exact up
   ·exact .inr ⟨by show(0:Int)<=(k:Int);omega,by show(k:Int)<((k+1:Nat):Int);omega⟩
  ·exact up
theorem MP(l:List ah)(name want:List UInt8):∀(n k:Nat)(s:Int×Bool),sw k s.1->sw (k+n) (lM l name want n k s).1
 |0,k,s,h=>h
 |n+1,k,s,h=>by
  have:=MP l name want n (k+1) _ (MO l name want s k h);rw[show k+1+n=k+(n+1) by omega]at this;exact this
theorem MQ(l:List ah)(hz:∀x∈l,x.sz<=1048576)(k:Nat):(l.getD k ah.zero).Version.length<=1048576:=by
 rcases cU k l.length with q|q
 ·rw[dw _ q];have h1:=hz _ (de q);have h2:=ah.cY l[k];omega
 ·rw[gp,kA q];show([]:List UInt8).length<=1048576
  simp
theorem MR{l:List ah}{k:Nat}{b:Int}(h:sw k b)(hk:k<=l.length)(hb:¬b<0):inB b l.length=true:=by
 rcases h with rfl|⟨h1,h2⟩
 ·omega
 ·unfold inB;rw[bu,bX,bX];omega
theorem UH(l:List ah)(name want:List UInt8)(hl:l.length<=8)(hz:∀x∈l,x.sz<=1048576)(hw:want.length<=1048576):∀(n f k:Nat)(b:Int)(m:Bool),n<f->k+n=l.length->sw k b->
 M.sx l name want l ((l.length:Nat):Int) f b m (k:Int)=some (l,want,(lM l name want n k (b,m)).1,(lM l name want n k (b,m)).2)
 |n,0,k,b,m,h,_,_=>by omega
 |0,f+1,k,b,m,h,hk,_=>by
  rw[M.sx,lM];simp only[jj (show l.length<=k by omega),al]
 |n+1,f+1,k,b,m,h,hk,hb=>by
  have q:k<l.length:=by omega
  have ih:=fun b' m' hb'=>UH l name want hl hz hw n f (k+1) b' m' (by omega) (by omega) hb'
  have hst:=MO l name want (b,m) k hb;rw[M.sx,lM];have e1:=ajN (l.getD k ah.zero).Version want (MQ l hz k) hw;have e2:=ajP (l.getD k ah.zero).Version (l.getD b.toNat ah.zero).Version (MQ l hz k) (MQ l hz _);have wk:=cT q (by omega:l.length<2^62);have hin:(inB b l.length|| !((decide (b<0))==false))=true:=by
   by_cases c:b<0
   ·rw[cM c];simp
   ·rw[MR hb (by omega) c];rfl
  have hor:∀a c:Bool,a=true->((a|| !c)&&(a||c))=true:=fun a c e=>by rw[e];rfl
  simp only[eO q,bG,ad,e1,e2,an,ar,dB q,bh,ak,hin,wk];unfold wA at hst⊢;cases c1:((l.getD k ah.zero).Name==name)
  ·rw[c1]at hst;simp only[bp,ad]at hst⊢;exact ih b m hst
  ·rw[c1]at hst;simp only[bV,al]at hst⊢;cases c2:((!(want==[]))&& !su (l.getD k ah.zero).Version want)
   ·rw[c2]at hst;simp only[al]at hst⊢;cases c3:(decide (b<0)||od (l.getD k ah.zero).Version (l.getD b.toNat ah.zero).Version)
    ·rw[c3]at hst;simp only[al]at hst⊢;exact ih b true hst
    ·rw[c3]at hst;simp only[ad]at hst⊢;exact ih (k:Int) true hst
   ·rw[c2]at hst;simp only[ad]at hst⊢;exact ih b true hst
def Ge(l:List ah)(name want:List UInt8):Int×Int×Int:=
 let s:=lM l name want l.length 0 (-1,false)
 bif !s.2 then(0,0,3)else bif decide (s.1<0)then(0,0,14)else bif want==[]then(s.1,4,0)else bif(l.getD s.1.toNat ah.zero).Version==want then(s.1,2,0)else(s.1,3,0)
def Gf(l:List ah)(name want:List UInt8):Int×Int×Int:=bif(!(want==[]))&& !nC want then(0,0,1)else Ge l name want
theorem ajR(l:List ah)(name want:List UInt8)(hl:l.length<=8)(hz:∀x∈l,x.sz<=1048576)(hw:want.length<=1048576):M.CX l name want=some (Gf l name want):=by
 unfold M.CX Gf;simp only[R9 want hw,an,ar,bh,ak,ad];cases ((!(want==[]))&& !nC want)
 ·simp only[al];unfold Ge;have e:=UH l name want hl hz hw l.length ae 0 (-1) false (by have:=aZ;omega) (by omega) (.inl rfl);have hin:=MP l name want l.length 0 (-1,false) (.inl rfl);rw[show((0:Nat):Int)=0 from rfl,show(-1:Int)= -(1:Int)from rfl]at e;rw[e];rw[show(-(1:Int))=(-1:Int)from rfl];generalize lM l name want l.length 0 (-1,false)=s at*;simp only;cases s.2
  ·rfl
  ·by_cases c:s.1<0
   ·rw[cM c];rfl
   ·rw[ct c,MR hin (by omega) c];cases (want==[])<;>cases ((l.getD s.1.toNat ah.zero).Version==want)<;>rfl
 ·rfl
theorem ajS{l:List ah}(h:(jY l !=0)=false):l.length<=8:=by
 unfold jY at h;cases hc:decide ((8:Int)<((l.length:Nat):Int))<;>rw[hc]at h
 ·have:=of_decide_eq_false hc;omega
 ·exact absurd h (by show ¬(((4:Int) !=0)=false);decide)
noncomputable def MS(l:List ah)(name want:List UInt8):Int×Int×Int:=bif jY l !=0 then(0,0,jY l)else Gf l name want
theorem ajT(l:List ah)(name want:List UInt8)(hz:∀x∈l,x.sz<=1048576)(hw:want.length<=1048576):M.zh l name want=some (MS l name want):=by
 unfold M.zh MS;simp only[ajK l hz,an,ar,ak,ad];cases hc:(jY l !=0)
 ·simp only[al,ajR l name want (ajS hc) hz hw,an,ar,ak,ad]
 ·rfl
end M
namespace M
open Go.V (inB bN au ae aZ)
theorem ajU:jY [jB]=0:=by
 have e:okB jB=true:=by unfold okB;exact ajv
 have hg:qG [jB] 0=true:=by
  unfold qG;show(okB jB&& !(List.take 0 [jB]).any (lg jB))=true
  rw[e];rfl
 unfold jY;have d:decide ((8:Int)<((([jB]:List ah).length:Nat):Int))=false:=rfl;have a:lL [jB] ([jB]:List ah).length 0=true:=by
  show(qG [jB] 0&&lL [jB] 0 1)=true
  rw[hg];rfl
 rw[d,a];rfl
theorem ajV:jY []=0:=rfl
theorem MU(l:List ah)(hl:l.length<=3)(hq:∀x∈l,k9 x):∀(j f i:Nat)(out:List ah),j<f->i+j=l.length->out.length<=i->(∀x∈out,k9 x)->jY out=0->
 ∃r,M.sy l f (i:Int) out=some r/\r.length<=3/\(∀x∈r,k9 x)/\jY r=0
 |j,0,i,out,h1,_,_,_,_=>by omega
 |0,f+1,i,out,h1,h2,h3,h4,h5=>by
  rw[M.sy,ct (by omega)];exact⟨out,rfl,by omega,h4,h5⟩
 |j+1,f+1,i,out,h1,h2,h3,h4,h5=>by
  have hi:i<l.length:=by omega
  have hall:∀x∈out++[l[i]],k9 x:=fun x hx=>by
   rcases df.1 hx with q|q
   ·exact h4 x q
   ·rw[ej.1 q];exact hq _ (de hi)
  have hc:=ajM (out++[l[i]]) (fun x hx=>by have:=(hall x hx).size;omega);have c1:=jW (a:=out.length) (b:=1) (by omega);have c2:=jW (a:=0) (b:=out.length) (by omega);have w:=Us i (by omega);rw[M.sy,cM (by omega)];simp only[ad,bG,dw _ hi,fB,hc,an,ar,aE,aL,dz,c1,dB hi,bQ,ak,w];simp only[dz]at c2;simp only[c2,bQ,ak,ad];cases hz:(jY (out++[l[i]])==0)
  ·simp only[al];exact MU l hl hq j f (i+1) out (by omega) (by omega) (by omega) h4 h5
  ·simp only[ad];exact MU l hl hq j f (i+1) (out++[l[i]]) (by omega) (by omega) (by simp;omega) hall (by simpa using hz)
theorem ajW(code:List UInt8)(h:code.length<=1048576):∃l,M.CY code=some l/\l.length<=3/\(∀x∈l,k9 x)/\jY l=0:=by
 obtain⟨l,s',e,h1,h3,hl⟩:=ajH code h;obtain⟨r,e2,r1,r2,r3⟩:=MU l h3 hl l.length ae 0 [] (by have:=aZ;omega) (by omega) (cN _) (fun x hx=>by cases hx) ajV;have e2':M.sy l ae 0 []=some r:=e2;unfold M.CY;simp only[e,an,e2',ar,bQ,ak,ad];cases hz:(((r.length:Nat):Int)==0)
 ·simp only[al];exact⟨r,rfl,r1,r2,r3⟩
 ·simp only[ad];exact⟨[jB],rfl,by simp,fun x hx=>by rw[ej.1 hx];exact ajI,ajU⟩
theorem UI(l:List ah):∀(n k:Nat),lL l n k=true->∀j,k<=j->j<k+n->qG l j=true
 |0,k,_,j,h1,h2=>by omega
 |n+1,k,h,j,h1,h2=>by
  rw[lL,bu]at h;rcases Nat.eq_or_lt_of_le h1 with q|q
  ·rw[<-q];exact h.1
  ·exact UI l n (k+1) h.2 j (by omega) (by omega)
theorem ajX{l:List ah}(hl:l.length<=8)(h:jY l=0):∀x∈l,gm x (gQ cE x)=true:=by
 unfold jY at h;rw[ct (show ¬(8:Int)<((l.length:Nat):Int) by omega)]at h;cases ha:lL l l.length 0
 ·rw[ha]at h;exact absurd h (by decide)
 ·intro x hx;obtain⟨j,hj,rfl⟩:=qT hx;have:=UI l _ _ ha j (cN _) (by omega);unfold qG at this;rw[dw _ hj,bu]at this;exact this.1
end M
namespace M
open Go.V (inB bN au ae aZ)
theorem ajY{l:List aj}{k k':Nat}{p:ah}(h:iu l k=.ok p k'):nC p.Version=true:=by
 unfold iu at h;obtain⟨_,_,_,h⟩:=bind_ok h;obtain⟨_,_,_,h⟩:=bind_ok h;obtain⟨_,_,_,h⟩:=bind_ok h;obtain⟨v,k4,hv,h⟩:=bind_ok h;obtain⟨_,_,_,h⟩:=bind_ok h;obtain⟨q,k6,h6,h⟩:=bind_ok h;cases h;unfold Bc at hv
 revert hv
 generalize hb:mS l _=c;intro hv;cases c
 ·cases hv
 ·cases hv;unfold mS at hb;rw[bu]at hb;exact hb.2
theorem ajZ{x:ah}{t:List UInt8}(h:gm x t=true):x.Version≠[]:=by
 obtain⟨-,hw,-⟩:=ajw h;obtain⟨l,k,-,-,hp⟩:=ajy hw;have:=ajY hp;intro e;rw[e]at this;exact absurd this (by decide+kernel)
def py(l:List ah)(b:Int):List UInt8:=bif decide (b<0)then[]else(l.getD b.toNat ah.zero).Version
theorem UJ{l:List ah}(hv:∀x∈l,x.Version≠[]){k:Nat}(hk:k<=l.length){b:Int}(h:sw k b):(py l b==[])=decide (b<0):=by
 unfold py;by_cases c:b<0
 ·rw[cM c];rfl
 ·rw[ct c];rcases h with rfl|⟨h1,h2⟩
  ·omega
  ·have q:b.toNat<l.length:=by omega
   simp only[al];rw[dw _ q,cO];exact hv _ (de q)
theorem aj0(a b:List UInt8):∃c e:Int,M.zg a b=some (c,e)/\decide (0<c)=od a b:=by
 obtain⟨c,e,h1,h2⟩:=ajQ a b;refine⟨c,e,h1,?_⟩;have:decide (0<c)= !decide (c<=0):=by rw[<-qV];simp only[mG];omega
 rw[this,h2,Bool.not_not]
theorem UK(l:List ah)(name want:List UInt8)(hl:l.length<=8)(hv:∀x∈l,x.Version≠[])(kk why a:Int):∀(n f k:Nat)(b:Int)(m:Bool),n<f->k+n=l.length->sw k b->
 M.qH l name want kk why a f m (py l b) (k:Int)=some (l,name,want,kk,why,a,(lM l name want n k (b,m)).2,py l (lM l name want n k (b,m)).1)
 |n,0,k,b,m,h,_,_=>by omega
 |0,f+1,k,b,m,h,hk,_=>by
  rw[M.qH,lM];simp only[jj (show l.length<=k by omega),al]
 |n+1,f+1,k,b,m,h,hk,hb=>by
  have q:k<l.length:=by omega
  have ih:=fun b' m' hb'=>UK l name want hl hv kk why a n f (k+1) b' m' (by omega) (by omega) hb'
  have hst:=MO l name want (b,m) k hb;rw[M.qH,lM];have e1:=ajO (l.getD k ah.zero).Version want;obtain⟨c,e,e2,e3⟩:=aj0 (l.getD k ah.zero).Version (py l b);have en:=UJ hv (by omega) hb;have wk:=cT q (by omega:l.length<2^62);have hor:∀c:Bool,((true|| !c)&&(true||c))=true:=fun c=>rfl
  simp only[eO q,bG,ad,e1,e2,e3,en,an,ar,dB q,bh,ak,wk];have hnew:(decide (b<0)||od (l.getD k ah.zero).Version (py l b))=(decide (b<0)||od (l.getD k ah.zero).Version (l.getD b.toNat ah.zero).Version):=by
   by_cases c:b<0
   ·rw[cM c];rfl
   ·rw[ct c];unfold py;rw[ct c];rfl
  rw[hnew];unfold wA at hst⊢;cases c1:((l.getD k ah.zero).Name==name)
  ·rw[c1]at hst;simp only[bp,ad]at hst⊢;exact ih b m hst
  ·rw[c1]at hst;simp only[bV,al]at hst⊢;cases c2:((!(want==[]))&& !su (l.getD k ah.zero).Version want)
   ·rw[c2]at hst;simp only[al]at hst⊢;cases c3:(decide (b<0)||od (l.getD k ah.zero).Version (l.getD b.toNat ah.zero).Version)
    ·rw[c3]at hst;simp only[al]at hst⊢;exact ih b true hst
    ·rw[c3]at hst;simp only[ad]at hst⊢;have e0:(l.getD k ah.zero).Version=py l (k:Int):=by
      unfold py;rw[ct (show ¬(k:Int)<0 by omega)];rfl
     rw[e0];exact ih (k:Int) true hst
   ·rw[c2]at hst;simp only[ad]at hst⊢;exact ih b true hst
structure sB (l:List ah) (name:List UInt8) (s:Int×Bool):Prop where
 no:s.2=false->s.1<0
 nm:0<=s.1->(l.getD s.1.toNat ah.zero).Name=name
theorem sB.step{l:List ah}{name:List UInt8}{s:Int×Bool}(want:List UInt8)(k:Nat)(h:sB l name s):sB l name (wA l name want s k):=by
 unfold wA;cases c1:((l.getD k ah.zero).Name==name)
 ·exact h
 ·cases ((!(want==[]))&& !su (l.getD k ah.zero).Version want)
  ·cases (decide (s.1<0)||od (l.getD k ah.zero).Version (l.getD s.1.toNat ah.zero).Version)
   ·exact⟨(fun q=>by cases q),h.nm⟩
   ·exact⟨(fun q=>by cases q),fun _=>by simpa using c1⟩
  ·exact⟨(fun q=>by cases q),h.nm⟩
theorem sB.all{l:List ah}{name:List UInt8}(want:List UInt8):∀(n k:Nat)(s:Int×Bool),sB l name s->sB l name (lM l name want n k s)
 |0,k,s,h=>h
 |n+1,k,s,h=>sB.all want n (k+1) _ (h.step want k)
theorem UL(code:List UInt8)(hc:code.length<=1048576)(i:Int)(h1:1<=i)(h2:i<=2)(n:Int)(hn:4<=n)(hn2:n<=5):∃k:Nat,M.zi code i n=some (k:Int)/\(k:Int)<n:=by
 unfold M.zi;have hne:(n !=0)=true:=by rw[lR];omega
 rw[ct (show ¬n<=1 by omega)];simp only[al,hne,bj,ad];have fin:∀x:Int,0<=x->∃k:Nat,some (Int.tmod x n)=some (k:Int)/\(k:Int)<n:=fun x hx=>by
  have t0:=Int.tmod_nonneg n hx;have t1:=Int.tmod_lt_of_pos x (show 0<n by omega);exact⟨(Int.tmod x n).toNat,by congr 1;omega,by omega⟩
 cases hz:(((code.length:Nat):Int)==0)
 ·have hpos:0<code.length:=by
   rw[cO]at hz;omega
  have hlen:(((code.length:Nat):Int) !=0)=true:=by rw[lR];omega
  have w1:Go.IntKind.wrap Go.IntKind.i64 (i+1)=i+1:=wrap_i64 (by omega) (by omega);have in1:inB (Int.tmod (i+1) ((code.length:Nat):Int)) code.length=true:=by
   have t0:=Int.tmod_nonneg ((code.length:Nat):Int) (show 0<=i+1 by omega);have t1:=Int.tmod_lt_of_pos (i+1) (show 0<((code.length:Nat):Int) by omega);unfold inB;rw[bu,bX,bX];exact⟨t0,t1⟩
  have in2:inB (Int.tmod i ((code.length:Nat):Int)) code.length=true:=by
   have t0:=Int.tmod_nonneg ((code.length:Nat):Int) (show 0<=i by omega);have t1:=Int.tmod_lt_of_pos i (show 0<((code.length:Nat):Int) by omega);unfold inB;rw[bu,bX,bX];exact⟨t0,t1⟩
  simp only[al,w1,in1,in2,hlen,ak,ad];refine fin _ ?_;have b1:=(List.getD code (Int.toNat (Int.tmod i ((code.length:Nat):Int))) (0:UInt8)).toNat_lt;have b2:=(List.getD code (Int.toNat (Int.tmod (i+1) ((code.length:Nat):Int))) (0:UInt8)).toNat_lt;generalize (List.getD code (Int.toNat (Int.tmod i ((code.length:Nat):Int))) (0:UInt8)).toNat=u1 at*;generalize (List.getD code (Int.toNat (Int.tmod (i+1) ((code.length:Nat):Int))) (0:UInt8)).toNat=u2 at*;have td:0<=Int.tdiv i ((code.length:Nat):Int)/\Int.tdiv i ((code.length:Nat):Int)<=2:=by
   rw[Int.tdiv_eq_ediv_of_nonneg (by omega)];exact⟨Int.ediv_nonneg (by omega) (by omega),Int.le_trans (Int.ediv_le_self _ (by omega)) h2⟩
  generalize Int.tdiv i ((code.length:Nat):Int)=td0 at*;rw[wrap_i64 (n:=((u1:Nat):Int)) (by omega) (by omega),wrap_i64 (n:=((u2:Nat):Int)) (by omega) (by omega),wrap_i64 (n:=((u1:Nat):Int)*31) (by omega) (by omega),wrap_i64 (n:=((u1:Nat):Int)*31+((u2:Nat):Int)) (by omega) (by omega),wrap_i64 (n:=td0) (by omega) (by omega),wrap_i64 (by omega) (by omega)];omega
 ·simp only[ad];refine fin _ ?_;rw[wrap_i64 (by omega) (by omega)];omega
def wants:List (List UInt8):=[[],[(49:UInt8),(46:UInt8),(48:UInt8),(46:UInt8),(48:UInt8)],[(49:UInt8),(46:UInt8),(49:UInt8),(46:UInt8),(48:UInt8)],[(50:UInt8),(46:UInt8),(48:UInt8),(46:UInt8),(48:UInt8)],[(48:UInt8),(46:UInt8),(49:UInt8),(46:UInt8),(48:UInt8)]]
theorem aj2:∀w∈wants,((!(w==[]))&& !nC w)=false/\w.length<=5:=by decide+kernel
theorem aj3(code:List UInt8):M.CZ code=some true:=by
 unfold M.CZ;by_cases hc:code.length<=1048576
 ·rw[ct (show ¬(1048576:Int)<((code.length:Nat):Int) by omega)];obtain⟨l,e0,hl,hq,hcode⟩:=ajW code hc;obtain⟨i,e1,hi⟩:=UL code hc 1 (by omega) (by omega) 4 (by omega) (by omega);obtain⟨j,e2,hj⟩:=UL code hc 2 (by omega) (by omega) 5 (by omega) (by omega);have hz:∀x∈l,x.sz<=1048576:=fun x hx=>by have:=(hq x hx).size;omega
  have hv:∀x∈l,x.Version≠[]:=fun x hx=>ajZ (ajX (by omega) hcode x hx)
  simp only[al,e0,e1,e2,an,ar,bG];have hin1:inB (i:Int) 4=true:=by rw[db];simp;omega
  have hin2:inB (j:Int) 5=true:=by rw[db];simp;omega
  generalize hname:List.getD [[(98:UInt8),(97:UInt8),(115:UInt8),(101:UInt8)],[(119:UInt8),(97:UInt8),(114:UInt8),(100:UInt8)],[(108:UInt8),(97:UInt8),(98:UInt8)],[(110:UInt8),(111:UInt8),(110:UInt8),(101:UInt8)]] i []=name;have hwant:List.getD [([]:List UInt8),[(49:UInt8),(46:UInt8),(48:UInt8),(46:UInt8),(48:UInt8)],[(49:UInt8),(46:UInt8),(49:UInt8),(46:UInt8),(48:UInt8)],[(50:UInt8),(46:UInt8),(48:UInt8),(46:UInt8),(48:UInt8)],[(48:UInt8),(46:UInt8),(49:UInt8),(46:UInt8),(48:UInt8)]] j []∈wants:=by
   show List.getD wants j []∈wants
   rw[dw _ (show j<wants.length by show j<5;omega)];exact de _
  obtain⟨w1,w2⟩:=aj2 _ hwant;generalize List.getD [([]:List UInt8),[(49:UInt8),(46:UInt8),(48:UInt8),(46:UInt8),(48:UInt8)],[(49:UInt8),(46:UInt8),(49:UInt8),(46:UInt8),(48:UInt8)],[(50:UInt8),(46:UInt8),(48:UInt8),(46:UInt8),(48:UInt8)],[(48:UInt8),(46:UInt8),(49:UInt8),(46:UInt8),(48:UInt8)]] j []=want at*;have ep:M.zh l name want=some (Ge l name want):=by
   rw[ajT l name want hz (by omega)];unfold MS Gf;rw[hcode,w1];rfl
  have el:=fun kk why a=>UK l name want (by omega) hv kk why a l.length ae 0 (-1) false (by have:=aZ;omega) (by omega) (.inl rfl)
  have TW:∀kk why a,M.qH l name want kk why a ae false [] 0=_:=el;have hI:sB l name (lM l name want l.length 0 (-1,false)):=sB.all want _ _ _ ⟨fun _=>by decide,fun h=>absurd h (by decide)⟩;have hP:=MP l name want l.length 0 (-1,false) (.inl rfl);rw[dz]at hP;have hB:=UJ hv (cq _) hP;simp only[ep,an,ar,TW];unfold Ge;generalize lM l name want l.length 0 (-1,false)=s at*;have l4:List.length [[(98:UInt8),(97:UInt8),(115:UInt8),(101:UInt8)],[(119:UInt8),(97:UInt8),(114:UInt8),(100:UInt8)],[(108:UInt8),(97:UInt8),(98:UInt8)],[(110:UInt8),(111:UInt8),(110:UInt8),(101:UInt8)]]=4:=rfl;have l5:List.length [([]:List UInt8),[(49:UInt8),(46:UInt8),(48:UInt8),(46:UInt8),(48:UInt8)],[(49:UInt8),(46:UInt8),(49:UInt8),(46:UInt8),(48:UInt8)],[(50:UInt8),(46:UInt8),(48:UInt8),(46:UInt8),(48:UInt8)],[(48:UInt8),(46:UInt8),(49:UInt8),(46:UInt8),(48:UInt8)]]=5:=rfl;simp only[hB,l4,l5,hin1,hin2,ak,ad];by_cases hn:s.1<0
  ·simp only[cM hn,ad];cases s.2<;>rfl
  ·have hs2:s.2=true:=by
    cases h2:s.2
    ·exact absurd (hI.no h2) hn
    ·rfl
   have hk:s.1.toNat<l.length:=by rcases hP with h|h<;>omega
   have hin:inB s.1 l.length=true:=MR hP (cq _) hn;have hb:py l s.1=(l.getD s.1.toNat ah.zero).Version:=by unfold py;rw[ct hn];rfl
   simp only[hs2,ct hn,al,bV];cases hw:(want==[])
   ·cases hx:((l.getD s.1.toNat ah.zero).Version==want)
    ·have hx2:(want==(l.getD s.1.toNat ah.zero).Version)=false:=by rw[BEq.comm];exact hx
     simp only[al,hI.nm (by omega),hb,hin,hx2,ct hn,ct (show ¬((l.length:Nat):Int)<=s.1 by omega),cn,bV,kb,bh,ak,ad];rfl
    ·have hx2:(want==(l.getD s.1.toNat ah.zero).Version)=true:=by rw[BEq.comm];exact hx
     simp only[al,ad,hI.nm (by omega),hb,hin,hx2,ct hn,ct (show ¬((l.length:Nat):Int)<=s.1 by omega),cn,bV,kb,bh,ak];rfl
   ·simp only[ad,hI.nm (by omega),hb,hin,ct hn,ct (show ¬((l.length:Nat):Int)<=s.1 by omega),cn,bV,kb,bh,ak,al];rfl
 ·rw[cM (show(1048576:Int)<((code.length:Nat):Int) by omega)];rfl
end M
